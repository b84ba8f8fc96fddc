/- walk's divided, Fewest. -/
import Derived.Test.YtiddkceahbnolaaDivC
namespace Go.Proofs.Ytiddkceahbnolaa
open Go.RowKit Go.Proofs.Ytiddkceahbnolaa.PWalkOrder Go.Proofs.YtiddkceahbnolaaW.PrintWords
set_option linter.unusedVariables false

theorem insideB_ok {lo hi a b : Int} (h : insideB lo hi a b = true) : a ≤ lo ∧ lo ≤ hi ∧ hi ≤ b := by
 unfold insideB at h
 simp only [Bool.and_eq_true, decide_eq_true_eq] at h
 exact ⟨h.1, h.2.1, h.2.2⟩
theorem placeB_ok {n : Nat} {x : Int} (h : placeB n x = true) : 0 ≤ x ∧ x < n := by
 unfold placeB withinB at h
 simp only [Bool.and_eq_true, decide_eq_true_eq] at h
 omega
theorem chk_ok {W : List S77} {R : List S94} (h : chkMap W R = 0) : 0 < W.length ∧ W.length ≤ 8 ∧ R.length ≤ 20 ∧ WorkOk W ∧ (∀ r ∈ R, RoadOk W.length r) ∧ roadsB W R = true := by
 unfold chkMap at h
 by_cases h1 : W.length ≤ 8 ∧ R.length ≤ 20
 ·rw [if_pos h1] at h
  by_cases h2 : W.length = 0
  ·rw [if_pos h2] at h; cases h
  ·rw [if_neg h2] at h
   cases h3 : W.all workB with
   | false => rw [h3] at h; cases h
   | true =>
    rw [h3, if_pos rfl] at h
    cases h4 : roadsB W R with
    | false => rw [h4] at h; cases h
    | true =>
     refine ⟨by omega, h1.1, h1.2, fun r hr => insideB_ok (List.all_eq_true.1 h3 r hr), fun r hr => ?_, rfl⟩
     obtain ⟨k, hk, rfl⟩ := List.getElem_of_mem hr
     have h5 := List.all_eq_true.1 (show ((List.range R.length).all (okRoad W R)) = true from h4) k (List.mem_range.2 hk)
     have e : enc_rd_Road R k = R[k] := by simp [enc_rd_Road, rd_T94, List.getD, hk]
     unfold okRoad at h5
     rw [e] at h5
     simp only [Bool.and_eq_true, Bool.not_eq_true', beq_eq_false_iff_ne, ne_eq] at h5
     obtain ⟨p1, p2, p3, p4, _⟩ := h5
     have q1 := placeB_ok p1
     have q2 := placeB_ok p2
     have q3 := insideB_ok p4
     exact ⟨q1.1, q1.2, q2.1, q2.2, p3, q3.1, q3.2.1, q3.2.2⟩
 ·rw [if_neg h1] at h; cases h
end Go.Proofs.Ytiddkceahbnolaa

namespace Go.Proofs.Ytiddkceahbnolaa
open Go.RowKit Go.Shelf Go.Proofs.Ytiddkceahbnolaa.PWalkOrder Go.Proofs.YtiddkceahbnolaaW.PrintWords Go.Proofs.YtiddkceahbnolaaW.PrintLast
set_option linter.unusedVariables false
set_option linter.unusedSimpArgs false

theorem limited_calls (n : Int) (w : World) : Calls Try.prog 39 #[.int .i64 n] w fun e w' => e = .returned (.bool (withinB n 0 10000)) ∧ Below w.heap.size w w' := by
 refine (walk_limited.calls n (withinB n 0 10000) w ?_).mono ?_
 ·unfold walk_limited.f walk_within.f withinB
  by_cases h : 0 ≤ n <;> simp [h]
 ·rintro e w' ⟨h1, h2⟩
  exact ⟨h1, h2.below⟩

/-- What the atlas of a valid map is in memory. -/
theorem atlas_calls {A0 : Option Addr} {c0 : Nat} {Wk : List S77} {A1 : Option Addr} {c1 : Nat} {R : List S94} {w : World} (h : IsMap w A0 c0 Wk A1 c1 R) (hN : Wk.length ≤ 8) (hR : ∀ r ∈ R, RoadOk Wk.length r) :
  Calls Try.prog 32 #[.agg #[.slice A0 Wk.length c0, .slice A1 R.length c1]] w fun e w' => ∃ ga mb, e = .returned (.pointer (some ⟨ga, 0, none⟩)) ∧ w.heap.size ≤ ga ∧ AtlS w w' A0 c0 Wk A1 c1 R ga mb (tm R Wk.length) (fs R Wk.length) ∧ Below w.heap.size w w' := by
 refine (callsIn_wide.1 (atlas_in h hN hR)).mono ?_
 rintro e w' ⟨ga, mb, rfl, h1, h2, h3, h4, h5⟩
 refine ⟨ga, mb, rfl, h3, ⟨h, h5, h4, h1, Memo.new h2, ?_⟩, h5⟩
 rintro rfl
 obtain ⟨cs, h6, _⟩ := h1.blk
 rw [h6] at h2
 cases h2

def fewF (W : List S77) (R : List S94) (limit : Int) : Nat × Int :=
 if chkMap W R = 0 then (if withinB limit 0 10000 = true then (match split (badF (tm R W.length) W limit) (2 ^ W.length - 1) with | none => (0, 9) | some k => (k, 0)) else (0, 2)) else (0, chkMap W R)

set_option maxRecDepth 100000 in
set_option maxHeartbeats 40000000 in
theorem divided_calls {A0 : Option Addr} {c0 : Nat} {Wk : List S77} {A1 : Option Addr} {c1 : Nat} {R : List S94} {w : World} (limit : Int) (h : IsMap w A0 c0 Wk A1 c1 R) :
  Calls Try.prog 40 #[.agg #[.slice A0 Wk.length c0, .slice A1 R.length c1], .int .i64 limit] w fun e w' => (∃ p A c, e = .returned (.tuple #[.pointer p, .slice A (fewF Wk R limit).1 c, .int .i64 (fewF Wk R limit).2])) ∧ Below w.heap.size w w' := by
 have H := Aside0.mk h
 clear h
 go_enter Try.func40, Try.ntmps40
 go_wp2_with fail
 have hb0 := below_alloc (Below.refl w.heap.size w) (.cells #[.slice A0 Wk.length c0, .slice A1 R.length c1] 41)
 have B0 := Blk.new w [.slice A0 Wk.length c0, .slice A1 R.length c1] 41
 have H0 := Aside0.mk (H.out.below hb0)
 refine (CheckMap_calls H0.out).mono ?_
 rintro e w1 ⟨rfl, hb1⟩
 have B1 := Aside0.mk (B0.below hb1)
 have HB1 := Aside0.mk (hb0.trans (hb1.mono (by simp)))
 have H1 := Aside0.mk (H.out.below HB1.out)
 have h10 := B1.out.cell 0
 have h11 := B1.out.cell 1
 simp only [sb3, sb4] at h10 h11
 clear hb0 hb1 B0 H0
 by_cases hc : chkMap Wk R = 0
 ·have hcb : (chkMap Wk R != 0) = false := by simp [hc]
  obtain ⟨hN0, hN, _, hW, hR, _⟩ := chk_ok hc
  have hfew : fewF Wk R limit = ((if withinB limit 0 10000 = true then (match split (badF (tm R Wk.length) Wk limit) (2 ^ Wk.length - 1) with | none => (0, 9) | some k => (k, 0)) else (0, 2)) : Nat × Int) := by unfold fewF; rw [if_pos hc]
  have HFW := Aside0.mk hfew
  rw [hc]
  clear hc hfew
  go_wp2_with fail
  refine (limited_calls limit w1).mono ?_
  rintro e w2 ⟨rfl, hb2⟩
  have B2 := Aside0.mk (B1.out.below hb2)
  have HB2 := Aside0.mk (HB1.out.trans (hb2.mono HB1.out.size))
  have H2 := Aside0.mk (H.out.below HB2.out)
  have h20 := B2.out.cell 0
  have h21 := B2.out.cell 1
  simp only [sb3, sb4] at h20 h21
  clear hb2 B1 HB1 H1 h10 h11
  cases hl : withinB limit 0 10000
  ·rw [hl, if_neg (by simp)] at HFW
   go_wp2_with fail
   go_ret3
   rw [HFW.out]
   exact ⟨⟨none, none, 0, rfl⟩, HB2.out⟩
  ·rw [hl, if_pos rfl] at HFW
   go_wp2_with fail
   refine (atlas_calls H2.out hN hR).mono ?_
   rintro e w3 ⟨ga, mb, rfl, hga, hA3, hb3⟩
   have HB3 := Aside0.mk (HB2.out.trans (hb3.mono HB2.out.size))
   go_wp2_with fail
   refine (divide_calls limit hN (tm_bounded hR) hW hA3).mono ?_
   rintro e w4 ⟨Al, cl, rfl, hA4, hK4⟩
   have HB4 := Aside0.mk (HB2.out.trans (hA4.below.mono HB2.out.size))
   clear hA4 hK4 hA3 hb3 HB3
   cases hsp : split (badF (tm R Wk.length) Wk limit) (2 ^ Wk.length - 1) with
   | none =>
    rw [hsp] at HFW
    simp only [Option.getD_none, Option.isSome_none]
    go_wp2_with fail
    go_ret3
    rw [HFW.out]
    exact ⟨⟨none, none, 0, rfl⟩, HB4.out⟩
   | some k =>
    rw [hsp] at HFW
    simp only [Option.getD_some, Option.isSome_some]
    go_wp2_with fail
    go_ret3
    rw [HFW.out]
    exact ⟨⟨_, Al, cl, rfl⟩, HB4.out⟩
 ·have hcb : (chkMap Wk R != 0) = true := by simp [hc]
  go_wp2_with fail
  have hfew : fewF Wk R limit = (0, chkMap Wk R) := by unfold fewF; rw [if_neg hc]
  go_ret3
  rw [hfew]
  exact ⟨⟨none, none, 0, rfl⟩, HB1.out⟩

set_option maxRecDepth 100000 in
set_option maxHeartbeats 40000000 in
theorem Fewest_calls {A0 : Option Addr} {c0 : Nat} {Wk : List S77} {A1 : Option Addr} {c1 : Nat} {R : List S94} {w : World} (limit : Int) (h : IsMap w A0 c0 Wk A1 c1 R) :
  Calls Try.prog 14 #[.agg #[.slice A0 Wk.length c0, .slice A1 R.length c1], .int .i64 limit] w fun e w' => e = .returned (.tuple #[.int .i64 (fewF Wk R limit).1, .int .i64 (fewF Wk R limit).2]) ∧ Below w.heap.size w w' := by
 have H := Aside0.mk h
 clear h
 go_enter Try.func14, Try.ntmps14
 go_wp2_with fail
 have hb0 := below_alloc (Below.refl w.heap.size w) (.cells #[.slice A0 Wk.length c0, .slice A1 R.length c1] 41)
 refine (divided_calls limit (H.out.below hb0)).mono ?_
 rintro e w1 ⟨⟨p, A, c, rfl⟩, hb1⟩
 have HB1 := Aside0.mk (hb0.trans (hb1.mono (by simp)))
 clear hb0 hb1
 go_wp2_with fail
 go_ret2
 exact ⟨rfl, HB1.out⟩
end Go.Proofs.Ytiddkceahbnolaa
