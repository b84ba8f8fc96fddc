/- slices.Min of two numbers; walk's smallest. -/
import Derived.Test.YtiddkceahbnolaaWayE
namespace Go.Proofs.Ytiddkceahbnolaa
open Go.RowKit Go.Shelf Go.Proofs.Ytiddkceahbnolaa.PWalkOrder Go.Proofs.YtiddkceahbnolaaW.PrintWords Go.Proofs.YtiddkceahbnolaaW.PrintLast
set_option linter.unusedVariables false
set_option linter.unusedSimpArgs false

theorem one_all : ∀ n : Fin 8, wrap64 (2 ^ n.1) = ((2 ^ n.1 : Nat) : Int) ∧ places (2 ^ n.1) = [n.1] ∧ 2 ^ n.1 < 256 := by decide +kernel
theorem one_ok {n : Nat} (h : n < 8) : wrap64 (2 ^ n) = ((2 ^ n : Nat) : Int) ∧ places (2 ^ n) = [n] ∧ 2 ^ n < 256 := one_all ⟨n, h⟩
def reachAt (W : List S77) (R : List S94) (limit : Int) (k : Nat) : List Int := ((List.range k).filter (fun n => decide (longF (tm R W.length) W (2 ^ n) ≤ limit))).map (fun n : Nat => (n : Int))
theorem reachAt_succ (W : List S77) (R : List S94) (limit : Int) (k : Nat) : reachAt W R limit (k + 1) = if longF (tm R W.length) W (2 ^ k) ≤ limit then reachAt W R limit k ++ [(k : Int)] else reachAt W R limit k := by
 unfold reachAt
 rw [List.range_succ, List.filter_append, List.map_append]
 by_cases h : longF (tm R W.length) W (2 ^ k) ≤ limit
 ·rw [if_pos h]
  simp [List.filter_cons, h]
 ·rw [if_neg h]
  simp [List.filter_cons, h]
theorem reachAt_len (W : List S77) (R : List S94) (limit : Int) (k : Nat) : (reachAt W R limit k).length ≤ k := by
 unfold reachAt
 rw [List.length_map]
 have := List.length_filter_le (fun n => decide (longF (tm R W.length) W (2 ^ n) ≤ limit)) (List.range k)
 rwa [List.length_range] at this
def reachF (W : List S77) (R : List S94) (limit : Int) : List Int × Int :=
 if chkMap W R = 0 then (if withinB limit 0 10000 = true then (reachAt W R limit W.length, 0) else ([], 2)) else ([], chkMap W R)

set_option maxRecDepth 100000 in
set_option maxHeartbeats 40000000 in
theorem Reach_calls {A0 : Option Addr} {c0 : Nat} {Wk : List S77} {A1 : Option Addr} {c1 : Nat} {R : List S94} {w : World} (limit : Int) (h : IsMap w A0 c0 Wk A1 c1 R) :
  Calls Try.prog 12 #[.agg #[.slice A0 Wk.length c0, .slice A1 R.length c1], .int .i64 limit] w fun e w' => (∃ v, e = .returned (.tuple #[v, .int .i64 (reachF Wk R limit).2]) ∧ (Kd.int .i64).R 3 w' w.heap.size (fun _ => True) v (reachF Wk R limit).1) ∧ Below w.heap.size w w' := by
 have H := Aside0.mk h
 clear h
 go_enter Try.func12, Try.ntmps12
 go_wp2_with fail
 have hb0 := below_alloc (Below.refl w.heap.size w) (.cells #[.slice A0 Wk.length c0, .slice A1 R.length c1] 41)
 have B0 := Blk.new w [.slice A0 Wk.length c0, .slice A1 R.length c1] 41
 refine (CheckMap_calls (H.out.below hb0)).mono ?_
 rintro e w1 ⟨rfl, hb1⟩
 have B1 := Aside0.mk (B0.below hb1)
 have HB1 := Aside0.mk (hb0.trans (hb1.mono (by simp)))
 have H1 := Aside0.mk (H.out.below HB1.out)
 have h10 := B1.out.cell 0
 have h11 := B1.out.cell 1
 simp only [sb3, sb4] at h10 h11
 clear hb0 hb1 B0
 by_cases hc : chkMap Wk R = 0
 ·have hcb : (chkMap Wk R != 0) = false := by simp [hc]
  obtain ⟨hN0, hN, _, hW, hR, _⟩ := chk_ok hc
  have HFW := Aside0.mk (show reachF Wk R limit = ((if withinB limit 0 10000 = true then (reachAt Wk R limit Wk.length, 0) else ([], 2)) : List Int × Int) by unfold reachF; rw [if_pos hc])
  rw [hc]
  clear hc
  go_wp2_with fail
  refine (limited_calls limit w1).mono ?_
  rintro e w2 ⟨rfl, hb2⟩
  have B2 := Aside0.mk (B1.out.below hb2)
  have HB2 := Aside0.mk (HB1.out.trans (hb2.mono HB1.out.size))
  have H2 := Aside0.mk (H.out.below HB2.out)
  have h20 := B2.out.cell 0
  have h21 := B2.out.cell 1
  simp only [sb3, sb4] at h20 h21
  clear hb2 B1 HB1 H1 h10 h11
  cases hl : withinB limit 0 10000
  ·rw [hl, if_neg (by simp)] at HFW
   go_wp2_with fail
   go_ret2
   rw [HFW.out]
   exact ⟨⟨_, rfl, Kd.R_nil _ _ _ _ _⟩, HB2.out⟩
  ·rw [hl, if_pos rfl] at HFW
   go_wp2_with fail
   refine (atlas_calls H2.out hN hR).mono ?_
   rintro e w3 ⟨ga, mb, rfl, hga, hA3, hb3⟩
   have HB3 := Aside0.mk (HB2.out.trans (hb3.mono HB2.out.size))
   have B3 := Aside0.mk (B2.out.below hb3)
   have h30 := B3.out.cell 0
   have h31 := B3.out.cell 1
   simp only [sb3, sb4] at h30 h31
   have HA3 := Aside0.mk hA3
   have hsz3 := hb3.size
   have hw2 := HB2.out.size
   clear h20 h21 hb3 hA3 B2
   go_wp2_with fail
   go_loopw [8, 23] (fun v8 v23 wr => ∃ k : Nat, k ≤ Wk.length ∧ v23 = .int .i64 k ∧ Aside0 (AtlS w2 wr A0 c0 Wk A1 c1 R ga mb (tm R Wk.length) (fs R Wk.length)) ∧ Aside0 (Below w.heap.size w wr) ∧ w3.heap.size ≤ wr.heap.size ∧ Aside0 ((Kd.int .i64).R 3 wr w3.heap.size (fun b => w3.heap.size ≤ b) v8 (reachAt Wk R limit k))) (fun _ v23 _ => Wk.length - (intOf v23).toNat)
   case atStart => exact ⟨0, Nat.zero_le _, rfl, HA3, HB3, Nat.le_refl _, ⟨Kd.R_nil _ _ _ _ _⟩⟩
   case round =>
    have hga3 : ga < w3.heap.size := HA3.out.atl.atl.lt
    have hmb3 : mb < w3.heap.size := HA3.out.atl.memo.lt
    have hs23 : w2.heap.size ≤ w3.heap.size := hsz3
    have hw3 : w.heap.size ≤ w3.heap.size := by omega
    have hlo := HA3.out.lo
    clear HA3 HB3 B3 h30 h31
    obtain ⟨k, hk, rfl, HA, HB, hsr, HR⟩ := hrel
    by_cases hkl : k < Wk.length
    ·obtain ⟨ho1, ho2, ho3⟩ := one_ok (n := k) (by omega)
     have hle := reachAt_len Wk R limit k
     have hsu := reachAt_succ Wk R limit k
     by_cases hlm : longF (tm R Wk.length) Wk (2 ^ k) ≤ limit
     ·have hlmb : decide (longF (tm R Wk.length) Wk (2 ^ k) ≤ limit) = true := by simpa using hlm
      rw [if_pos hlm] at hsu
      have HSU := Aside0.mk hsu
      clear hsu hlm
      go_wp2_with fail
      refine (longest_calls (tm_bounded hR) hW (2 ^ k) ho3 (by rw [ho2]; simpa using hkl) HA.out).mono ?_
      rintro e w5 ⟨rfl, hA5, hK5⟩
      have HA5 := Aside0.mk hA5
      have HB5 := Aside0.mk (HB.out.trans ⟨hK5.os, hK5.tape, hK5.output, hK5.size, fun i hi => hK5.block i (by omega) (by omega)⟩)
      have HR5 := Aside0.mk (Kd.R_step HR.out (fun b hb hlt => hK5.block b hlt (by omega)))
      have hs5 := Nat.le_trans hsr hK5.size
      clear hA5 hK5 HA HB HR
      go_wp2_with ((with_reducible refine gate_builtin (b := .append) (xs := #[.tmp 32, .tmp 34]) rfl ?_); at_builtin; refine Kd.R_append (Kd.int .i64) (w0 := w5) w3.heap.size rfl (.tmp 32) (.tmp 34) 26 3 (.int .i64 0) 8 rfl Try.underlying26 info3 rfl (by decide) (by omega) u8 (reachAt Wk R limit k) (k : Int) [.int .i64 (k : Int)] (fun b => w3.heap.size ≤ b) (fun _ => False) rfl rfl ?aP (fun _ hk => hk.elim) ?aF ?aO ?aB ?aS ?aL ?_; (case aP => exact rfl); (case aF => exact (fun b hb => Nat.le_trans hs5 hb)); (case aO => exact HR5.out); (case aB => exact Below.refl _ _); (case aS => exact hs5); (case aL => omega); intro vn wn hon hbn hgn hatn; have HRn := Aside0.mk hon; have HAn := Aside0.mk (⟨HA5.out.map, HA5.out.below.trans (hbn.mono hs23), HA5.out.lo, HA5.out.atl.atl.move (hbn.block ga hga3), HA5.out.atl.memo.move (hbn.block mb hmb3), HA5.out.atl.ne⟩ : AtlS w2 wn A0 c0 Wk A1 c1 R ga mb (tm R Wk.length) (fs R Wk.length)); have HBn := Aside0.mk (HB5.out.trans (hbn.mono hw3)); have hsn := Nat.le_trans hs5 hbn.size; clear hon hbn hgn hatn)
      go_roundw
      case rel => exact ⟨k + 1, by omega, by go_num, HAn, HBn, hsn, ⟨by rw [HSU.out]; exact HRn.out⟩⟩
      case measure => simp [intOf]; omega
     ·have hlmb : decide (longF (tm R Wk.length) Wk (2 ^ k) ≤ limit) = false := by simpa using hlm
      rw [if_neg hlm] at hsu
      have HSU := Aside0.mk hsu
      clear hsu hlm
      go_wp2_with fail
      refine (longest_calls (tm_bounded hR) hW (2 ^ k) ho3 (by rw [ho2]; simpa using hkl) HA.out).mono ?_
      rintro e w5 ⟨rfl, hA5, hK5⟩
      have HA5 := Aside0.mk hA5
      have HB5 := Aside0.mk (HB.out.trans ⟨hK5.os, hK5.tape, hK5.output, hK5.size, fun i hi => hK5.block i (by omega) (by omega)⟩)
      have HR5 := Aside0.mk (Kd.R_step HR.out (fun b hb hlt => hK5.block b hlt (by omega)))
      have hs5 := Nat.le_trans hsr hK5.size
      clear hA5 hK5 HA HB HR
      go_wp2_with fail
      go_roundw
      case rel => exact ⟨k + 1, by omega, by go_num, HA5, HB5, hs5, ⟨by rw [HSU.out]; exact HR5.out⟩⟩
      case measure => simp [intOf]; omega
    ·obtain rfl : k = Wk.length := by omega
     go_wp2_with fail
     go_ret2
     rw [HFW.out]
     exact ⟨⟨_, rfl, Kd.R_mono (Kd.R_lower HR.out hw3) (fun _ _ => trivial)⟩, HB.out⟩
 ·have hcb : (chkMap Wk R != 0) = true := by simp [hc]
  go_wp2_with fail
  have hfew : reachF Wk R limit = ([], chkMap Wk R) := by unfold reachF; rw [if_neg hc]
  go_ret2
  rw [hfew]
  exact ⟨⟨_, rfl, Kd.R_nil _ _ _ _ _⟩, HB1.out⟩
end Go.Proofs.Ytiddkceahbnolaa

namespace Go.Proofs.Ytiddkceahbnolaa
open Go.RowKit Go.Shelf Go.Proofs.Ytiddkceahbnolaa.PWalkOrder Go.Proofs.YtiddkceahbnolaaW.PrintWords
set_option linter.unusedVariables false
set_option linter.unusedSimpArgs false

set_option maxRecDepth 100000 in
set_option maxHeartbeats 4000000 in
theorem Min_calls (g : Nat) (x y : Int) (w : World) (hx : w.cell? ⟨g, 0, none⟩ = some (.int .i64 x)) (hy : w.cell? ⟨g, 1, none⟩ = some (.int .i64 y)) :
  Calls Try.prog 78 #[.slice (some ⟨g, 0, none⟩) 2 2] w fun e w' => e = .returned (.int .i64 (min x y)) ∧ w' = w := by
 go_enter Try.func78, Try.ntmps78
 go_wp2_with fail
 go_loopw [3, 4] (fun v3 v4 wr => ((v3 = .int .i64 x ∧ v4 = .int .i64 1) ∨ (v3 = .int .i64 (min x y) ∧ v4 = .int .i64 2)) ∧ wr = w) (fun _ v4 _ => 2 - (intOf v4).toNat)
 case atStart => exact ⟨.inl ⟨rfl, rfl⟩, rfl⟩
 case round =>
  obtain ⟨⟨rfl, rfl⟩ | ⟨rfl, rfl⟩, rfl⟩ := hrel
  ·go_wp2_with fail
   have hmin : (if y < x then y else x) = min x y := by
    by_cases h : y < x
    ·rw [if_pos h]; omega
    ·rw [if_neg h]; omega
   exact ⟨⟨.inr ⟨by rw [hmin], rfl⟩, trivial⟩, by simp [intOf]⟩
  ·go_wp2_with fail
   go_ret
   exact ⟨rfl, rfl⟩

set_option maxRecDepth 100000 in
set_option maxHeartbeats 4000000 in
theorem smallest_calls (g : Nat) (x y : Int) (w : World) (hx : w.cell? ⟨g, 0, none⟩ = some (.int .i64 x)) (hy : w.cell? ⟨g, 1, none⟩ = some (.int .i64 y)) :
  Calls Try.prog 42 #[.slice (some ⟨g, 0, none⟩) 2 2] w fun e w' => e = .returned (.int .i64 (min x y)) ∧ w' = w := by
 go_enter Try.func42, Try.ntmps42
 go_wp2_with fail
 refine (Min_calls g x y w hx hy).mono ?_
 rintro e w' ⟨rfl, rfl⟩
 go_wp2_with fail
 go_ret
 exact ⟨rfl, rfl⟩
end Go.Proofs.Ytiddkceahbnolaa
