/- border's consistent: the error of a map, also if it is not consistent. -/
import Derived.Test.YtiddkceahbnolaaZWei
namespace Go.Proofs.Ytiddkceahbnolaa
open Go.RowKit Go.Shelf Go.Proofs.Ytiddkceahbnolaa.PBorderOrder Go.Proofs.YtiddkceahbnolaaW.PrintWords Go.Proofs.YtiddkceahbnolaaW.PrintLast
set_option linter.all false
def chkB (old : List Int) (nw : Int) (ss : List S115) (js : List S119) : Int :=
 if old.length ≤ 4 ∧ ss.length ≤ 8 ∧ js.length ≤ 20 then
  (if old.length = 0 ∨ ss.length = 0 then 1 else if (old.all (fun n => withinB n 0 10000) && (withinB nw 1 4 && (ss.all (streetB old.length nw) && (weighedB old.length ss && js.all (joinB ss.length))))) = true then 0 else 1) else 3
theorem street_wt {no : Nat} {nw : Int} {ss : List S115} (h : ss.all (streetB no nw) = true) : ∀ s ∈ ss, 0 ≤ s.f2 ∧ s.f2 ≤ 1000 := by
 intro s hs
 have := List.all_eq_true.1 h s hs
 unfold streetB withinB at this
 simp only [Bool.and_eq_true, decide_eq_true_eq] at this
 omega
set_option maxRecDepth 100000 in
set_option maxHeartbeats 40000000 in
theorem CheckMap_calls {A0 : Option Addr} {c0 : Nat} {old : List Int} {nw : Int} {A2 : Option Addr} {c2 : Nat} {ss : List S115} {A3 : Option Addr} {c3 : Nat} {js : List S119} {w : World} (h : IsB w A0 c0 old A2 c2 ss A3 c3 js) :
  Calls Try.prog 56 #[.agg #[.slice A0 old.length c0, .int .i64 nw, .slice A2 ss.length c2, .slice A3 js.length c3]] w fun e w' => e = .returned (.int .i64 (chkB old nw ss js)) ∧ Below w.heap.size w w' := by
 have H := Aside0.mk h
 have hb0 := h.b0
 have hb2 := h.b2
 have hb3 := h.b3
 clear h
 go_enter Try.func56, Try.ntmps56
 go_wp2_with fail
 have HB0 := Aside0.mk (below_alloc (Below.refl w.heap.size w) (.cells #[.slice A0 old.length c0, .int .i64 nw, .slice A2 ss.length c2, .slice A3 js.length c3] 69))
 have B10 := Aside0.mk (Blk.new w [.slice A0 old.length c0, .int .i64 nw, .slice A2 ss.length c2, .slice A3 js.length c3] 69)
 generalize w.alloc (.cells #[.slice A0 old.length c0, .int .i64 nw, .slice A2 ss.length c2, .slice A3 js.length c3] 69) = w0 at HB0 B10 ⊢
 have h10 := B10.out.cell 0
 have h11 := B10.out.cell 1
 have h12 := B10.out.cell 2
 have h13 := B10.out.cell 3
 simp only [sb3, sb4] at h10 h11 h12 h13
 go_region
 have HB1 := Aside0.mk (below_drew HB0.out)
 have B11 := Aside0.mk (B10.out.move rfl : Blk w0.drew _ _ _)
 clear HB0 B10 h10 h11 h12 h13
 generalize w0.drew = w1 at HB1 B11 ⊢
 have h10 := B11.out.cell 0
 have h11 := B11.out.cell 1
 have h12 := B11.out.cell 2
 have h13 := B11.out.cell 3
 simp only [sb3, sb4] at h10 h11 h12 h13
 by_cases c1 : old.length ≤ 4
 rotate_left
 ·have c1b : decide (4 < (old.length : Int)) = true := by simp; omega
  have HF := Aside0.mk (show chkB old nw ss js = 3 by unfold chkB; rw [if_neg (fun x => c1 x.1)])
  clear c1
  go_wp2_with fail
  go_ret
  rw [HF.out]
  exact ⟨rfl, HB1.out⟩
 have c1b : decide (4 < (old.length : Int)) = false := by simp; omega
 by_cases c2' : ss.length ≤ 8
 rotate_left
 ·have c2b : decide (8 < (ss.length : Int)) = true := by simp; omega
  have HF := Aside0.mk (show chkB old nw ss js = 3 by unfold chkB; rw [if_neg (fun x => c2' x.2.1)])
  clear c1 c2'
  go_wp2_with fail
  go_ret
  rw [HF.out]
  exact ⟨rfl, HB1.out⟩
 have c2b : decide (8 < (ss.length : Int)) = false := by simp; omega
 by_cases c3' : js.length ≤ 20
 rotate_left
 ·have c3b : decide (20 < (js.length : Int)) = true := by simp; omega
  have HF := Aside0.mk (show chkB old nw ss js = 3 by unfold chkB; rw [if_neg (fun x => c3' x.2.2)])
  clear c1 c2' c3'
  go_wp2_with fail
  go_ret
  rw [HF.out]
  exact ⟨rfl, HB1.out⟩
 have c3b : decide (20 < (js.length : Int)) = false := by simp; omega
 have HL := Aside0.mk (show chkB old nw ss js = if old.length = 0 ∨ ss.length = 0 then 1 else if (old.all (fun n => withinB n 0 10000) && (withinB nw 1 4 && (ss.all (streetB old.length nw) && (weighedB old.length ss && js.all (joinB ss.length))))) = true then 0 else 1 by unfold chkB; rw [if_pos ⟨c1, c2', c3'⟩])
 by_cases z1 : old.length = 0
 ·have z1b : ((old.length : Int) == 0) = true := by simp [z1]
  have HF := Aside0.mk (show chkB old nw ss js = 1 by rw [HL.out, if_pos (.inl z1)])
  clear z1
  go_wp2_with fail
  go_ret
  rw [HF.out]
  exact ⟨rfl, HB1.out⟩
 have z1b : ((old.length : Int) == 0) = false := by rw [beq_eq_false_iff_ne]; omega
 by_cases z2 : ss.length = 0
 ·have z2b : ((ss.length : Int) == 0) = true := by simp [z2]
  have HF := Aside0.mk (show chkB old nw ss js = 1 by rw [HL.out, if_pos (.inr z2)])
  clear z1 z2
  go_wp2_with fail
  go_ret
  rw [HF.out]
  exact ⟨rfl, HB1.out⟩
 have z2b : ((ss.length : Int) == 0) = false := by rw [beq_eq_false_iff_ne]; omega
 have HL := Aside0.mk (show chkB old nw ss js = if (old.all (fun n => withinB n 0 10000) && (withinB nw 1 4 && (ss.all (streetB old.length nw) && (weighedB old.length ss && js.all (joinB ss.length))))) = true then 0 else 1 by rw [HL.out, if_neg (by omega)])
 clear z1 z2 c1 c2'
 go_wp2_with fail
 refine (all_Num 92 #[] #[] (enters Try.func92 (by kernel_rfl) rfl) (fun n => withinB n 0 10000) A0 c0 old w1 (H.out.below HB1.out).kold (by omega) (fun W x hW => isCount_calls x W)).mono ?_
 rintro e w2 ⟨rfl, hb2_⟩
 have HB2 := Aside0.mk (HB1.out.trans (hb2_.mono HB1.out.size))
 have B12 := Aside0.mk (B11.out.below hb2_)
 clear hb2_ HB1 B11 h10 h11 h12 h13
 cases a2 : (old.all (fun n => withinB n 0 10000))
 ·have HF := Aside0.mk (show chkB old nw ss js = 1 by rw [HL.out, a2]; simp)
  go_wp2_with fail
  go_ret
  rw [HF.out]
  exact ⟨rfl, HB2.out⟩
 have h10 := B12.out.cell 0
 have h11 := B12.out.cell 1
 have h12 := B12.out.cell 2
 have h13 := B12.out.cell 3
 simp only [sb3, sb4] at h10 h11 h12 h13
 go_wp2_with fail
 refine (within_calls nw 1 4 w2).mono ?_
 rintro e w3 ⟨rfl, hb_⟩
 have HB3 := Aside0.mk (HB2.out.trans (hb_.mono HB2.out.size))
 have B13 := Aside0.mk (B12.out.below hb_)
 clear hb_ HB2 B12 h10 h11 h12 h13
 cases a3 : (withinB nw 1 4)
 ·have HF := Aside0.mk (show chkB old nw ss js = 1 by rw [HL.out, a2, a3]; simp)
  go_wp2_with fail
  go_ret
  rw [HF.out]
  exact ⟨rfl, HB3.out⟩
 have h10 := B13.out.cell 0
 have h11 := B13.out.cell 1
 have h12 := B13.out.cell 2
 have h13 := B13.out.cell 3
 simp only [sb3, sb4] at h10 h11 h12 h13
 have hnw : 0 ≤ nw ∧ nw ≤ 1000 := by
  unfold withinB at a3
  simp only [Bool.and_eq_true, decide_eq_true_eq] at a3
  omega
 go_wp2_with fail
 refine (all_Street 89 #[.agg #[.slice A0 old.length c0, .int .i64 nw, .slice A2 ss.length c2, .slice A3 js.length c3]] #[] (enters Try.func89 (by kernel_rfl) rfl) (streetB old.length nw) A2 c2 ss w3 (H.out.below HB3.out).kst (by omega) (fun W x hW => street_calls x W hb0 hnw)).mono ?_
 rintro e w4 ⟨rfl, hb_⟩
 have HB4 := Aside0.mk (HB3.out.trans (hb_.mono HB3.out.size))
 have B14 := Aside0.mk (B13.out.below hb_)
 clear hb_ HB3 B13 h10 h11 h12 h13
 cases a4 : (ss.all (streetB old.length nw))
 ·have HF := Aside0.mk (show chkB old nw ss js = 1 by rw [HL.out, a2, a3, a4]; simp)
  go_wp2_with fail
  go_ret
  rw [HF.out]
  exact ⟨rfl, HB4.out⟩
 have h10 := B14.out.cell 0
 have h11 := B14.out.cell 1
 have h12 := B14.out.cell 2
 have h13 := B14.out.cell 3
 simp only [sb3, sb4] at h10 h11 h12 h13
 have HWT := Aside0.mk (street_wt a4)
 go_wp2_with fail
 refine (weighed_calls (H.out.below HB4.out) (by have := of_decide_eq_false c2b; omega) (by have := of_decide_eq_false c1b; omega) HWT.out).mono ?_
 rintro e w5 ⟨rfl, hb_⟩
 have HB5 := Aside0.mk (HB4.out.trans (hb_.mono HB4.out.size))
 have B15 := Aside0.mk (B14.out.below hb_)
 clear hb_ HB4 B14 h10 h11 h12 h13
 cases a5 : (weighedB old.length ss)
 ·have HF := Aside0.mk (show chkB old nw ss js = 1 by rw [HL.out, a2, a3, a4, a5]; simp)
  go_wp2_with fail
  go_ret
  rw [HF.out]
  exact ⟨rfl, HB5.out⟩
 have h10 := B15.out.cell 0
 have h11 := B15.out.cell 1
 have h12 := B15.out.cell 2
 have h13 := B15.out.cell 3
 simp only [sb3, sb4] at h10 h11 h12 h13
 go_wp2_with fail
 refine (all_Join 90 #[.agg #[.slice A0 old.length c0, .int .i64 nw, .slice A2 ss.length c2, .slice A3 js.length c3]] #[] (enters Try.func90 (by kernel_rfl) rfl) (joinB ss.length) A3 c3 js w5 (H.out.below HB5.out).kjo (by omega) (fun W x hW => join_calls x W hb2)).mono ?_
 rintro e w6 ⟨rfl, hb_⟩
 have HB6 := Aside0.mk (HB5.out.trans (hb_.mono HB5.out.size))
 clear hb_ HB5 B15 h10 h11 h12 h13
 cases a6 : (js.all (joinB ss.length))
 ·have HF := Aside0.mk (show chkB old nw ss js = 1 by rw [HL.out, a2, a3, a4, a5, a6]; simp)
  go_wp2_with fail
  go_ret
  rw [HF.out]
  exact ⟨rfl, HB6.out⟩
 have HF := Aside0.mk (show chkB old nw ss js = 0 by rw [HL.out, a2, a3, a4, a5, a6]; simp)
 go_wp2_with fail
 go_ret
 rw [HF.out]
 exact ⟨rfl, HB6.out⟩
end Go.Proofs.Ytiddkceahbnolaa
namespace Go.Proofs.Ytiddkceahbnolaa
open Go.RowKit Go.Shelf Go.Proofs.Ytiddkceahbnolaa.PBorderOrder Go.Proofs.YtiddkceahbnolaaW.PrintWords Go.Proofs.YtiddkceahbnolaaW.PrintLast
set_option linter.all false
attribute [local go_sem] Oper.semAt_some
def losum (xs : List IS) : Int := (xs.map (fun x => x.2.f3.f0)).sum
def hisum (xs : List IS) : Int := (xs.map (fun x => x.2.f3.f1)).sum
theorem losum_snoc (xs : List IS) (x : IS) : losum (xs ++ [x]) = losum xs + x.2.f3.f0 := by
 unfold losum
 rw [List.map_append, List.sum_append]
 simp
theorem hisum_snoc (xs : List IS) (x : IS) : hisum (xs ++ [x]) = hisum xs + x.2.f3.f1 := by
 unfold hisum
 rw [List.map_append, List.sum_append]
 simp
/-- People whose bounds are small. -/
def Ppl (xs : List IS) : Prop := ∀ x ∈ xs, 0 ≤ x.2.f3.f0 ∧ x.2.f3.f0 ≤ x.2.f3.f1 ∧ x.2.f3.f1 ≤ 10000
theorem sums_bound {xs : List IS} (h : Ppl xs) : 0 ≤ losum xs ∧ losum xs ≤ hisum xs ∧ hisum xs ≤ 10000 * xs.length := by
 unfold losum hisum
 induction xs with
 | nil => simp
 | cons x xs ih =>
  have h1 := h x List.mem_cons_self
  have h2 := ih (fun y hy => h y (List.mem_cons_of_mem _ hy))
  simp only [List.map_cons, List.sum_cons, List.length_cons]
  omega
structure StreetOk (no : Nat) (nw : Int) (s : S115) : Prop where
 o0 : 0 ≤ s.f0
 o1 : s.f0 < no
 n0 : 0 ≤ s.f1
 n1 : s.f1 < nw
 w0 : 0 ≤ s.f2
 w1 : s.f2 ≤ 1000
 p0 : 0 ≤ s.f3.f0
 p1 : s.f3.f0 ≤ s.f3.f1
 p2 : s.f3.f1 ≤ 10000
theorem streetOk_of {no : Nat} {nw : Int} {s : S115} (h : streetB no nw s = true) : StreetOk no nw s := by
 unfold streetB withinB insideB at h
 simp only [Bool.and_eq_true, decide_eq_true_eq] at h
 obtain ⟨⟨h1, h2⟩, ⟨h3, h4⟩, ⟨h5, h6⟩, h7, h8, h9⟩ := h
 exact ⟨h1, by omega, h3, by omega, h5, h6, h7, h8, h9⟩
theorem chkB_ok {old : List Int} {nw : Int} {ss : List S115} {js : List S119} (h : chkB old nw ss js = 0) : 0 < old.length ∧ old.length ≤ 4 ∧ 0 < ss.length ∧ ss.length ≤ 8 ∧ js.length ≤ 20 ∧ (∀ n ∈ old, 0 ≤ n ∧ n ≤ 10000) ∧ 1 ≤ nw ∧ nw ≤ 4 ∧ (∀ s ∈ ss, StreetOk old.length nw s) ∧ weighedB old.length ss = true ∧ js.all (joinB ss.length) = true := by
 unfold chkB at h
 by_cases h1 : old.length ≤ 4 ∧ ss.length ≤ 8 ∧ js.length ≤ 20
 ·rw [if_pos h1] at h
  by_cases h2 : old.length = 0 ∨ ss.length = 0
  ·rw [if_pos h2] at h; cases h
  ·rw [if_neg h2] at h
   split at h
   ·next h3 =>
    simp only [Bool.and_eq_true] at h3
    obtain ⟨a1, a2, a3, a4, a5⟩ := h3
    unfold withinB at a2
    simp only [Bool.and_eq_true, decide_eq_true_eq] at a2
    refine ⟨by omega, h1.1, by omega, h1.2.1, h1.2.2, fun n hn => ?_, a2.1, a2.2, fun s hs => streetOk_of (List.all_eq_true.1 a3 s hs), a4, a5⟩
    have := List.all_eq_true.1 a1 n hn
    unfold withinB at this
    simpa using this
   ·cases h
 ·rw [if_neg h1] at h; cases h
def fitsB (old : List Int) (ss : List S115) (d : Nat) : Bool := withinB (rd old (d : Int)) (losum (ofAt ss (d : Int) ss.length)) (hisum (ofAt ss (d : Int) ss.length))
def consE (old : List Int) (nw : Int) (ss : List S115) (js : List S119) : Int :=
 if chkB old nw ss js = 0 then (if (List.range old.length).all (fitsB old ss) = true then 0 else 9) else chkB old nw ss js
set_option maxRecDepth 100000 in
set_option maxHeartbeats 40000000 in
theorem consistent_calls {A0 : Option Addr} {c0 : Nat} {old : List Int} {nw : Int} {A2 : Option Addr} {c2 : Nat} {ss : List S115} {A3 : Option Addr} {c3 : Nat} {js : List S119} {w : World} (h : IsB w A0 c0 old A2 c2 ss A3 c3 js) :
  Calls Try.prog 50 #[.agg #[.slice A0 old.length c0, .int .i64 nw, .slice A2 ss.length c2, .slice A3 js.length c3]] w fun e w' => e = .returned (.int .i64 (consE old nw ss js)) ∧ Below w.heap.size w w' := by
 have H := Aside0.mk h
 have hb2 := h.b2
 clear h
 refine (callsIn_wide (n := 9)).1 (callsIn_of_wp_marks0 Try.func50 rfl trivial ?_ rfl)
 simp only [Try.ntmps50, List.size_toArray, List.length_cons, List.length_nil, Nat.reduceAdd, Nat.reduceSub, Array.replicate_succ, Array.replicate_zero, List.push_toArray, List.append_toArray, List.nil_append, List.cons_append]
 refine wpIn_wide.2 ?_
 go_wp2_with (with_reducible refine wpIn_wide.2 ?_)
 have HB0 := Aside0.mk (below_alloc (Below.refl w.heap.size w) (.cells #[.slice A0 old.length c0, .int .i64 nw, .slice A2 ss.length c2, .slice A3 js.length c3] 69))
 have B10 := Aside0.mk (Blk.new w [.slice A0 old.length c0, .int .i64 nw, .slice A2 ss.length c2, .slice A3 js.length c3] 69)
 generalize w.alloc (.cells #[.slice A0 old.length c0, .int .i64 nw, .slice A2 ss.length c2, .slice A3 js.length c3] 69) = w1 at HB0 B10 ⊢
 refine (CheckMap_calls (H.out.below HB0.out)).mono ?_
 rintro e w0 ⟨rfl, hb_⟩
 have HB := Aside0.mk (HB0.out.trans (hb_.mono HB0.out.size))
 have B1 := Aside0.mk (B10.out.below hb_)
 clear hb_ HB0 B10
 by_cases hc : chkB old nw ss js = 0
 rotate_left
 ·have hcb : (chkB old nw ss js != 0) = true := by simp [hc]
  have HF := Aside0.mk (show consE old nw ss js = chkB old nw ss js by unfold consE; rw [if_neg hc])
  clear hc
  go_wp2_with (with_reducible refine wpIn_wide.2 ?_)
  refine Marks.leaves (lo := w.heap.size) (Inv := fun W => Below w.heap.size w W) (fun W D hlo hD hi => hi.grown (grownBy_putObj' W D _) hi.size (fun k e => by cases e; exact hlo)) (fun W hi => ?_) [] w0 trivial HB.out
  refine ⟨_, results_tmp rfl _ _ _, ?_, hi⟩
  show Ending.returned (.int .i64 (chkB old nw ss js)) = _
  rw [HF.out]
 have HK := Aside0.mk (chkB_ok hc)
 have HL := Aside0.mk (show consE old nw ss js = if (List.range old.length).all (fitsB old ss) = true then 0 else 9 by unfold consE; rw [if_pos hc])
 have hss8 := (chkB_ok hc).2.2.2.1
 rw [hc]
 clear hc
 have h10 := B1.out.cell 0
 have h11 := B1.out.cell 1
 have h12 := B1.out.cell 2
 have h13 := B1.out.cell 3
 simp only [sb3, sb4] at h10 h11 h12 h13
 go_wp2_with (with_reducible refine wpIn_wide.2 ?_)
 clear h10 h11 h12 h13
 refine wp_loop (fun a' wr => ∃ (ds : List Deferred) (d : Nat), d ≤ old.length ∧ Aside0 (∀ j : Nat, j < d → fitsB old ss j = true) ∧ Aside0 (Below w.heap.size w wr) ∧ Aside0 (Blk wr w.heap.size [.slice A0 old.length c0, .int .i64 nw, .slice A2 ss.length c2, .slice A3 js.length c3] 69) ∧ Aside0 (Marks w.heap.size wr ds) ∧ a' = { tmps := #[.agg #[.slice A0 old.length c0, .int .i64 nw, .slice A2 ss.length c2, .slice A3 js.length c3], .pointer (some ⟨w.heap.size, 0, none⟩), .int .i64 0, .int .i64 0, a'.tmps.getD 4 undef, a'.tmps.getD 5 undef, a'.tmps.getD 6 undef, a'.tmps.getD 7 undef, a'.tmps.getD 8 undef, .agg #[.slice A0 old.length c0, .int .i64 nw, .slice A2 ss.length c2, .slice A3 js.length c3], .int .i64 0, .int .i64 0, .bool false, a'.tmps.getD 13 undef, .pointer (some ⟨w.heap.size, 0, none⟩), .slice A0 old.length c0, .int .i64 (old.length : Int), .int .i64 (d : Int), a'.tmps.getD 18 undef, a'.tmps.getD 19 undef, a'.tmps.getD 20 undef, a'.tmps.getD 21 undef, a'.tmps.getD 22 undef, a'.tmps.getD 23 undef, a'.tmps.getD 24 undef, a'.tmps.getD 25 undef, a'.tmps.getD 26 undef, a'.tmps.getD 27 undef, a'.tmps.getD 28 undef, a'.tmps.getD 29 undef, a'.tmps.getD 30 undef, a'.tmps.getD 31 undef, a'.tmps.getD 32 undef, a'.tmps.getD 33 undef, a'.tmps.getD 34 undef, a'.tmps.getD 35 undef, a'.tmps.getD 36 undef, a'.tmps.getD 37 undef, a'.tmps.getD 38 undef, a'.tmps.getD 39 undef, a'.tmps.getD 40 undef, a'.tmps.getD 41 undef, a'.tmps.getD 42 undef, a'.tmps.getD 43 undef, a'.tmps.getD 44 undef, a'.tmps.getD 45 undef, a'.tmps.getD 46 undef, a'.tmps.getD 47 undef, a'.tmps.getD 48 undef], defers := ds }) (fun a' _ => old.length - (intOf (a'.tmps.getD 17 undef)).toNat) ?start ?round
 case start => exact ⟨[], 0, Nat.zero_le _, ⟨fun j hj => absurd hj (Nat.not_lt_zero _)⟩, HB, B1, ⟨trivial⟩, rfl⟩
 case round =>
  clear HB B1
  rintro a' wr ⟨ds, d, hd, HJ, HB, B1, HM, hfr⟩
  obtain ⟨u, hu⟩ : ∃ u : Nat → Value, a' = { tmps := #[.agg #[.slice A0 old.length c0, .int .i64 nw, .slice A2 ss.length c2, .slice A3 js.length c3], .pointer (some ⟨w.heap.size, 0, none⟩), .int .i64 0, .int .i64 0, (u 4), (u 5), (u 6), (u 7), (u 8), .agg #[.slice A0 old.length c0, .int .i64 nw, .slice A2 ss.length c2, .slice A3 js.length c3], .int .i64 0, .int .i64 0, .bool false, (u 13), .pointer (some ⟨w.heap.size, 0, none⟩), .slice A0 old.length c0, .int .i64 (old.length : Int), .int .i64 (d : Int), (u 18), (u 19), (u 20), (u 21), (u 22), (u 23), (u 24), (u 25), (u 26), (u 27), (u 28), (u 29), (u 30), (u 31), (u 32), (u 33), (u 34), (u 35), (u 36), (u 37), (u 38), (u 39), (u 40), (u 41), (u 42), (u 43), (u 44), (u 45), (u 46), (u 47), (u 48)], defers := ds } := ⟨fun i => a'.tmps.getD i undef, hfr⟩
  clear hfr
  subst hu
  dsimp only
  by_cases hlt : d < old.length
  ·have hg1 := B1.out.lt
   have h10 := B1.out.cell 0
   have h11 := B1.out.cell 1
   have h12 := B1.out.cell 2
   have h13 := B1.out.cell 3
   simp only [sb3, sb4] at h10 h11 h12 h13
   obtain ⟨ad, e, hx⟩ := Kd.at_int (H.out.below HB.out).kold (d : Int) (by omega) (by omega)
   cases e
   simp only [Int.toNat_natCast] at hx
   have HFB := Aside0.mk (show fitsB old ss d = withinB (rd old (d : Int)) (losum (ofAt ss (d : Int) ss.length)) (hisum (ofAt ss (d : Int) ss.length)) from rfl)
   obtain ⟨cnt, hcnt⟩ : ∃ x, rd old (d : Int) = x := ⟨_, rfl⟩
   rw [hcnt] at hx HFB
   clear hcnt
   go_wp2_with (with_reducible refine wpIn_wide.2 ?_)
   have HB1 := Aside0.mk (below_alloc HB.out (.cells #[.int .i64 0, .int .i64 0] 71))
   have B11 := Aside0.mk (B1.out.alloc (.cells #[.int .i64 0, .int .i64 0] 71))
   have B4 := Aside0.mk (Blk.new wr [.int .i64 0, .int .i64 0] 71)
   have HM1 := Aside0.mk (HM.out.alloc (.cells #[.int .i64 0, .int .i64 0] 71))
   have hs1 := size_alloc wr (.cells #[.int .i64 0, .int .i64 0] 71)
   clear HB B1 HM h10 h11 h12 h13 hx
   generalize wr.alloc (.cells #[.int .i64 0, .int .i64 0] 71) = wa at HB1 B11 B4 HM1 hs1 ⊢
   generalize wr.heap.size = g4 at B4 hs1 hg1 ⊢
   refine ((callsIn_wide (n := 8)).1 (of_in Fence.wide 8 trivial rfl _ _ _ _ _ rfl rfl rfl rfl wa)).mono ?_
   rintro e w4 ⟨rfl, rfl⟩
   have HB2 := Aside0.mk (below_alloc (below_alloc HB1.out (.cells #[.slice (some ad) old.length c0, .int .i64 nw, .slice A2 ss.length c2, .slice A3 js.length c3] 69)) (.cells #[.int .i64 (d : Int)] 3))
   have B12 := Aside0.mk ((B11.out.alloc (.cells #[.slice (some ad) old.length c0, .int .i64 nw, .slice A2 ss.length c2, .slice A3 js.length c3] 69)).alloc (.cells #[.int .i64 (d : Int)] 3))
   have B42 := Aside0.mk ((B4.out.alloc (.cells #[.slice (some ad) old.length c0, .int .i64 nw, .slice A2 ss.length c2, .slice A3 js.length c3] 69)).alloc (.cells #[.int .i64 (d : Int)] 3))
   have HM2 := Aside0.mk ((HM1.out.alloc (.cells #[.slice (some ad) old.length c0, .int .i64 nw, .slice A2 ss.length c2, .slice A3 js.length c3] 69)).alloc (.cells #[.int .i64 (d : Int)] 3))
   have HX1 := Aside0.mk ((Blk.new wa [.slice (some ad) old.length c0, .int .i64 nw, .slice A2 ss.length c2, .slice A3 js.length c3] 69).alloc (.cells #[.int .i64 (d : Int)] 3))
   have HX2 := Aside0.mk (Blk.new (wa.alloc (.cells #[.slice (some ad) old.length c0, .int .i64 nw, .slice A2 ss.length c2, .slice A3 js.length c3] 69)) [.int .i64 (d : Int)] 3)
   simp only [World.size_alloc] at HX2
   have hsz : ((wa.alloc (.cells #[.slice (some ad) old.length c0, .int .i64 nw, .slice A2 ss.length c2, .slice A3 js.length c3] 69)).alloc (.cells #[.int .i64 (d : Int)] 3)).heap.size = wa.heap.size + 1 + 1 := by simp
   clear HB1 B11 B4 HM1
   generalize (wa.alloc (.cells #[.slice (some ad) old.length c0, .int .i64 nw, .slice A2 ss.length c2, .slice A3 js.length c3] 69)).alloc (.cells #[.int .i64 (d : Int)] 3) = w4 at HB2 B12 B42 HM2 HX1 HX2 hsz ⊢
   obtain ⟨gx, hgx⟩ : ∃ gx, wa.heap.size = gx := ⟨_, rfl⟩
   rw [hgx] at HX1 HX2 hsz hs1 ⊢
   clear hgx
   have HC := Aside0.mk (H.out.below HB2.out)
   have hlo := streets_lo H.out.kst
   go_wp2_with (with_reducible refine wpIn_wide.2 ?_)
   refine (wpIn_wide (n := 9)).1 ?_
   refine range_of (gm := gx) (gn := gx + 1) (by decide) (by decide) rfl (n₀ := w4.heap.size) (S := fun b => b = g4) (u0 := .slice (some ad) old.length c0) (u1 := .int .i64 nw) (u3 := .slice A3 js.length c3) (A2 := A2) (c2 := c2) (ss := ss) (old := (d : Int)) hb2 (Nat.le_refl _) ?reads
    (fun t x => (t.setIfInBounds 26 (.int .i64 (x.1 : Int))).setIfInBounds 27 (encS x.2)) (fun t x g => ((t.setIfInBounds 26 (.int .i64 (x.1 : Int))).setIfInBounds 27 (encS x.2)).setIfInBounds 8 (.pointer (some ⟨g, 0, none⟩))) (fun t x => zip2 t 26 27 _ _)
    (fun pre W => Aside0 (Blk W g4 [.int .i64 (losum pre), .int .i64 (hisum pre)] 71) ∧ Aside0 (Below w.heap.size w W) ∧ Aside0 (Blk W w.heap.size [.slice (some ad) old.length c0, .int .i64 nw, .slice A2 ss.length c2, .slice A3 js.length c3] 69) ∧ Aside0 (MKeep w4 W) ∧ Aside0 (w4.heap.size ≤ W.heap.size) ∧ Aside0 (Ppl pre)) ?own (fun xs W hi => hi.2.2.2.2.1.out) ⟨B42, HB2, B12, ⟨MKeep.refl _⟩, ⟨Nat.le_refl _⟩, ⟨fun x hx => by cases hx⟩⟩ ?assign ?body ?done
   case reads => exact ⟨HX1.out, by simpa using HX2.out.cell 0, HC.out.kst, ⟨by omega, by omega⟩, ⟨by omega, by omega⟩, fun h0 ad e => ⟨by have := hlo h0 ad e; omega, by have := hlo h0 ad e; omega⟩⟩
   case own =>
    rintro xs W W' row ⟨i1, i2, i3, i4, i5, i6⟩ hg hr
    have hr' := fun r e => (hr r e).1
    have h5 := i5.out
    have hw2 := HB2.out.size
    exact ⟨⟨i1.out.kept (B := w4.heap.size) (by omega) hg hr'⟩, ⟨i2.out.grown hg i2.out.size (fun k e => by have := hr' k e; omega)⟩, ⟨i3.out.kept (B := w4.heap.size) (by omega) hg hr'⟩, ⟨i4.out.kept (Nat.le_refl _) hg hr'⟩, ⟨Nat.le_trans h5 hg.size⟩, i6⟩
   case assign =>
    intro l x W K hx hK
    simp only [sb0, sb1, sb2, cellsS, encS] at hK ⊢
    gi_wp2_with fail
    exact hK
   case body =>
    rintro l pre x g W hx hlen ⟨i1, i2, i3, i4, i5, i6⟩ hg hBg
    simp only [sb0, sb1, sb2, encS]
    have hc4 := i1.out.cell 0
    have hc41 := i1.out.cell 1
    have hc4f := i1.out.frozen 0
    have hc41f := i1.out.frozen 1
    have hgc := hBg.cell 3
    have hgc4 := hBg.cell 4
    simp only [sb3, sb4, cellsS] at hc4 hc41 hgc hgc4
    have hok : StreetOk old.length nw x.2 := HK.out.2.2.2.2.2.2.2.2.1 _ (by rw [hx.2.1]; exact street_mem ss x.1 hx.1)
    have hwtx : 0 ≤ x.2.f3.f0 ∧ x.2.f3.f0 ≤ x.2.f3.f1 ∧ x.2.f3.f1 ≤ 10000 := ⟨hok.p0, hok.p1, hok.p2⟩
    have hws := sums_bound i6.out
    have hpl : (pre.length : Int) < 8 := by omega
    have hsum : wrap64 (losum pre + x.2.f3.f0) = losum pre + x.2.f3.f0 := IntWalk.wrap64_in _ (by omega)
    have hsum1 : wrap64 (hisum pre + x.2.f3.f1) = hisum pre + x.2.f3.f1 := IntWalk.wrap64_in _ (by omega)
    have hsn := losum_snoc pre x
    have hsn1 := hisum_snoc pre x
    obtain ⟨sm, hsm⟩ : ∃ s, losum pre = s := ⟨_, rfl⟩
    obtain ⟨sm1, hsm1⟩ : ∃ s, hisum pre = s := ⟨_, rfl⟩
    rw [hsm] at hsum hc4 hsn
    rw [hsm1] at hsum1 hc41 hsn1
    have HSN := Aside0.mk hsn
    have HSN1 := Aside0.mk hsn1
    have HWX := Aside0.mk hwtx
    have h5 := i5.out
    have hgw := hBg.lt
    clear hsn hsn1 hsm hsm1 hws hpl hwtx hok
    gi_wp2_with fail
    refine ⟨⟨by simp [World.setCell], fun k o hk ho hc => (Below.heap_setCell _ _ _ _ (by simp only; omega)).trans ((Below.heap_setCell _ _ _ _ (by simp only; omega)).trans ho)⟩, ((Keep.refl w4.heap.size (fun b => b = g4) W).setCell (p := ⟨g4, 0, none⟩) (.inl rfl) _).setCell (p := ⟨g4, 1, none⟩) (.inl rfl) _, ⟨by rw [HSN.out, HSN1.out]; exact i1.out.set2 _ _⟩, ⟨(i2.out.setCell (p := ⟨g4, 0, none⟩) (by simp only; omega) _).setCell (p := ⟨g4, 1, none⟩) (by simp only; omega) _⟩, ⟨(i3.out.move (Below.heap_setCell _ ⟨g4, 0, none⟩ _ _ (by simp only; omega))).move (Below.heap_setCell _ ⟨g4, 1, none⟩ _ _ (by simp only; omega))⟩, ⟨(i4.out.setCell _ _).setCell _ _⟩, ⟨by rw [size_set, size_set]; exact h5⟩, ⟨fun y hy => ?_⟩⟩
    rcases List.mem_append.1 hy with hy | hy
    ·exact i6.out y hy
    ·obtain rfl := List.mem_singleton.1 hy
     exact HWX.out
   case done =>
    rintro D W hD ⟨i1, i2, i3, i4, i5, i6⟩ hDm
    have hold4 := HK.out.2.1
    have HMk := Aside0.mk (Marks.cons HM2.out i4.out hD (by omega) hDm)
    have hc4 := i1.out.cell 0
    have hc41 := i1.out.cell 1
    simp only [sb3, sb4] at hc4 hc41
    obtain ⟨sm, hsm⟩ : ∃ s, losum (ofAt ss (d : Int) ss.length) = s := ⟨_, rfl⟩
    obtain ⟨sm1, hsm1⟩ : ∃ s, hisum (ofAt ss (d : Int) ss.length) = s := ⟨_, rfl⟩
    rw [hsm] at hc4 HFB
    rw [hsm1] at hc41 HFB
    clear hsm hsm1
    dsimp only
    go_wp2_with (with_reducible refine wpIn_wide.2 ?_)
    refine (within_calls cnt sm sm1 W).mono ?_
    rintro e W5 ⟨rfl, hb_⟩
    have HB5 := Aside0.mk (i2.out.trans (hb_.mono i2.out.size))
    have B15 := Aside0.mk (i3.out.below hb_)
    have HM5 := Aside0.mk (Marks.move (fun D hD => (hb_.block D (Array.getElem?_eq_some_iff.1 hD).1).trans hD) HMk.out)
    clear hb_ i1 i2 i3 i4 i5 i6 HMk hc4 hc41
    cases hwi : withinB cnt sm sm1
    ·have HF := Aside0.mk (show consE old nw ss js = 9 by
      rw [HL.out, if_neg]
      intro hall
      have := List.all_eq_true.1 hall d (List.mem_range.2 hlt)
      rw [HFB.out, hwi] at this
      cases this)
     go_wp2_with (with_reducible refine wpIn_wide.2 ?_)
     refine Marks.leaves (lo := w.heap.size) (Inv := fun W => Below w.heap.size w W) (fun W D hlo hD hi => hi.grown (grownBy_putObj' W D _) hi.size (fun k e => by cases e; exact hlo)) (fun W hi => ?_) _ W5 HM5.out HB5.out
     refine ⟨_, results_tmp rfl _ _ _, ?_, hi⟩
     show Ending.returned (.int .i64 9) = _
     rw [HF.out]
    ·have HJ2 := Aside0.mk (fun (j : Nat) (hj : j < d + 1) => if h : j = d then (show fitsB old ss j = true by rw [h, HFB.out, hwi]) else HJ.out j (by omega))
     go_wp2_with (with_reducible refine wpIn_wide.2 ?_)
     refine ⟨⟨_, d + 1, by omega, HJ2, HB5, B15, HM5, rfl⟩, ?_⟩
     show old.length - (intOf (.int .i64 ((d : Int) + 1))).toNat < old.length - (intOf (.int .i64 (d : Int))).toNat
     simp [intOf]
     omega
  ·obtain rfl : d = old.length := by omega
   have HF := Aside0.mk (show consE old nw ss js = 0 by rw [HL.out, if_pos (List.all_eq_true.2 (fun j hj => HJ.out j (List.mem_range.1 hj)))])
   go_wp2_with (with_reducible refine wpIn_wide.2 ?_)
   refine Marks.leaves (lo := w.heap.size) (Inv := fun W => Below w.heap.size w W) (fun W D hlo hD hi => hi.grown (grownBy_putObj' W D _) hi.size (fun k e => by cases e; exact hlo)) (fun W hi => ?_) ds wr HM.out HB.out
   refine ⟨_, results_tmp rfl _ _ _, ?_, hi⟩
   show Ending.returned (.int .i64 0) = _
   rw [HF.out]
end Go.Proofs.Ytiddkceahbnolaa
