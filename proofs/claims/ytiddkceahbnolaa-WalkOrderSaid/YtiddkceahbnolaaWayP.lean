/- The first places of a valid map lead nearer. -/
import Derived.Test.YtiddkceahbnolaaLong
namespace Go.Proofs.Ytiddkceahbnolaa
open Go.RowKit Go.Shelf Go.Proofs.Ytiddkceahbnolaa.PWalkOrder Go.Proofs.YtiddkceahbnolaaW.PrintWords Go.Proofs.YtiddkceahbnolaaW.PrintLast
set_option linter.unusedVariables false
set_option linter.unusedSimpArgs false

/-- Each first place is nearer. -/
def WayOk (T F : Nat → Nat → Int) (N : Nat) : Prop := ∀ n g, n < N → g < N → T n g < 1048576 → n ≠ g → ∃ p : Nat, F n g = (p : Int) ∧ p < N ∧ T p g < T n g

set_option maxRecDepth 100000 in
set_option maxHeartbeats 40000000 in
theorem way_calls {ga mb N : Nat} {vW vR : Value} {T F : Nat → Nat → Int} (hN : N ≤ 8) (hT : Bounded2 T) (hF : WayOk T F N) (fr to_ : Nat) (hfr : fr < N) (hto : to_ < N) (hlt : T fr to_ < 1048576) (w : World) (hA : AtlM w ga vW vR T F mb) :
  Calls Try.prog 33 #[.pointer (some ⟨ga, 0, none⟩), .int .i64 fr, .int .i64 to_] w fun e w' => ∃ v xs, e = .returned v ∧ (Kd.int .i64).R 3 w' w.heap.size (fun _ => True) v xs ∧ 0 < xs.length ∧ xs.length ≤ 1048577 ∧ Below w.heap.size w w' := by
 have HT := Aside0.mk hT
 have HF := Aside0.mk hF
 have HA := Aside0.mk hA
 have HL := Aside0.mk hlt
 have hga := hA.atl.lt
 clear hT hF hA hlt
 go_enter Try.func33, Try.ntmps33
 go_wp2_with ((with_reducible refine gate_dst (N := 9) rfl ?_); refine Kd.R_lit (Kd.int .i64) _ 3 ?hg (N := 9) ?hd (xs := ([(fr : Int)] : List Int)) (inner := [.int .i64 (fr : Int)]) (ok := fun _ => True) (okp := fun _ => True) ?hr ?hp (fun _ hk => hk) trivial (Below.refl _ _) (Nat.le_refl _) (by simp) ?_; (case hd => rfl); (case hg => rfl); (case hr => first | (go_simp; done) | (go_simp; rfl)); (case hp => exact (Reps.one (show Kd.M (Kd.int .i64) _ _ _ (fr : Int) [.int .i64 (fr : Int)] from rfl) (Reps.none _ _))); intro v1 w1 hr1 hb1 hg1 hat1)
 have HB1 := Aside0.mk hb1
 have HR1 := Aside0.mk hr1
 clear hb1 hr1 hg1 hat1
 have hT0 := HT.out fr to_
 have HL0 := Aside0.mk HL.out
 go_loopw [1, 7] (fun v1 v7 wr => ∃ (n : Nat) (xs : List Int), n < N ∧ v1 = .int .i64 n ∧ T n to_ < 1048576 ∧ Aside0 ((Kd.int .i64).R 3 wr w.heap.size (fun _ => True) v7 xs) ∧ 0 < xs.length ∧ (xs.length : Int) + T n to_ ≤ 1048577 ∧ Aside0 (Below w.heap.size w wr)) (fun v1 _ _ => (T (intOf v1).toNat to_).toNat)
 case atStart => exact ⟨fr, [(fr : Int)], hfr, rfl, HL.out, HR1, by simp, by have := HL.out; simp only [List.length_cons, List.length_nil]; omega, HB1⟩
 case round =>
  clear HB1 HR1 hT0
  obtain ⟨n, xs, hn, rfl, hTn, HR, hx0, hxl, HB⟩ := hrel
  have hTb := HT.out n to_
  by_cases e : n = to_
  ·subst e
   have heq : ((n : Int) == (n : Int)) = true := by simp
   go_wp2_with fail
   go_ret
   exact ⟨_, _, rfl, HR.out, hx0, by omega, HB.out⟩
  ·have heq : ((n : Int) == (to_ : Int)) = false := by simp only [beq_eq_false_iff_ne, ne_eq]; omega
   obtain ⟨p, hp, hpN, hpl⟩ := HF.out n to_ hn hto hTn e
   have hFc := (HA.out.keep HB.out).atl.first (i := n) (j := to_) (by omega) (by omega)
   rw [hp] at hFc
   have hn8 : (n : Int) < 8 := by omega
   have ht8 : (to_ : Int) < 8 := by omega
   have hTp := HT.out p to_
   clear hp
   go_wp2_with ((with_reducible refine gate_builtin (b := .append) (xs := #[.tmp 21, .tmp 23]) rfl ?_); at_builtin; refine Kd.R_append (Kd.int .i64) (w0 := w) w.heap.size rfl (.tmp 21) (.tmp 23) 26 3 (.int .i64 0) 8 rfl Try.underlying26 info3 rfl (by decide) (by omega) u7 xs (p : Int) [.int .i64 (p : Int)] (fun _ => True) (fun _ => False) rfl rfl ?aP (fun _ hk => hk.elim) ?aF ?aO ?aB ?aS ?aL ?_; (case aP => exact rfl); (case aB => exact (by repeat (first | (with_reducible first | exact HB.out | apply below_alloc | apply pw_below_drewN | apply below_drew1) | exact HB.out))); (case aF => exact (fun _ _ => trivial)); (case aO => exact (by (with_reducible repeat (first | apply Kd.R_alloc | apply Kd.R_drewN | apply Kd.R_drew)); exact HR.out)); (case aS => exact (below_size (by repeat (first | (with_reducible first | exact HB.out | apply below_alloc | apply pw_below_drewN | apply below_drew1) | exact HB.out)))); (case aL => omega); intro vn wn hon hbn hgn hatn; have HBn := Aside0.mk hbn; have HRn := Aside0.mk hon; clear hon hbn hgn hatn)
   go_roundw
   case rel => exact ⟨p, xs ++ [(p : Int)], hpN, rfl, by omega, HRn, by simp, by simp only [List.length_append, List.length_cons, List.length_nil]; omega, HBn⟩
   case measure => simp [intOf]; omega
end Go.Proofs.Ytiddkceahbnolaa

namespace Go.Proofs.Ytiddkceahbnolaa
open Go.RowKit Go.Proofs.Ytiddkceahbnolaa.PWalkOrder Go.Proofs.YtiddkceahbnolaaW.PrintWords
set_option linter.unusedVariables false

structure ColInv (N g : Nat) (s : (Nat → Int) × (Nat → Int)) : Prop where
 b : Bounded s.1
 z : s.1 g = 0
 f : ∀ n, n < N → n ≠ g → s.1 n < 1048576 → ∃ q : Nat, s.2 n = (q : Int) ∧ q < N ∧ s.1 q < s.1 n
theorem colInv_relax {N g p : Nat} (hp : p < N) {s : (Nat → Int) × (Nat → Int)} {x : Int × Int} (h : ColInv N g s) (h0 : 0 ≤ x.1) (h1 : x.1 ≠ p) (h2 : 1 ≤ x.2) : ColInv N g (relax p s x) := by
 refine ⟨relax_bounded h.b h2, ?_, ?_⟩
 ·unfold relax
  by_cases e : s.1 p + x.2 < s.1 x.1.toNat
  ·rw [if_pos e]
   simp only [upd]
   by_cases e2 : g = x.1.toNat
   ·rw [← e2, h.z] at e
    have := (h.b p).1
    omega
   ·rw [if_neg e2, h.z]
  ·rw [if_neg e, h.z]
 ·intro n hn hg hlt
  unfold relax at hlt ⊢
  by_cases e : s.1 p + x.2 < s.1 x.1.toNat
  ·rw [if_pos e] at hlt ⊢
   have hpx : p ≠ x.1.toNat := by omega
   simp only [upd] at hlt ⊢
   by_cases e2 : n = x.1.toNat
   ·rw [if_pos e2]
    refine ⟨p, rfl, hp, ?_⟩
    rw [if_neg hpx, if_pos e2]
    omega
   ·rw [if_neg e2] at hlt ⊢
    obtain ⟨q, h3, h4, h5⟩ := h.f n hn hg hlt
    refine ⟨q, h3, h4, ?_⟩
    rw [if_neg e2]
    by_cases e3 : q = x.1.toNat
    ·rw [if_pos e3]
     rw [e3] at h5
     omega
    ·rw [if_neg e3]
     exact h5
  ·rw [if_neg e] at hlt ⊢
   exact h.f n hn hg hlt
theorem colInv_fold {N g p : Nat} (hp : p < N) (l : List (Int × Int)) : ∀ (s : (Nat → Int) × (Nat → Int)), ColInv N g s → (∀ x ∈ l, 0 ≤ x.1 ∧ x.1 ≠ p ∧ 1 ≤ x.2) → ColInv N g (l.foldl (relax p) s) := by
 induction l with
 | nil => exact fun s h _ => h
 | cons x l ih =>
  intro s h hl
  rw [List.foldl_cons]
  have := hl x List.mem_cons_self
  exact ih _ (colInv_relax hp h this.1 this.2.1 this.2.2) (fun y hy => hl y (List.mem_cons_of_mem _ hy))
theorem colAt_inv {R : List S94} {N g : Nat} (hR : ∀ r ∈ R, RoadOk N r) (hg : g < N) : ∀ i, i ≤ N → ColInv N g ((colAt R N g i).c, (colAt R N g i).f)
 | 0, _ => by
  refine ⟨colInit_bounded N g, by simp [colAt, colInit], fun n hn hng hlt => ?_⟩
  simp only [colAt, colInit, if_neg hng, if_pos hn] at hlt
  omega
 | i + 1, hi => by
  have ih := colAt_inv hR hg i (by omega)
  obtain ⟨p, hp, hpN, _⟩ := colAt_pick R N g i (by omega)
  have := colInv_fold hpN (nbrs R (p : Int)) _ ih (fun x hx => ⟨(nbrs_ok hR x hx).1, (nbrs_ok hR x hx).2.2.1, (nbrs_ok hR x hx).2.2.2.1⟩)
  simp only [colAt, colStep, hp, Int.toNat_natCast]
  exact this
theorem wayOk_of {R : List S94} {N : Nat} (hR : ∀ r ∈ R, RoadOk N r) : WayOk (tm R N) (fs R N) N := by
 intro n g hn hg hlt hne
 unfold tm fs at *
 rw [if_pos hg] at *
 obtain ⟨q, h1, h2, h3⟩ := (colAt_inv hR hg N (Nat.le_refl _)).f n hn hne hlt
 exact ⟨q, h1, h2, by rw [if_pos hg, if_pos hg]; exact h3⟩
end Go.Proofs.Ytiddkceahbnolaa
