/- border's size: the bounds of the size of a new district. -/
import Derived.Test.YtiddkceahbnolaaZPart
import Derived.BigQuiet
import Derived.Deep.QuietTactic
namespace Go.Proofs.Ytiddkceahbnolaa
open Go.RowKit Go.Shelf Go.Proofs.Ytiddkceahbnolaa.PBorderOrder Go.Proofs.YtiddkceahbnolaaW.PrintWords Go.Proofs.YtiddkceahbnolaaW.PrintLast
set_option linter.all false
set_option maxRecDepth 100000 in
set_option maxHeartbeats 4000000 in
theorem size1_calls {g1 g2 : Nat} {l : Nat → Int} {D : Int} {w : World} (h1 : Blk w g1 (cellsL l) 121) (h2 : Blk w g2 [.int .i64 D] 3) (x : Nat) (hx : x < 8) :
  Calls Try.prog 88 (#[.int .i64 (x : Int)] ++ #[.pointer (some ⟨g1, 0, none⟩), .pointer (some ⟨g2, 0, none⟩)]) w fun e w' => e = .returned (.bool (l x == D)) ∧ Below w.heap.size w w' := by
 simp only [List.append_toArray, List.nil_append, List.cons_append]
 have hc := h1.cell x
 rw [cellsL_get l x hx] at hc
 have hd := h2.cell 0
 simp only [List.getElem?_cons_zero] at hd
 have hx0 : (0 : Int) ≤ (x : Int) := by omega
 have hx8 : (x : Int) < 8 := by omega
 have hl1 := h1.lt
 have hl2 := h2.lt
 clear h1 h2
 go_enter Try.func88, Try.ntmps88
 go_wp2_with fail
 go_quiet (fail)
 go_wp2_with fail
 go_ret
 exact ⟨rfl, rfl, rfl, rfl, Nat.le_refl _, fun _ _ => rfl⟩
def sizeAt (old : List Int) (ss : List S115) (p : Int → Bool) (k : Nat) : Int × Int :=
 (((List.range k).map (fun d : Nat => (partF old ss (d : Int) p).1)).sum, ((List.range k).map (fun d : Nat => (partF old ss (d : Int) p).2)).sum)
def sizeF (old : List Int) (ss : List S115) (l : Nat → Int) (D : Int) : Int × Int := sizeAt old ss (fun i => l i.toNat == D) old.length
theorem sizeAt_succ (old : List Int) (ss : List S115) (p : Int → Bool) (k : Nat) : sizeAt old ss p (k + 1) = ((sizeAt old ss p k).1 + (partF old ss (k : Int) p).1, (sizeAt old ss p k).2 + (partF old ss (k : Int) p).2) := by
 unfold sizeAt
 rw [List.range_succ, List.map_append, List.map_append, List.sum_append, List.sum_append]
 simp
theorem ppl_of {no : Nat} {nw : Int} {ss : List S115} (h : ∀ s ∈ ss, StreetOk no nw s) (d : Int) : Ppl (ofAt ss d ss.length) := by
 intro x hx
 unfold ofAt at hx
 obtain ⟨i, hi, rfl⟩ := List.mem_map.1 hx
 have hi' := List.mem_range.1 (List.mem_filter.1 hi).1
 have hok := h _ (street_mem ss i hi')
 exact ⟨hok.p0, hok.p1, hok.p2⟩
theorem partF_bound {old : List Int} {nw : Int} {ss : List S115} (hss : ss.length ≤ 8) (hst : ∀ s ∈ ss, StreetOk old.length nw s) (hol : ∀ n ∈ old, 0 ≤ n ∧ n ≤ 10000) (d : Nat) (hd : d < old.length) (p : Int → Bool) :
  -100000 ≤ (partF old ss (d : Int) p).1 ∧ (partF old ss (d : Int) p).1 ≤ 100000 ∧ -100000 ≤ (partF old ss (d : Int) p).2 ∧ (partF old ss (d : Int) p).2 ≤ 100000 := by
 have hp := ppl_of hst (d : Int)
 have q1 := sums_bound (insP_ppl (p := p) hp).1
 have q2 := sums_bound (insP_ppl (p := p) hp).2
 have q3 := insP_len p (ofAt ss (d : Int) ss.length)
 have q4 := ofAt_len ss (d : Int) ss.length
 have hrd := hol (rd old (d : Int)) (by rw [rd_get old d hd]; exact List.getElem_mem hd)
 unfold partF
 simp only
 omega
theorem sizeAt_bound {old : List Int} {nw : Int} {ss : List S115} (hss : ss.length ≤ 8) (hst : ∀ s ∈ ss, StreetOk old.length nw s) (hol : ∀ n ∈ old, 0 ≤ n ∧ n ≤ 10000) (p : Int → Bool) : ∀ (k : Nat), k ≤ old.length →
  -100000 * (k : Int) ≤ (sizeAt old ss p k).1 ∧ (sizeAt old ss p k).1 ≤ 100000 * (k : Int) ∧ -100000 * (k : Int) ≤ (sizeAt old ss p k).2 ∧ (sizeAt old ss p k).2 ≤ 100000 * (k : Int)
 | 0, _ => by simp [sizeAt]
 | k + 1, hk => by
  have h1 := sizeAt_bound hss hst hol p k (by omega)
  have h2 := partF_bound hss hst hol k (by omega) p
  rw [sizeAt_succ]
  simp only
  omega
theorem blk_far {W : World} {g : Nat} {cs : List Value} {t : TypeId} (h : Blk W g cs t) {p : Addr} (hne : g ≠ p.block) (v : Value) : Blk (W.setCell p v) g cs t := h.move (Below.heap_setCell _ _ _ _ hne)
set_option maxRecDepth 100000 in
set_option maxHeartbeats 40000000 in
theorem size_calls {A0 : Option Addr} {c0 : Nat} {old : List Int} {nw : Int} {A2 : Option Addr} {c2 : Nat} {ss : List S115} {A3 : Option Addr} {c3 : Nat} {js : List S119} {w : World} (h : IsB w A0 c0 old A2 c2 ss A3 c3 js) (hss : ss.length ≤ 8) (hst : ∀ s ∈ ss, StreetOk old.length nw s) (hol : ∀ n ∈ old, 0 ≤ n ∧ n ≤ 10000) (ho4 : old.length ≤ 4)
  (l : Nat → Int) (D : Int) :
  Calls Try.prog 54 #[.agg #[.slice A0 old.length c0, .int .i64 nw, .slice A2 ss.length c2, .slice A3 js.length c3], encL l, .int .i64 D] w fun e w' => e = .returned (.agg #[.int .i64 (sizeF old ss l D).1, .int .i64 (sizeF old ss l D).2]) ∧ Below w.heap.size w w' := by
 have H := Aside0.mk h
 have HST := Aside0.mk hst
 have HOL := Aside0.mk hol
 clear h hst hol
 unfold encL
 go_enter Try.func54, Try.ntmps54
 go_wp2_with fail
 have HB0 := Aside0.mk (below_alloc (below_alloc (below_alloc (below_alloc (Below.refl w.heap.size w) (.cells #[.slice A0 old.length c0, .int .i64 nw, .slice A2 ss.length c2, .slice A3 js.length c3] 69)) (.cells #[.int .i64 (l 0), .int .i64 (l 1), .int .i64 (l 2), .int .i64 (l 3), .int .i64 (l 4), .int .i64 (l 5), .int .i64 (l 6), .int .i64 (l 7)] 121)) (.cells #[.int .i64 D] 3)) (.cells #[.int .i64 0, .int .i64 0] 71))
 have B30 := Aside0.mk (((Blk.new w [.slice A0 old.length c0, .int .i64 nw, .slice A2 ss.length c2, .slice A3 js.length c3] 69).alloc (.cells #[.int .i64 (l 0), .int .i64 (l 1), .int .i64 (l 2), .int .i64 (l 3), .int .i64 (l 4), .int .i64 (l 5), .int .i64 (l 6), .int .i64 (l 7)] 121)).alloc (.cells #[.int .i64 D] 3) |>.alloc (.cells #[.int .i64 0, .int .i64 0] 71))
 have B40 := Aside0.mk (show Blk ((((w.alloc (.cells #[.slice A0 old.length c0, .int .i64 nw, .slice A2 ss.length c2, .slice A3 js.length c3] 69)).alloc (.cells #[.int .i64 (l 0), .int .i64 (l 1), .int .i64 (l 2), .int .i64 (l 3), .int .i64 (l 4), .int .i64 (l 5), .int .i64 (l 6), .int .i64 (l 7)] 121)).alloc (.cells #[.int .i64 D] 3)).alloc (.cells #[.int .i64 0, .int .i64 0] 71)) (w.heap.size + 1) (cellsL l) 121 by have hB := ((Blk.new (w.alloc (.cells #[.slice A0 old.length c0, .int .i64 nw, .slice A2 ss.length c2, .slice A3 js.length c3] 69)) (cellsL l) 121).alloc (.cells #[.int .i64 D] 3)).alloc (.cells #[.int .i64 0, .int .i64 0] 71); simp only [World.size_alloc] at hB; exact hB)
 have B50 := Aside0.mk (show Blk ((((w.alloc (.cells #[.slice A0 old.length c0, .int .i64 nw, .slice A2 ss.length c2, .slice A3 js.length c3] 69)).alloc (.cells #[.int .i64 (l 0), .int .i64 (l 1), .int .i64 (l 2), .int .i64 (l 3), .int .i64 (l 4), .int .i64 (l 5), .int .i64 (l 6), .int .i64 (l 7)] 121)).alloc (.cells #[.int .i64 D] 3)).alloc (.cells #[.int .i64 0, .int .i64 0] 71)) (w.heap.size + 1 + 1) [.int .i64 D] 3 by have hB := (Blk.new ((w.alloc (.cells #[.slice A0 old.length c0, .int .i64 nw, .slice A2 ss.length c2, .slice A3 js.length c3] 69)).alloc (.cells #[.int .i64 (l 0), .int .i64 (l 1), .int .i64 (l 2), .int .i64 (l 3), .int .i64 (l 4), .int .i64 (l 5), .int .i64 (l 6), .int .i64 (l 7)] 121)) [.int .i64 D] 3).alloc (.cells #[.int .i64 0, .int .i64 0] 71); simp only [World.size_alloc] at hB; exact hB)
 have B60 := Aside0.mk (show Blk ((((w.alloc (.cells #[.slice A0 old.length c0, .int .i64 nw, .slice A2 ss.length c2, .slice A3 js.length c3] 69)).alloc (.cells #[.int .i64 (l 0), .int .i64 (l 1), .int .i64 (l 2), .int .i64 (l 3), .int .i64 (l 4), .int .i64 (l 5), .int .i64 (l 6), .int .i64 (l 7)] 121)).alloc (.cells #[.int .i64 D] 3)).alloc (.cells #[.int .i64 0, .int .i64 0] 71)) (w.heap.size + 1 + 1 + 1) [.int .i64 (sizeAt old ss (fun i => l i.toNat == D) 0).1, .int .i64 (sizeAt old ss (fun i => l i.toNat == D) 0).2] 71 by have hB := Blk.new (((w.alloc (.cells #[.slice A0 old.length c0, .int .i64 nw, .slice A2 ss.length c2, .slice A3 js.length c3] 69)).alloc (.cells #[.int .i64 (l 0), .int .i64 (l 1), .int .i64 (l 2), .int .i64 (l 3), .int .i64 (l 4), .int .i64 (l 5), .int .i64 (l 6), .int .i64 (l 7)] 121)).alloc (.cells #[.int .i64 D] 3)) [.int .i64 0, .int .i64 0] 71; simp only [World.size_alloc] at hB; exact hB)
 have hs0 : w.heap.size + 1 + 1 + 1 < ((((w.alloc (.cells #[.slice A0 old.length c0, .int .i64 nw, .slice A2 ss.length c2, .slice A3 js.length c3] 69)).alloc (.cells #[.int .i64 (l 0), .int .i64 (l 1), .int .i64 (l 2), .int .i64 (l 3), .int .i64 (l 4), .int .i64 (l 5), .int .i64 (l 6), .int .i64 (l 7)] 121)).alloc (.cells #[.int .i64 D] 3)).alloc (.cells #[.int .i64 0, .int .i64 0] 71)).heap.size := by simp
 generalize (((w.alloc (.cells #[.slice A0 old.length c0, .int .i64 nw, .slice A2 ss.length c2, .slice A3 js.length c3] 69)).alloc (.cells #[.int .i64 (l 0), .int .i64 (l 1), .int .i64 (l 2), .int .i64 (l 3), .int .i64 (l 4), .int .i64 (l 5), .int .i64 (l 6), .int .i64 (l 7)] 121)).alloc (.cells #[.int .i64 D] 3)).alloc (.cells #[.int .i64 0, .int .i64 0] 71) = w1 at HB0 B30 B40 B50 B60 hs0 ⊢
 go_loopw [12] (fun v wr => ∃ k : Nat, k ≤ old.length ∧ v = .int .i64 k ∧ Aside0 (Below w.heap.size w wr) ∧ Aside0 (Blk wr w.heap.size [.slice A0 old.length c0, .int .i64 nw, .slice A2 ss.length c2, .slice A3 js.length c3] 69) ∧ Aside0 (Blk wr (w.heap.size + 1) (cellsL l) 121) ∧ Aside0 (Blk wr (w.heap.size + 1 + 1) [.int .i64 D] 3) ∧ Aside0 (Blk wr (w.heap.size + 1 + 1 + 1) [.int .i64 (sizeAt old ss (fun i => l i.toNat == D) k).1, .int .i64 (sizeAt old ss (fun i => l i.toNat == D) k).2] 71)) (fun v _ => old.length - (intOf v).toNat)
 case atStart => exact ⟨0, Nat.zero_le _, rfl, HB0, B30, B40, B50, B60⟩
 case round =>
  clear HB0 B30 B40 B50 B60 hs0
  obtain ⟨k, hk, rfl, HB, B3, B4, B5, B6⟩ := hrel
  by_cases hkl : k < old.length
  ·have HSZ := Aside0.mk (sizeAt_succ old ss (fun i => l i.toNat == D) k)
   have hsb := sizeAt_bound hss HST.out HOL.out (fun i => l i.toNat == D) (k + 1) (by omega)
   rw [HSZ.out] at hsb
   simp only at hsb
   have hw1 : wrap64 ((sizeAt old ss (fun i => l i.toNat == D) k).1 + (partF old ss (k : Int) (fun i => l i.toNat == D)).1) = (sizeAt old ss (fun i => l i.toNat == D) k).1 + (partF old ss (k : Int) (fun i => l i.toNat == D)).1 := IntWalk.wrap64_in _ (by omega)
   have hw2 : wrap64 ((sizeAt old ss (fun i => l i.toNat == D) k).2 + (partF old ss (k : Int) (fun i => l i.toNat == D)).2) = (sizeAt old ss (fun i => l i.toNat == D) k).2 + (partF old ss (k : Int) (fun i => l i.toNat == D)).2 := IntWalk.wrap64_in _ (by omega)
   have HPI := Aside0.mk (fun (W : World) (x : Nat) (hx : x < ss.length) (hW : Below wr.heap.size wr W) => size1_calls (B4.out.below hW) (B5.out.below hW) x (by omega))
   have hpc := part_calls (H.out.below HB.out) hss HST.out HOL.out k hkl 88 #[.pointer (some ⟨w.heap.size + 1, 0, none⟩), .pointer (some ⟨w.heap.size + 1 + 1, 0, none⟩)] (enters Try.func88 (by kernel_rfl) rfl) (fun i => l i.toNat == D) HPI.out
   have HPC := Aside0.mk hpc
   generalize partF old ss (k : Int) (fun i => l i.toNat == D) = pp at hw1 hw2 HSZ HPC
   generalize sizeAt old ss (fun i => l i.toNat == D) k = sz at hw1 hw2 HSZ B6
   obtain ⟨p0, p1⟩ := pp
   obtain ⟨z0, z1⟩ := sz
   simp only at hw1 hw2 HSZ B6 HPC
   have hg := B6.out.lt
   have h30 := B3.out.cell 0
   have h31 := B3.out.cell 1
   have h32 := B3.out.cell 2
   have h33 := B3.out.cell 3
   simp only [sb3, sb4] at h30 h31 h32 h33
   clear hpc HPI hsb
   go_wp2_with fail
   clear h30 h31 h32 h33
   refine HPC.out.mono ?_
   rintro e w2 ⟨rfl, hb_⟩
   have B62 := Aside0.mk (B6.out.below hb_)
   have B32 := Aside0.mk (B3.out.below hb_)
   have B42 := Aside0.mk (B4.out.below hb_)
   have B52 := Aside0.mk (B5.out.below hb_)
   have HB2 := Aside0.mk (HB.out.trans (hb_.mono HB.out.size))
   have hg2 := B62.out.lt
   have hc0 := B62.out.cell 0
   have hc1 := B62.out.cell 1
   have hf0 := B62.out.frozen 0
   have hf1 := B62.out.frozen 1
   simp only [sb3, sb4] at hc0 hc1
   clear hb_ HB B3 B4 B5 B6 HPC
   go_wp2_with fail
   refine ⟨⟨k + 1, by omega, rfl, ⟨below_alloc ((HB2.out.setCell (p := ⟨w.heap.size + 1 + 1 + 1, 0, none⟩) (by simp only; omega) _).setCell (p := ⟨w.heap.size + 1 + 1 + 1, 1, none⟩) (by simp only; omega) _) _⟩, ⟨(blk_far (blk_far B32.out (by simp only; omega) _) (by simp only; omega) _).alloc _⟩, ⟨(blk_far (blk_far B42.out (by simp only; omega) _) (by simp only; omega) _).alloc _⟩, ⟨(blk_far (blk_far B52.out (by simp only; omega) _) (by simp only; omega) _).alloc _⟩, ⟨by rw [HSZ.out]; exact (B62.out.set2 _ _).alloc _⟩⟩, by simp [intOf]; omega⟩
  ·obtain rfl : k = old.length := by omega
   have hg := B6.out.lt
   have hc0 := B6.out.cell 0
   have hc1 := B6.out.cell 1
   have hf0 := B6.out.frozen 0
   have hf1 := B6.out.frozen 1
   simp only [sb3, sb4] at hc0 hc1
   go_wp2_with fail
   refine bodyPost_ret (results_cell_row rfl _ _ (w.heap.size + 1 + 1 + 1) 71 #[.int .i64 (sizeF old ss l D).1, .int .i64 (sizeF old ss l D).2] (0, 0) _ rfl (B6.out.set2 _ _) Try.underlying71 rfl (by kernel_rfl)) rfl ?_
   exact ⟨rfl, (HB.out.setCell (p := ⟨w.heap.size + 1 + 1 + 1, 0, none⟩) (by simp only; omega) _).setCell (p := ⟨w.heap.size + 1 + 1 + 1, 1, none⟩) (by simp only; omega) _⟩
end Go.Proofs.Ytiddkceahbnolaa
