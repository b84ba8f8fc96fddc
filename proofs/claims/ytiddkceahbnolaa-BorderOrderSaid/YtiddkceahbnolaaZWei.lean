/- border's weighed: whether each old district has a street with a weight. -/
import Derived.Test.YtiddkceahbnolaaZRng
namespace Go.Proofs.Ytiddkceahbnolaa
open Go.RowKit Go.Shelf Go.Proofs.Ytiddkceahbnolaa.PBorderOrder Go.Proofs.YtiddkceahbnolaaW.PrintWords Go.Proofs.YtiddkceahbnolaaW.PrintLast
set_option linter.all false
attribute [local go_sem] Oper.semAt_some
def wsum (xs : List IS) : Int := (xs.map (fun x => x.2.f2)).sum
theorem wsum_snoc (xs : List IS) (x : IS) : wsum (xs ++ [x]) = wsum xs + x.2.f2 := by
 unfold wsum
 rw [List.map_append, List.sum_append]
 simp
def weighedB (no : Nat) (ss : List S115) : Bool := (List.range no).all (fun d => !(wsum (ofAt ss (d : Int) ss.length) == 0))
theorem weighed_false {no : Nat} {ss : List S115} (d : Nat) (hd : d < no) (h : wsum (ofAt ss (d : Int) ss.length) = 0) : weighedB no ss = false := by
 unfold weighedB
 rw [List.all_eq_false]
 exact ⟨d, by simpa using hd, by simp [h]⟩
theorem weighed_true {no : Nat} {ss : List S115} (h : ∀ d : Nat, d < no → wsum (ofAt ss (d : Int) ss.length) ≠ 0) : weighedB no ss = true := by
 unfold weighedB
 rw [List.all_eq_true]
 intro d hd
 have := h d (by simpa using hd)
 simpa using this
/-- What the round's streets have: weights that are small. -/
def Wt (xs : List IS) : Prop := ∀ x ∈ xs, 0 ≤ x.2.f2 ∧ x.2.f2 ≤ 1000
theorem wsum_bound {xs : List IS} (h : Wt xs) : 0 ≤ wsum xs ∧ wsum xs ≤ 1000 * xs.length := by
 unfold wsum
 induction xs with
 | nil => simp
 | cons x xs ih =>
  have h1 := h x List.mem_cons_self
  have h2 := ih (fun y hy => h y (List.mem_cons_of_mem _ hy))
  simp only [List.map_cons, List.sum_cons, List.length_cons]
  omega
theorem street_mem (ss : List S115) (k : Nat) (h : k < ss.length) : enc_rd_Street ss k ∈ ss := by
 have : enc_rd_Street ss k = ss[k] := by simp [enc_rd_Street, rd_T115, List.getD, h]
 rw [this]
 exact List.getElem_mem h
set_option maxRecDepth 100000 in
set_option maxHeartbeats 40000000 in
theorem weighed_calls {A0 : Option Addr} {c0 : Nat} {old : List Int} {nw : Int} {A2 : Option Addr} {c2 : Nat} {ss : List S115} {A3 : Option Addr} {c3 : Nat} {js : List S119} {w : World} (h : IsB w A0 c0 old A2 c2 ss A3 c3 js) (hss : ss.length ≤ 1000) (hold : old.length ≤ 1000) (hwt : ∀ s ∈ ss, 0 ≤ s.f2 ∧ s.f2 ≤ 1000) :
  Calls Try.prog 94 #[.agg #[.slice A0 old.length c0, .int .i64 nw, .slice A2 ss.length c2, .slice A3 js.length c3]] w fun e w' => e = .returned (.bool (weighedB old.length ss)) ∧ Below w.heap.size w w' := by
 have H := Aside0.mk h
 have HWT := Aside0.mk hwt
 have hb2 := h.b2
 clear h hwt
 refine (callsIn_wide (n := 9)).1 (callsIn_of_wp_marks0 Try.func94 rfl trivial ?_ rfl)
 simp only [Try.ntmps94, List.size_toArray, List.length_cons, List.length_nil, Nat.reduceAdd, Nat.reduceSub, Array.replicate_succ, Array.replicate_zero, List.push_toArray, List.append_toArray, List.nil_append, List.cons_append]
 refine wpIn_wide.2 ?_
 go_wp2_with (with_reducible refine wpIn_wide.2 ?_)
 have HB := Aside0.mk (below_alloc (Below.refl w.heap.size w) (.cells #[.slice A0 old.length c0, .int .i64 nw, .slice A2 ss.length c2, .slice A3 js.length c3] 69))
 have B1 := Aside0.mk (Blk.new w [.slice A0 old.length c0, .int .i64 nw, .slice A2 ss.length c2, .slice A3 js.length c3] 69)
 have hs0 : w.heap.size < (w.alloc (.cells #[.slice A0 old.length c0, .int .i64 nw, .slice A2 ss.length c2, .slice A3 js.length c3] 69)).heap.size := size_alloc _ _
 generalize w.alloc (.cells #[.slice A0 old.length c0, .int .i64 nw, .slice A2 ss.length c2, .slice A3 js.length c3] 69) = w0 at HB B1 hs0 ⊢
 refine wp_loop (fun a' wr => ∃ (ds : List Deferred) (d : Nat), d ≤ old.length ∧ Aside0 (∀ j : Nat, j < d → wsum (ofAt ss (j : Int) ss.length) ≠ 0) ∧ Aside0 (Below w.heap.size w wr) ∧ Aside0 (Blk wr w.heap.size [.slice A0 old.length c0, .int .i64 nw, .slice A2 ss.length c2, .slice A3 js.length c3] 69) ∧ Aside0 (Marks w.heap.size wr ds) ∧ a' = { tmps := #[.agg #[.slice A0 old.length c0, .int .i64 nw, .slice A2 ss.length c2, .slice A3 js.length c3], .pointer (some ⟨w.heap.size, 0, none⟩), .bool false, a'.tmps.getD 3 undef, a'.tmps.getD 4 undef, a'.tmps.getD 5 undef, a'.tmps.getD 6 undef, .pointer (some ⟨w.heap.size, 0, none⟩), .slice A0 old.length c0, .int .i64 (old.length : Int), .int .i64 (d : Int), a'.tmps.getD 11 undef, a'.tmps.getD 12 undef, a'.tmps.getD 13 undef, a'.tmps.getD 14 undef, a'.tmps.getD 15 undef, a'.tmps.getD 16 undef, a'.tmps.getD 17 undef, a'.tmps.getD 18 undef, a'.tmps.getD 19 undef, a'.tmps.getD 20 undef, a'.tmps.getD 21 undef, a'.tmps.getD 22 undef, a'.tmps.getD 23 undef, a'.tmps.getD 24 undef], defers := ds }) (fun a' _ => old.length - (intOf (a'.tmps.getD 10 undef)).toNat) ?start ?round
 case start => exact ⟨[], 0, Nat.zero_le _, ⟨fun j hj => absurd hj (Nat.not_lt_zero _)⟩, HB, B1, ⟨trivial⟩, rfl⟩
 case round =>
  clear HB B1 hs0
  rintro a' wr ⟨ds, d, hd, HJ, HB, B1, HM, hfr⟩
  obtain ⟨u, hu⟩ : ∃ u : Nat → Value, a' = { tmps := #[.agg #[.slice A0 old.length c0, .int .i64 nw, .slice A2 ss.length c2, .slice A3 js.length c3], .pointer (some ⟨w.heap.size, 0, none⟩), .bool false, (u 3), (u 4), (u 5), (u 6), .pointer (some ⟨w.heap.size, 0, none⟩), .slice A0 old.length c0, .int .i64 (old.length : Int), .int .i64 (d : Int), (u 11), (u 12), (u 13), (u 14), (u 15), (u 16), (u 17), (u 18), (u 19), (u 20), (u 21), (u 22), (u 23), (u 24)], defers := ds } := ⟨fun i => a'.tmps.getD i undef, hfr⟩
  clear hfr
  subst hu
  dsimp only
  by_cases hlt : d < old.length
  ·have hg1 := B1.out.lt
   have h10 := B1.out.cell 0
   have h11 := B1.out.cell 1
   have h12 := B1.out.cell 2
   have h13 := B1.out.cell 3
   simp only [sb3, sb4] at h10 h11 h12 h13
   go_wp2_with (with_reducible refine wpIn_wide.2 ?_)
   have HB1 := Aside0.mk (below_alloc HB.out (.cells #[.int .i64 0] 3))
   have B11 := Aside0.mk (B1.out.alloc (.cells #[.int .i64 0] 3))
   have B4 := Aside0.mk (Blk.new wr [.int .i64 0] 3)
   have HM1 := Aside0.mk (HM.out.alloc (.cells #[.int .i64 0] 3))
   have hs1 := size_alloc wr (.cells #[.int .i64 0] 3)
   clear HB B1 HM h10 h11 h12 h13
   generalize wr.alloc (.cells #[.int .i64 0] 3) = wa at HB1 B11 B4 HM1 hs1 ⊢
   generalize wr.heap.size = g4 at B4 hs1 hg1 ⊢
   refine ((callsIn_wide (n := 8)).1 (of_in Fence.wide 8 trivial rfl _ _ _ _ _ rfl rfl rfl rfl wa)).mono ?_
   rintro e w4 ⟨rfl, rfl⟩
   have HB2 := Aside0.mk (below_alloc (below_alloc HB1.out (.cells #[.slice A0 old.length c0, .int .i64 nw, .slice A2 ss.length c2, .slice A3 js.length c3] 69)) (.cells #[.int .i64 (d : Int)] 3))
   have B12 := Aside0.mk ((B11.out.alloc (.cells #[.slice A0 old.length c0, .int .i64 nw, .slice A2 ss.length c2, .slice A3 js.length c3] 69)).alloc (.cells #[.int .i64 (d : Int)] 3))
   have B42 := Aside0.mk ((B4.out.alloc (.cells #[.slice A0 old.length c0, .int .i64 nw, .slice A2 ss.length c2, .slice A3 js.length c3] 69)).alloc (.cells #[.int .i64 (d : Int)] 3))
   have HM2 := Aside0.mk ((HM1.out.alloc (.cells #[.slice A0 old.length c0, .int .i64 nw, .slice A2 ss.length c2, .slice A3 js.length c3] 69)).alloc (.cells #[.int .i64 (d : Int)] 3))
   have HX1 := Aside0.mk ((Blk.new wa [.slice A0 old.length c0, .int .i64 nw, .slice A2 ss.length c2, .slice A3 js.length c3] 69).alloc (.cells #[.int .i64 (d : Int)] 3))
   have HX2 := Aside0.mk (Blk.new (wa.alloc (.cells #[.slice A0 old.length c0, .int .i64 nw, .slice A2 ss.length c2, .slice A3 js.length c3] 69)) [.int .i64 (d : Int)] 3)
   simp only [World.size_alloc] at HX2
   have hsz : ((wa.alloc (.cells #[.slice A0 old.length c0, .int .i64 nw, .slice A2 ss.length c2, .slice A3 js.length c3] 69)).alloc (.cells #[.int .i64 (d : Int)] 3)).heap.size = wa.heap.size + 1 + 1 := by simp
   clear HB1 B11 B4 HM1
   generalize (wa.alloc (.cells #[.slice A0 old.length c0, .int .i64 nw, .slice A2 ss.length c2, .slice A3 js.length c3] 69)).alloc (.cells #[.int .i64 (d : Int)] 3) = w4 at HB2 B12 B42 HM2 HX1 HX2 hsz ⊢
   obtain ⟨gx, hgx⟩ : ∃ gx, wa.heap.size = gx := ⟨_, rfl⟩
   rw [hgx] at HX1 HX2 hsz hs1 ⊢
   clear hgx
   have HC := Aside0.mk (H.out.below HB2.out)
   have hlo := streets_lo H.out.kst
   go_wp2_with (with_reducible refine wpIn_wide.2 ?_)
   refine (wpIn_wide (n := 9)).1 ?_
   refine range_of (gm := gx) (gn := gx + 1) (by decide) (by decide) rfl (n₀ := w4.heap.size) (S := fun b => b = g4) (u0 := .slice A0 old.length c0) (u1 := .int .i64 nw) (u3 := .slice A3 js.length c3) (A2 := A2) (c2 := c2) (ss := ss) (old := (d : Int)) hb2 (Nat.le_refl _) ?reads
    (fun t x => (t.setIfInBounds 16 (.int .i64 (x.1 : Int))).setIfInBounds 17 (encS x.2)) (fun t x g => ((t.setIfInBounds 16 (.int .i64 (x.1 : Int))).setIfInBounds 17 (encS x.2)).setIfInBounds 6 (.pointer (some ⟨g, 0, none⟩))) (fun t x => zip2 t 16 17 _ _)
    (fun pre W => Aside0 (Blk W g4 [.int .i64 (wsum pre)] 3) ∧ Aside0 (Below w.heap.size w W) ∧ Aside0 (Blk W w.heap.size [.slice A0 old.length c0, .int .i64 nw, .slice A2 ss.length c2, .slice A3 js.length c3] 69) ∧ Aside0 (MKeep w4 W) ∧ Aside0 (w4.heap.size ≤ W.heap.size) ∧ Aside0 (Wt pre)) ?own (fun xs W hi => hi.2.2.2.2.1.out) ⟨B42, HB2, B12, ⟨MKeep.refl _⟩, ⟨Nat.le_refl _⟩, ⟨fun x hx => by cases hx⟩⟩ ?assign ?body ?done
   case reads => exact ⟨HX1.out, by simpa using HX2.out.cell 0, HC.out.kst, ⟨by omega, by omega⟩, ⟨by omega, by omega⟩, fun h0 ad e => ⟨by have := hlo h0 ad e; omega, by have := hlo h0 ad e; omega⟩⟩
   case own =>
    rintro xs W W' row ⟨i1, i2, i3, i4, i5, i6⟩ hg hr
    have hr' := fun r e => (hr r e).1
    have h5 := i5.out
    have hw2 := HB2.out.size
    exact ⟨⟨i1.out.kept (B := w4.heap.size) (by omega) hg hr'⟩, ⟨i2.out.grown hg i2.out.size (fun k e => by have := hr' k e; omega)⟩, ⟨i3.out.kept (B := w4.heap.size) (by omega) hg hr'⟩, ⟨i4.out.kept (Nat.le_refl _) hg hr'⟩, ⟨Nat.le_trans h5 hg.size⟩, i6⟩
   case assign =>
    intro l x W K hx hK
    simp only [sb0, sb1, sb2, cellsS, encS] at hK ⊢
    gi_wp2_with fail
    exact hK
   case body =>
    rintro l pre x g W hx hlen ⟨i1, i2, i3, i4, i5, i6⟩ hg hBg
    simp only [sb0, sb1, sb2, encS]
    have hc4 := i1.out.cell 0
    have hc4f := i1.out.frozen 0
    have hgc := hBg.cell 2
    simp only [sb3, sb4, cellsS] at hc4 hgc
    have hwtx : 0 ≤ x.2.f2 ∧ x.2.f2 ≤ 1000 := HWT.out _ (by rw [hx.2.1]; exact street_mem ss x.1 hx.1)
    have hws := wsum_bound i6.out
    have hpl : (pre.length : Int) < 1000 := by omega
    have hsum : wrap64 (wsum pre + x.2.f2) = wsum pre + x.2.f2 := IntWalk.wrap64_in _ (by omega)
    have hsn := wsum_snoc pre x
    obtain ⟨sm, hsm⟩ : ∃ s, wsum pre = s := ⟨_, rfl⟩
    rw [hsm] at hsum hc4 hsn
    have HSN := Aside0.mk hsn
    have HWX := Aside0.mk hwtx
    have h5 := i5.out
    have hgw := hBg.lt
    clear hsn hsm hws hpl hwtx
    gi_wp2_with fail
    refine ⟨⟨by simp [World.setCell], fun k o hk ho hc => (Below.heap_setCell _ _ _ _ (by simp only; omega)).trans ho⟩, (Keep.refl w4.heap.size (fun b => b = g4) W).setCell (p := ⟨g4, 0, none⟩) (.inl rfl) _, ⟨by rw [HSN.out]; exact blk_set i1.out 0 _⟩, ⟨i2.out.setCell (p := ⟨g4, 0, none⟩) (by simp only; omega) _⟩, ⟨i3.out.move (Below.heap_setCell _ _ _ _ (by simp only; omega))⟩, ⟨i4.out.setCell _ _⟩, ⟨by rw [size_set]; exact h5⟩, ⟨fun y hy => ?_⟩⟩
    rcases List.mem_append.1 hy with hy | hy
    ·exact i6.out y hy
    ·obtain rfl := List.mem_singleton.1 hy
     exact HWX.out
   case done =>
    rintro D W hD ⟨i1, i2, i3, i4, i5, i6⟩ hDm
    have HMk := Aside0.mk (Marks.cons HM2.out i4.out hD (by omega) hDm)
    have hc4 := i1.out.cell 0
    simp only [List.getElem?_cons_zero] at hc4
    obtain ⟨sm, hsm⟩ : ∃ s, wsum (ofAt ss (d : Int) ss.length) = s := ⟨_, rfl⟩
    rw [hsm] at hc4
    dsimp only
    by_cases h0 : sm = 0
    ·have h0b : (sm == 0) = true := by simp [h0]
     have HF := Aside0.mk (weighed_false d hlt (hsm.trans h0))
     clear h0 hsm
     go_wp2_with fail
     refine Marks.leaves (lo := w.heap.size) (Inv := fun W => Below w.heap.size w W) (fun W D hlo hD hi => hi.grown (grownBy_putObj' W D _) hi.size (fun k e => by cases e; exact hlo)) (fun W hi => ?_) _ W HMk.out i2.out
     refine ⟨_, results_tmp rfl _ _ _, ?_, hi⟩
     show Ending.returned (.bool false) = _
     rw [HF.out]
    ·have h0b : (sm == 0) = false := by simp [h0]
     have HJ2 := Aside0.mk (fun (j : Nat) (hj : j < d + 1) => if h : j = d then (show wsum (ofAt ss (j : Int) ss.length) ≠ 0 by rw [h, hsm]; exact h0) else HJ.out j (by omega))
     clear h0 hsm
     go_wp2_with fail
     refine ⟨⟨_, d + 1, by omega, HJ2, i2, i3, HMk, rfl⟩, ?_⟩
     show old.length - (intOf (.int .i64 ((d : Int) + 1))).toNat < old.length - (intOf (.int .i64 (d : Int))).toNat
     simp [intOf]
     omega
  ·obtain rfl : d = old.length := by omega
   go_wp2_with (with_reducible refine wpIn_wide.2 ?_)
   refine Marks.leaves (lo := w.heap.size) (Inv := fun W => Below w.heap.size w W) (fun W D hlo hD hi => hi.grown (grownBy_putObj' W D _) hi.size (fun k e => by cases e; exact hlo)) (fun W hi => ?_) ds wr HM.out HB.out
   refine ⟨_, results_tmp rfl _ _ _, ?_, hi⟩
   show Ending.returned (.bool true) = _
   rw [weighed_true HJ.out]
end Go.Proofs.Ytiddkceahbnolaa
