/- border's carried counts, where each old district has two streets. -/
import Derived.Test.YtiddkceahbnolaaZDvd
import Derived.Test.YtiddkceahbnolaaZCon
namespace Go.Proofs.Ytiddkceahbnolaa
open Go.RowKit Go.Shelf Go.Proofs.Ytiddkceahbnolaa.PBorderOrder Go.Proofs.YtiddkceahbnolaaW.PrintWords Go.Proofs.YtiddkceahbnolaaW.PrintLast Go.Proofs.YtiddkceahbnolaaW.PrintMore
set_option linter.all false
attribute [local go_sem] Oper.semAt_some
def ca.T9 : Bool × List (List Nat × List Nat) := (true, [([], []), ([], []), ([1], [1]), ([2], [2]), ([0, 3], [0, 3]), ([], []), ([], []), ([6], [6]), ([5, 7, 4], [5, 7]), ([4, 8, 0, 1, 2, 3, 4], [4]), ([8, 9, 0, 1, 2, 3, 4, 5, 6, 7, 8, 9], [8])])
def ca.B9 : List Nat := [0, 0, 2, 6, 15, 0, 0, 64, 255, 511, 1023]
theorem ca.tab9 : rtab .any (opsOf Try.f82 9) = ca.T9 := by kernel_rfl
theorem ca.bits9 : waitsOk ca.T9.2 ca.B9 = true := by kernel_rfl
theorem Two.grown {base : Nat} {w w' : World} {v1 v2 : Value} {l1 l2 : List Int} (h : Two base w v1 v2 l1 l2) {row : Option Nat} (hg : w.grownBy w' row) (hr : ∀ r, row = some r → ∃ o, w.heap[r]? = some o ∧ o.isCells = false) : Two base w' v1 v2 l1 l2 := by
 have key : ∀ {v : Value} {l : List Int}, (Kd.int .i64).R 3 w base (fun _ => True) v l → (Kd.int .i64).R 3 w' base (fun _ => True) v l := fun h1 =>
  Kd.R_mono (Kd.R_grown (Kd.R_bound h1) hg (fun k hk e => by
   obtain ⟨o, ho, hc⟩ := hr k e.symm
   obtain ⟨_, _, _, q, _, cells, hk'⟩ := hk
   rw [hk'] at ho
   cases ho
   cases hc)) (fun _ _ => trivial)
 exact ⟨key h.r1, key h.r2, h.ne⟩
theorem Two.step {base : Nat} {w w' : World} {v1 v2 : Value} {l1 l2 : List Int} (h : Two base w v1 v2 l1 l2) (hm : ∀ k, base ≤ k → k < w.heap.size → w'.heap[k]? = w.heap[k]?) : Two base w' v1 v2 l1 l2 := by
 have key : ∀ {v : Value} {l : List Int}, (Kd.int .i64).R 3 w base (fun _ => True) v l → (Kd.int .i64).R 3 w' base (fun _ => True) v l := fun h1 =>
  Kd.R_mono (Kd.R_step (Kd.R_bound h1) (fun k hk hlt => hm k hk.2.1 hlt)) (fun _ _ => trivial)
 exact ⟨key h.r1, key h.r2, h.ne⟩
theorem ko_grown {base : Nat} {w w' : World} {v : Value} {l : List Int} (h : (Kd.int .i64).R 3 w base (fun _ => True) v l) (hg : w.grownBy w' v.ownBlock) : KeepsOthers w w' :=
 KeepsOthers.of_grownBy hg (fun j o e ho => by
  obtain ⟨_, _, _, q, _, cells, hk⟩ := (Kd.R_bound h).1 j e
  rw [hk] at ho
  cases ho
  rfl)
/-- Inside a round of carried: what an effect leaves. -/
structure CSt (base : Nat) (wd w : World) (g6 g7 g9 : Nat) (v6 v7 u6 u7 : Value) (l6 l7 : List Int) (cs : List Value) : Prop where
 two : Two base w u6 u7 l6 l7
 b : Below base wd w
 ko : KeepsOthers wd w
 b6 : Blk w g6 [v6] 26
 b7 : Blk w g7 [v7] 26
 b9 : Blk w g9 cs 115
 lt6 : g6 < base
 lt7 : g7 < base
 hs : base ≤ w.heap.size
theorem CSt.alloc {base : Nat} {wd w : World} {g6 g7 g9 : Nat} {v6 v7 u6 u7 : Value} {l6 l7 : List Int} {cs : List Value} (h : CSt base wd w g6 g7 g9 v6 v7 u6 u7 l6 l7 cs) (o : Obj) : CSt base wd (w.alloc o) g6 g7 g9 v6 v7 u6 u7 l6 l7 cs :=
 ⟨h.two.below (below_alloc (Below.refl _ _) o), h.b.alloc h.hs o, h.ko.trans (KeepsOthers.alloc w o), h.b6.alloc o, h.b7.alloc o, h.b9.alloc o, h.lt6, h.lt7, Nat.le_trans h.hs (Nat.le_of_lt (size_alloc w o))⟩
theorem CSt.own9 {base : Nat} {w : World} {g9 : Nat} {v : Value} {l : List Int} {cs : List Value} (h : (Kd.int .i64).R 3 w base (fun _ => True) v l) (b9 : Blk w g9 cs 115) : some g9 ≠ v.ownBlock := fun e => by
 obtain ⟨_, _, _, q, hq, cells, hk⟩ := (Kd.R_bound h).1 g9 e.symm
 rw [show w.heap[g9]? = some (.cells cs.toArray 115 (0, 0)) from b9] at hk
 have hq' : q = 3 := by simpa [show (Kd.int IntKind.i64).E = [] from rfl] using hq
 subst hq'
 cases hk
theorem CSt.app1 {base : Nat} {wd w w1 : World} {g6 g7 g9 : Nat} {v6 v7 u6 u7 v : Value} {l6 l7 l : List Int} {cs : List Value} (h : CSt base wd w g6 g7 g9 v6 v7 u6 u7 l6 l7 cs) (hon : (Kd.int .i64).R 3 w1 base (fun _ => True) v l) (hbn : Below base w w1) (hgn : w.grownBy w1 u6.ownBlock) (hat : v.ownBlock = u6.ownBlock ∨ ∃ b, v.ownBlock = some b ∧ w.heap.size ≤ b) : CSt base wd w1 g6 g7 g9 v6 v7 v u7 l l7 cs :=
 ⟨h.two.app1 hon hgn hat, h.b.trans hbn, h.ko.trans (ko_grown h.two.r1 hgn), h.b6.move (hbn.block _ h.lt6), h.b7.move (hbn.block _ h.lt7), h.b9.move (hgn.block _ h.b9.lt (CSt.own9 h.two.r1 h.b9)), h.lt6, h.lt7, Nat.le_trans h.hs hbn.size⟩
theorem CSt.app2 {base : Nat} {wd w w1 : World} {g6 g7 g9 : Nat} {v6 v7 u6 u7 v : Value} {l6 l7 l : List Int} {cs : List Value} (h : CSt base wd w g6 g7 g9 v6 v7 u6 u7 l6 l7 cs) (hon : (Kd.int .i64).R 3 w1 base (fun _ => True) v l) (hbn : Below base w w1) (hgn : w.grownBy w1 u7.ownBlock) (hat : v.ownBlock = u7.ownBlock ∨ ∃ b, v.ownBlock = some b ∧ w.heap.size ≤ b) : CSt base wd w1 g6 g7 g9 v6 v7 u6 v l6 l cs :=
 ⟨h.two.app2 hon hgn hat, h.b.trans hbn, h.ko.trans (ko_grown h.two.r2 hgn), h.b6.move (hbn.block _ h.lt6), h.b7.move (hbn.block _ h.lt7), h.b9.move (hgn.block _ h.b9.lt (CSt.own9 h.two.r2 h.b9)), h.lt6, h.lt7, Nat.le_trans h.hs hbn.size⟩
theorem lit_keep {base : Nat} {w w1 : World} {v : Value} {l : List Int} {b : Nat} {x : Value} (h : (Kd.int .i64).R 3 w base (fun _ => True) v l) (hb : Blk w b [x] 3) (hg : w.grownBy w1 v.ownBlock) (hne : some b ≠ v.ownBlock) : w1.cell? ⟨b, 0, none⟩ = some x :=
 (hb.move (hg.block b hb.lt hne) : Blk w1 b [x] 3).cell 0
theorem lit_row {w : World} {g : Nat} {x : Int} (h : w.cell? ⟨g, 0, none⟩ = some (.int .i64 x)) : (Kd.int .i64).C w (some ⟨g, 0, none⟩) 1 [x] := by
 refine ⟨rfl, by omega, fun _ => ⟨_, rfl, fun j p hj => ?_⟩⟩
 obtain rfl : j = 0 := by
  rcases Nat.eq_zero_or_pos j with e | e
  ·exact e
  ·rw [List.getElem?_eq_none (by simp only [List.length_cons, List.length_nil]; omega)] at hj
   cases hj
 simp only [List.getElem?_cons_zero, Option.some.injEq] at hj
 subst hj
 exact ⟨[.int .i64 x], rfl, rfl, fun k u hk => by
  cases k with
  | zero => simp only [List.getElem?_cons_zero, Option.some.injEq] at hk; subst hk; simpa [Addr.add] using h
  | succ k => simp at hk⟩
/-- What carried's inner range keeps. -/
structure CInv (w4 W : World) (g6 g7 : Nat) (v6 v7 : Value) (l6 l7 : List Int) : Prop where
 b6 : Blk W g6 [v6] 26
 b7 : Blk W g7 [v7] 26
 two : Two w4.heap.size W v6 v7 l6 l7
 keep : Keep w4.heap.size (fun b => b = g6 ∨ b = g7) w4 W
 mks : MKeep w4 W
theorem CInv.own {w4 W W' : World} {g6 g7 : Nat} {v6 v7 : Value} {l6 l7 : List Int} (h : CInv w4 W g6 g7 v6 v7 l6 l7) (h6 : g6 < w4.heap.size) (h7 : g7 < w4.heap.size) {row : Option Nat} (hg : W.grownBy W' row) (hr : ∀ r, row = some r → w4.heap.size ≤ r ∧ ∃ o : Obj, W.heap[r]? = some o ∧ o.isCells = false) : CInv w4 W' g6 g7 v6 v7 l6 l7 :=
 have hr' := fun r e => (hr r e).1
 ⟨h.b6.kept (B := w4.heap.size) h6 hg hr', h.b7.kept (B := w4.heap.size) h7 hg hr', h.two.grown hg (fun r e => (hr r e).2), ⟨hg.os.trans h.keep.os, hg.tape.trans h.keep.tape, hg.output.trans h.keep.output, Nat.le_trans h.keep.size hg.size, fun k hk hs => (hg.block k (by have := h.keep.size; omega) (fun e => by have := hr' k e.symm; omega)).trans (h.keep.block k hk hs)⟩, h.mks.kept (Nat.le_refl _) hg hr'⟩
/-- Each old district has two streets; P gives their parts. -/
def TwoOf (old : List Int) (ss : List S115) (P : Nat → Int × Int) : Prop := ∀ d : Nat, d < old.length → ∃ x y : IS, ofAt ss (d : Int) ss.length = [x, y] ∧ x.1 < ss.length ∧ y.1 < ss.length ∧ x.1 ≠ y.1 ∧ ∃ s q0 q1 r0 r1 left, DivOk x.2.f2 y.2.f2 (rd old (d : Int)) s q0 q1 r0 r1 left (P d).1 (P d).2
/-- The carried counts behind k old districts. -/
def carAt (ss : List S115) (P : Nat → Int × Int) : Nat → List Int
 | 0 => List.replicate ss.length 0
 | k + 1 => match ofAt ss (k : Int) ss.length with
  | [x, y] => ((carAt ss P k).set x.1 (P k).1).set y.1 (P k).2
  | _ => carAt ss P k
theorem carAt_len (ss : List S115) (P : Nat → Int × Int) : ∀ k, (carAt ss P k).length = ss.length
 | 0 => by simp [carAt]
 | k + 1 => by
  unfold carAt
  split
  ·rw [List.length_set, List.length_set, carAt_len ss P k]
  ·exact carAt_len ss P k
set_option maxRecDepth 100000 in
set_option maxHeartbeats 40000000 in
theorem carried_calls {A0 : Option Addr} {c0 : Nat} {old : List Int} {nw : Int} {A2 : Option Addr} {c2 : Nat} {ss : List S115} {A3 : Option Addr} {c3 : Nat} {js : List S119} {w : World} (h : IsB w A0 c0 old A2 c2 ss A3 c3 js) (hss : ss.length ≤ 8) (hs0 : 0 < ss.length) (ho4 : old.length ≤ 4) (hst : ∀ s ∈ ss, StreetOk old.length nw s) (P : Nat → Int × Int) (hP : TwoOf old ss P) :
  Calls Try.prog 82 #[.agg #[.slice A0 old.length c0, .int .i64 nw, .slice A2 ss.length c2, .slice A3 js.length c3]] w fun e w' => (∃ v, e = .returned v ∧ (Kd.int .i64).R 3 w' w.heap.size (fun _ => True) v (carAt ss P old.length)) ∧ Below w.heap.size w w' := by
 have H := Aside0.mk h
 have HP := Aside0.mk hP
 have HST := Aside0.mk hst
 have hb2 := h.b2
 clear h hP hst
 refine (callsIn_wide (n := 9)).1 (callsIn_of_wp_marks0 Try.func82 rfl trivial ?_ rfl)
 simp only [Try.ntmps82, List.size_toArray, List.length_cons, List.length_nil, Nat.reduceAdd, Nat.reduceSub, Array.replicate_succ, Array.replicate_zero, List.push_toArray, List.append_toArray, List.nil_append, List.cons_append]
 refine wpIn_wide.2 ?_
 have HB0 := Aside0.mk (below_alloc (Below.refl w.heap.size w) (.cells #[.slice A0 old.length c0, .int .i64 nw, .slice A2 ss.length c2, .slice A3 js.length c3] 69))
 have B10 := Aside0.mk (Blk.new w [.slice A0 old.length c0, .int .i64 nw, .slice A2 ss.length c2, .slice A3 js.length c3] 69)
 have hsz0 : w.heap.size < (w.alloc (.cells #[.slice A0 old.length c0, .int .i64 nw, .slice A2 ss.length c2, .slice A3 js.length c3] 69)).heap.size := by simp
 go_wp2_with (first | (with_reducible refine wpIn_wide.2 ?_) | ((with_reducible refine gate_dst (N := 17) rfl ?_); refine Kd.R_make (Kd.int .i64) (w0 := w) w.heap.size 3 rfl rfl 26 (.tmp 16) (.tmp 16) rfl (ss.length : Int) rfl rfl Try.underlying26 (.int .i64 0) 8 info3 rfl (by decide) (by decide) (0 : Int) (ok := fun _ => True) (okp := fun _ => False) rfl (fun _ h => h.elim) trivial (by omega) (by simp only [Int.toNat_natCast]; omega) HB0.out (by omega) ?_; intro vo w1 hon hbn hgn hatn; simp only [Int.toNat_natCast] at hon; have HO1 := Aside0.mk hon; have HB1 := Aside0.mk hbn; have B11 := Aside0.mk (B10.out.move (hgn.block _ (by omega) (fun e => by cases e))); have h10 := B11.out.cell 0; simp only [List.getElem?_cons_zero] at h10; obtain ⟨go, co, rfl, _⟩ := num_at HO1.out 0 (by simp only [List.length_replicate]; omega); clear hon hbn hgn hatn))
 have hgo := (Kd.R_bound HO1.out).1 go (by simp [Value.ownBlock])
 have hgo1 : w.heap.size < go := by
  rcases Nat.lt_or_ge w.heap.size go with h | h
  ·exact h
  ·exfalso
   obtain rfl : go = w.heap.size := by have := hgo.2.1; omega
   obtain ⟨_, _, _, q, hq, cells, hk⟩ := hgo
   rw [show w1.heap[w.heap.size]? = _ from B11.out] at hk
   have hq' : q = 3 := by simpa [show (Kd.int IntKind.i64).E = [] from rfl] using hq
   subst hq'
   cases hk
 have hgo2 := hgo.2.2.1
 have HO := Aside0.mk (show (Kd.int .i64).R 3 w1 w.heap.size (fun k => some k = some go) (.slice (some ⟨go, 0, none⟩) ss.length co) (carAt ss P 0) by
  have hx := Kd.R_tight rfl HO1.out
  simp only [List.length_replicate, Value.ownBlock] at hx
  exact hx)
 clear HB0 B10 hsz0 HO1 hgo h10
 refine wp_loop (fun a' wr => ∃ (ds : List Deferred) (d : Nat), d ≤ old.length ∧ go < wr.heap.size ∧ Aside0 ((Kd.int .i64).R 3 wr w.heap.size (fun k => some k = some go) (.slice (some ⟨go, 0, none⟩) ss.length co) (carAt ss P d)) ∧ Aside0 (Below w.heap.size w wr) ∧ Aside0 (Blk wr w.heap.size [.slice A0 old.length c0, .int .i64 nw, .slice A2 ss.length c2, .slice A3 js.length c3] 69) ∧ Aside0 (Marks w.heap.size wr ds) ∧ a' = { tmps := #[.agg #[.slice A0 old.length c0, .int .i64 nw, .slice A2 ss.length c2, .slice A3 js.length c3], .pointer (some ⟨w.heap.size, 0, none⟩), .slice none 0 0, .slice (some ⟨go, 0, none⟩) ss.length co, a'.tmps.getD 4 undef, a'.tmps.getD 5 undef, a'.tmps.getD 6 undef, a'.tmps.getD 7 undef, a'.tmps.getD 8 undef, a'.tmps.getD 9 undef, a'.tmps.getD 10 undef, a'.tmps.getD 11 undef, a'.tmps.getD 12 undef, a'.tmps.getD 13 undef, .pointer (some ⟨w.heap.size, 2, none⟩), .slice A2 ss.length c2, .int .i64 (ss.length : Int), .slice (some ⟨go, 0, none⟩) ss.length co, .pointer (some ⟨w.heap.size, 0, none⟩), .slice A0 old.length c0, .int .i64 (old.length : Int), .int .i64 (d : Int), a'.tmps.getD 22 undef, a'.tmps.getD 23 undef, a'.tmps.getD 24 undef, a'.tmps.getD 25 undef, a'.tmps.getD 26 undef, a'.tmps.getD 27 undef, a'.tmps.getD 28 undef, a'.tmps.getD 29 undef, a'.tmps.getD 30 undef, a'.tmps.getD 31 undef, a'.tmps.getD 32 undef, a'.tmps.getD 33 undef, a'.tmps.getD 34 undef, a'.tmps.getD 35 undef, a'.tmps.getD 36 undef, a'.tmps.getD 37 undef, a'.tmps.getD 38 undef, a'.tmps.getD 39 undef, a'.tmps.getD 40 undef, a'.tmps.getD 41 undef, a'.tmps.getD 42 undef, a'.tmps.getD 43 undef, a'.tmps.getD 44 undef, a'.tmps.getD 45 undef, a'.tmps.getD 46 undef, a'.tmps.getD 47 undef, a'.tmps.getD 48 undef, a'.tmps.getD 49 undef, a'.tmps.getD 50 undef, a'.tmps.getD 51 undef, a'.tmps.getD 52 undef, a'.tmps.getD 53 undef, a'.tmps.getD 54 undef, a'.tmps.getD 55 undef, a'.tmps.getD 56 undef, a'.tmps.getD 57 undef, a'.tmps.getD 58 undef, a'.tmps.getD 59 undef, a'.tmps.getD 60 undef, a'.tmps.getD 61 undef, a'.tmps.getD 62 undef], defers := ds }) (fun a' _ => old.length - (intOf (a'.tmps.getD 21 undef)).toNat) ?start ?round
 case start => exact ⟨[], 0, Nat.zero_le _, hgo2, HO, HB1, B11, ⟨trivial⟩, rfl⟩
 case round =>
  clear HB1 B11 HO hgo2
  rintro a' wr ⟨ds, d, hd, hgo2, HO, HB, B1, HM, hfr⟩
  obtain ⟨u, hu⟩ : ∃ u : Nat → Value, a' = { tmps := #[.agg #[.slice A0 old.length c0, .int .i64 nw, .slice A2 ss.length c2, .slice A3 js.length c3], .pointer (some ⟨w.heap.size, 0, none⟩), .slice none 0 0, .slice (some ⟨go, 0, none⟩) ss.length co, (u 4), (u 5), (u 6), (u 7), (u 8), (u 9), (u 10), (u 11), (u 12), (u 13), .pointer (some ⟨w.heap.size, 2, none⟩), .slice A2 ss.length c2, .int .i64 (ss.length : Int), .slice (some ⟨go, 0, none⟩) ss.length co, .pointer (some ⟨w.heap.size, 0, none⟩), .slice A0 old.length c0, .int .i64 (old.length : Int), .int .i64 (d : Int), (u 22), (u 23), (u 24), (u 25), (u 26), (u 27), (u 28), (u 29), (u 30), (u 31), (u 32), (u 33), (u 34), (u 35), (u 36), (u 37), (u 38), (u 39), (u 40), (u 41), (u 42), (u 43), (u 44), (u 45), (u 46), (u 47), (u 48), (u 49), (u 50), (u 51), (u 52), (u 53), (u 54), (u 55), (u 56), (u 57), (u 58), (u 59), (u 60), (u 61), (u 62)], defers := ds } := ⟨fun i => a'.tmps.getD i undef, hfr⟩
  clear hfr
  subst hu
  dsimp only
  by_cases hlt : d < old.length
  ·have hg1 := B1.out.lt
   have h10 := B1.out.cell 0
   have h11 := B1.out.cell 1
   have h12 := B1.out.cell 2
   have h13 := B1.out.cell 3
   simp only [sb3, sb4] at h10 h11 h12 h13
   obtain ⟨ad, e, hx⟩ := Kd.at_int (H.out.below HB.out).kold (d : Int) (by omega) (by omega)
   cases e
   simp only [Int.toNat_natCast] at hx
   obtain ⟨X, Y, hof, hX, hY, hXY, s_, q0_, q1_, r0_, r1_, lf_, hdiv⟩ := HP.out d hlt
   have HOF := Aside0.mk hof
   have HDV := Aside0.mk hdiv
   clear hof hdiv
   obtain ⟨cnt, hcnt⟩ : ∃ x, rd old (d : Int) = x := ⟨_, rfl⟩
   rw [hcnt] at hx HDV
   clear hcnt
   go_wp2_with (with_reducible refine wpIn_wide.2 ?_)
   have HBa := Aside0.mk (below_alloc (below_alloc HB.out (.cells #[.slice none 0 0] 26)) (.cells #[.slice none 0 0] 26))
   have B1a := Aside0.mk ((B1.out.alloc (.cells #[.slice none 0 0] 26)).alloc (.cells #[.slice none 0 0] 26))
   have B6a := Aside0.mk ((Blk.new wr [.slice none 0 0] 26).alloc (.cells #[.slice none 0 0] 26))
   have B7a := Aside0.mk (Blk.second wr (.cells #[.slice none 0 0] 26) [.slice none 0 0] 26)
   have HMa := Aside0.mk ((HM.out.alloc (.cells #[.slice none 0 0] 26)).alloc (.cells #[.slice none 0 0] 26))
   have HOa := Aside0.mk (Kd.R_alloc (Kd.R_alloc HO.out (.cells #[.slice none 0 0] 26)) (.cells #[.slice none 0 0] 26))
   have hsa : wr.heap.size + 1 < ((wr.alloc (.cells #[.slice none 0 0] 26)).alloc (.cells #[.slice none 0 0] 26)).heap.size := by simp
   clear HB B1 HM HO h10 h11 h12 h13 hx
   generalize (wr.alloc (.cells #[.slice none 0 0] 26)).alloc (.cells #[.slice none 0 0] 26) = wa at HBa B1a B6a B7a HMa HOa hsa ⊢
   generalize wr.heap.size = g6 at B6a B7a hsa hg1 hgo2 ⊢
   refine ((callsIn_wide (n := 8)).1 (of_in Fence.wide 8 trivial rfl _ _ _ _ _ rfl rfl rfl rfl wa)).mono ?_
   rintro e w4 ⟨rfl, rfl⟩
   have HB4 := Aside0.mk (below_alloc (below_alloc HBa.out (.cells #[.slice (some ad) old.length c0, .int .i64 nw, .slice A2 ss.length c2, .slice A3 js.length c3] 69)) (.cells #[.int .i64 (d : Int)] 3))
   have B14 := Aside0.mk ((B1a.out.alloc (.cells #[.slice (some ad) old.length c0, .int .i64 nw, .slice A2 ss.length c2, .slice A3 js.length c3] 69)).alloc (.cells #[.int .i64 (d : Int)] 3))
   have B64 := Aside0.mk ((B6a.out.alloc (.cells #[.slice (some ad) old.length c0, .int .i64 nw, .slice A2 ss.length c2, .slice A3 js.length c3] 69)).alloc (.cells #[.int .i64 (d : Int)] 3))
   have B74 := Aside0.mk ((B7a.out.alloc (.cells #[.slice (some ad) old.length c0, .int .i64 nw, .slice A2 ss.length c2, .slice A3 js.length c3] 69)).alloc (.cells #[.int .i64 (d : Int)] 3))
   have HM4 := Aside0.mk ((HMa.out.alloc (.cells #[.slice (some ad) old.length c0, .int .i64 nw, .slice A2 ss.length c2, .slice A3 js.length c3] 69)).alloc (.cells #[.int .i64 (d : Int)] 3))
   have HO4 := Aside0.mk (Kd.R_alloc (Kd.R_alloc HOa.out (.cells #[.slice (some ad) old.length c0, .int .i64 nw, .slice A2 ss.length c2, .slice A3 js.length c3] 69)) (.cells #[.int .i64 (d : Int)] 3))
   have HX1 := Aside0.mk ((Blk.new wa [.slice (some ad) old.length c0, .int .i64 nw, .slice A2 ss.length c2, .slice A3 js.length c3] 69).alloc (.cells #[.int .i64 (d : Int)] 3))
   have HX2 := Aside0.mk (Blk.second wa (.cells #[.slice (some ad) old.length c0, .int .i64 nw, .slice A2 ss.length c2, .slice A3 js.length c3] 69) [.int .i64 (d : Int)] 3)
   have hsz : ((wa.alloc (.cells #[.slice (some ad) old.length c0, .int .i64 nw, .slice A2 ss.length c2, .slice A3 js.length c3] 69)).alloc (.cells #[.int .i64 (d : Int)] 3)).heap.size = wa.heap.size + 1 + 1 := by simp
   clear HBa B1a B6a B7a HMa HOa
   generalize (wa.alloc (.cells #[.slice (some ad) old.length c0, .int .i64 nw, .slice A2 ss.length c2, .slice A3 js.length c3] 69)).alloc (.cells #[.int .i64 (d : Int)] 3) = w4 at HB4 B14 B64 B74 HM4 HO4 HX1 HX2 hsz ⊢
   obtain ⟨gx, hgx⟩ : ∃ gx, wa.heap.size = gx := ⟨_, rfl⟩
   rw [hgx] at HX1 HX2 hsz hsa ⊢
   clear hgx
   have HC := Aside0.mk (H.out.below HB4.out)
   have hlo := streets_lo H.out.kst
   go_wp2_with (with_reducible refine wpIn_wide.2 ?_)
   refine (wpIn_wide (n := 9)).1 ?_
   refine range_of (gm := gx) (gn := gx + 1) (by decide) (by decide) rfl (n₀ := w4.heap.size) (S := fun b => b = g6 ∨ b = g6 + 1) (u0 := .slice (some ad) old.length c0) (u1 := .int .i64 nw) (u3 := .slice A3 js.length c3) (A2 := A2) (c2 := c2) (ss := ss) (old := (d : Int)) hb2 (Nat.le_refl _) ?reads
    (fun t x => (t.setIfInBounds 29 (.int .i64 (x.1 : Int))).setIfInBounds 30 (encS x.2)) (fun t x g => (((t.setIfInBounds 29 (.int .i64 (x.1 : Int))).setIfInBounds 30 (encS x.2)).setIfInBounds 8 (.int .i64 (x.1 : Int))).setIfInBounds 9 (.pointer (some ⟨g, 0, none⟩))) (fun t x => zip2 t 29 30 _ _)
    (fun pre W => Aside0 (∃ v6 v7, CInv w4 W g6 (g6 + 1) v6 v7 (pre.map (fun x => x.2.f2)) (pre.map (fun x => (x.1 : Int))))) ?own (fun xs W hi => by obtain ⟨_, _, hc⟩ := hi.out; exact hc.keep.size) ⟨⟨_, _, B64.out, B74.out, Two.nil _ _, Keep.refl _ _ _, MKeep.refl _⟩⟩ ?assign ?body ?done
   case reads => exact ⟨HX1.out, by simpa using HX2.out.cell 0, HC.out.kst, ⟨by omega, by omega⟩, ⟨by omega, by omega⟩, fun h0 ad e => ⟨by have := hlo h0 ad e; omega, by have := hlo h0 ad e; omega⟩⟩
   case own =>
    rintro xs W W' row ⟨v6, v7, hi⟩ hg hr
    exact ⟨⟨v6, v7, hi.own (by omega) (by omega) hg hr⟩⟩
   case assign =>
    intro l x W K hx hK
    clear hx hX hY hXY hg1 hgo1 hgo2 hsz hsa hlt hd hlo HB4 B14 B64 B74 HM4 HO4 HX1 HX2 HC
    simp only [sb0, sb1, sb2, cellsS, encS] at hK ⊢
    gi_wp2_with fail
    exact hK
   case body =>
    rintro l pre x g W hx hlen ⟨v6, v7, hi⟩ hg hBg
    simp only [sb0, sb1, sb2, encS]
    have HI := Aside0.mk hi
    have HG := Aside0.mk hBg
    have hws := hi.keep.size
    have hlen6 : (pre.map (fun x : IS => x.2.f2)).length ≤ 8 := by rw [List.length_map]; omega
    have hlen7 : (pre.map (fun x : IS => (x.1 : Int))).length ≤ 8 := by rw [List.length_map]; omega
    clear hi hBg
    gi_wp2_with fail
    refine startR_ (by rintro ⟨_, _, h⟩; exact h) (by kernel_rfl) (n := 11) (S := fun w' => w'.cell? ⟨g6, 0, none⟩ = some v6 ∧ w'.cell? ⟨g, 2, none⟩ = some (.int .i64 x.2.f2) ∧ w'.cell? ⟨g6 + 1, 0, none⟩ = some v7) (ds := [8, 9, 10]) #[O,O,O,O,O,O,O,O,O,O,O] (by kernel_rfl) rfl rfl ⟨(by simpa using HI.out.b6.cell 0), (by simpa [cellsS] using HG.out.cell 2), (by simpa using HI.out.b7.cell 0)⟩ (fun hHeld => ?_); refine with_tabW ca.tab9 ca.bits9 (fun HT_ HW_ => ?_)
    have HS := Aside0.mk (CSt.mk (base := w4.heap.size) (HI.out.two.below (below_drew (Below.refl _ _))) (below_drew (Below.refl _ W)) ⟨Nat.le_refl _, fun _ _ h _ => h⟩ (HI.out.b6.move rfl : Blk W.drew _ _ _) (HI.out.b7.move rfl : Blk W.drew _ _ _) (HG.out.move rfl : Blk W.drew _ _ _) (by omega) (by omega) hws)
    generalize W.drew = wd at HS hHeld ⊢
    refine ta_ 0 31 #[I,O,O,O,O,O,O,O,O,O,O] HT_ HW_ hHeld (hy := by (rintro w' ⟨s0, s1, s2⟩; go_simp; with_reducible rfl)) (h := ?_)
    refine pu_ 1 32 #[I,I,O,O,O,O,O,O,O,O,O] HT_ (h := ?_)
    refine ta_ 2 33 #[I,I,I,O,O,O,O,O,O,O,O] HT_ HW_ hHeld (hy := by (rintro w' ⟨s0, s1, s2⟩; go_simp; with_reducible rfl)) (h := ?_)
    refine ta_ 5 36 #[I,I,I,O,O,I,O,O,O,O,O] HT_ HW_ hHeld (hy := by (rintro w' ⟨s0, s1, s2⟩; go_simp; with_reducible rfl)) (h := ?_)
    refine pu_ 6 37 #[I,I,I,O,O,I,I,O,O,O,O] HT_ (h := ?_)
    refine join_ (σ := Value × Nat × Nat) 3 #[I,I,I,I,I,I,I,I,O,O,O] (fun s => [(34, .slice (some ⟨s.2.1, 0, none⟩) 1 1), (35, s.1), (38, .slice (some ⟨s.2.2, 0, none⟩) 1 1)]) (fun s w' => CSt w4.heap.size W w' g6 (g6 + 1) g v6 v7 s.1 v7 (pre.map (fun x : IS => x.2.f2) ++ [x.2.f2]) (pre.map (fun x : IS => (x.1 : Int))) (cellsS x.2) ∧ w'.cell? ⟨s.2.2, 0, none⟩ = some (.int .i64 (x.1 : Int))) ?cont ?orders
    case orders =>
     intro hcont
     refine two_ (i := 3) (j := 7) (Ni := some 34) (Nj := some 38) #[I,I,I,I,O,I,I,O,O,O,O] #[I,I,I,O,O,I,I,I,O,O,O] rfl rfl rfl rfl (two_of HT_.out (by kernel_rfl)) (by decide) (by decide) (fun K hK => ?_) (fun K hK => ?_)
     ·refine value_ (w1 := ?_) (v := ?_) (by rfl) rfl ?_ ?_
      rotate_left 2
      ·go_simp
       constructor <;> rfl
      refine hK.out _ _ ⟨(by simpa using (HS.out.alloc (.cells #[.int .i64 x.2.f2] 3)).b6.cell 0), (by simpa [cellsS] using (HS.out.alloc (.cells #[.int .i64 x.2.f2] 3)).b9.cell 2), (by simpa using (HS.out.alloc (.cells #[.int .i64 x.2.f2] 3)).b7.cell 0)⟩ (fun hHeld2 => ?_)
      clear hK K
      have HS3 := Aside0.mk (HS.out.alloc (.cells #[.int .i64 x.2.f2] 3))
      have B3 := Aside0.mk (Blk.new wd [.int .i64 x.2.f2] 3)
      refine norm_ (by simp only [Act.put, sb0, sb1, sb2]; rfl) ?_
      generalize wd.alloc (.cells #[.int .i64 x.2.f2] 3) = w3 at HS3 B3 hHeld2 ⊢
      generalize wd.heap.size = b3 at B3 ⊢
      refine two_ (i := 4) (j := 7) (Ni := some 35) (Nj := some 38) #[I,I,I,I,I,I,I,O,O,O,O] #[I,I,I,I,O,I,I,I,O,O,O] rfl rfl rfl rfl (two_of HT_.out (by kernel_rfl)) (by decide) (by decide) (fun K hK => ?_) (fun K hK => ?_)
      ·refine Kd.R_append_rows_step (Kd.int .i64) (w0 := w3) w4.heap.size (by rfl) (.tmp 31) (.tmp 34) 26 3 (.int .i64 0) 8 rfl Try.underlying26 info3 rfl (by decide) (by omega) v6 (pre.map (fun x : IS => x.2.f2)) [x.2.f2] (some ⟨b3, 0, none⟩) 1 1 (fun _ => True) (fun _ => False) rfl rfl HS3.out.two.r1 (lit_row (by simpa using B3.out.cell 0)) (fun x cs h => h) (fun _ hk => hk.elim) (fun _ _ => trivial) (Below.refl _ _) HS3.out.hs (by omega) ?_
       intro v w_ hon hbn hgn hatn
       have HS4 := Aside0.mk (HS3.out.app1 hon hbn hgn hatn)
       refine hK.out _ _ ⟨(by simpa using HS4.out.b6.cell 0), (by simpa [cellsS] using HS4.out.b9.cell 2), (by simpa using HS4.out.b7.cell 0)⟩ (fun _ => ?_)
       clear hK K hon hbn hgn hatn
       refine norm_ (by simp only [Act.put, sb0, sb1, sb2]; rfl) ?_
       refine one_ (i := 7) (N := some 38) #[I,I,I,I,I,I,I,I,O,O,O] rfl rfl (one_of HT_.out (by kernel_rfl)) (by decide) (fun K hK => ?_)
       refine value_ (w1 := ?_) (v := ?_) (by rfl) rfl ?_ ?_
       rotate_left 2
       ·go_simp
        constructor <;> rfl
       refine hK.out _ _ ⟨(by simpa using (HS4.out.alloc (.cells #[.int .i64 (x.1 : Int)] 3)).b6.cell 0), (by simpa [cellsS] using (HS4.out.alloc (.cells #[.int .i64 (x.1 : Int)] 3)).b9.cell 2), (by simpa using (HS4.out.alloc (.cells #[.int .i64 (x.1 : Int)] 3)).b7.cell 0)⟩ (fun _ => ?_)
       clear hK K
       have hfin := hcont (v, b3, w_.heap.size) _ ⟨HS4.out.alloc (.cells #[.int .i64 (x.1 : Int)] 3), (by simpa using (Blk.new w_ [.int .i64 (x.1 : Int)] 3).cell 0)⟩
       refine norm_ ?_ hfin
       (simp only [putAll, Act.put, sb0, sb1, sb2]) <;> rfl
      ·refine value_ (w1 := ?_) (v := ?_) (by rfl) rfl ?_ ?_
       rotate_left 2
       ·go_simp
        constructor <;> rfl
       refine hK.out _ _ ⟨(by simpa using (HS3.out.alloc (.cells #[.int .i64 (x.1 : Int)] 3)).b6.cell 0), (by simpa [cellsS] using (HS3.out.alloc (.cells #[.int .i64 (x.1 : Int)] 3)).b9.cell 2), (by simpa using (HS3.out.alloc (.cells #[.int .i64 (x.1 : Int)] 3)).b7.cell 0)⟩ (fun _ => ?_)
       clear hK K
       have HS4 := Aside0.mk (HS3.out.alloc (.cells #[.int .i64 (x.1 : Int)] 3))
       replace B3 := Aside0.mk (B3.out.alloc (.cells #[.int .i64 (x.1 : Int)] 3))
       have B7l := Aside0.mk (Blk.new w3 [.int .i64 (x.1 : Int)] 3)
       refine norm_ (by simp only [Act.put, sb0, sb1, sb2]; rfl) ?_
       have hx7 : some w3.heap.size ≠ v6.ownBlock := fun e => by have := (Kd.R_bound HS3.out.two.r1).1 _ e.symm; omega
       generalize w3.alloc (.cells #[.int .i64 (x.1 : Int)] 3) = w5 at HS4 B3 B7l ⊢
       generalize w3.heap.size = b7 at B7l hx7 ⊢
       refine one_ (i := 4) (N := some 35) #[I,I,I,I,I,I,I,I,O,O,O] rfl rfl (one_of HT_.out (by kernel_rfl)) (by decide) (fun K hK => ?_)
       refine Kd.R_append_rows_step (Kd.int .i64) (w0 := w5) w4.heap.size (by rfl) (.tmp 31) (.tmp 34) 26 3 (.int .i64 0) 8 rfl Try.underlying26 info3 rfl (by decide) (by omega) v6 (pre.map (fun x : IS => x.2.f2)) [x.2.f2] (some ⟨b3, 0, none⟩) 1 1 (fun _ => True) (fun _ => False) rfl rfl HS4.out.two.r1 (lit_row (by simpa using B3.out.cell 0)) (fun x cs h => h) (fun _ hk => hk.elim) (fun _ _ => trivial) (Below.refl _ _) HS4.out.hs (by omega) ?_
       intro v w_ hon hbn hgn hatn
       have HS5 := Aside0.mk (HS4.out.app1 hon hbn hgn hatn)
       have hc7 := lit_keep HS4.out.two.r1 B7l.out hgn hx7
       refine hK.out _ _ ⟨(by simpa using HS5.out.b6.cell 0), (by simpa [cellsS] using HS5.out.b9.cell 2), (by simpa using HS5.out.b7.cell 0)⟩ (fun _ => ?_)
       clear hK K hon hbn hgn hatn
       have hfin := hcont (v, b3, b7) _ ⟨HS5.out, hc7⟩
       refine norm_ ?_ hfin
       (simp only [putAll, Act.put, sb0, sb1, sb2]) <;> rfl
     ·refine value_ (w1 := ?_) (v := ?_) (by rfl) rfl ?_ ?_
      rotate_left 2
      ·go_simp
       constructor <;> rfl
      refine hK.out _ _ ⟨(by simpa using (HS.out.alloc (.cells #[.int .i64 (x.1 : Int)] 3)).b6.cell 0), (by simpa [cellsS] using (HS.out.alloc (.cells #[.int .i64 (x.1 : Int)] 3)).b9.cell 2), (by simpa using (HS.out.alloc (.cells #[.int .i64 (x.1 : Int)] 3)).b7.cell 0)⟩ (fun hHeld2 => ?_)
      clear hK K
      have HS3 := Aside0.mk (HS.out.alloc (.cells #[.int .i64 (x.1 : Int)] 3))
      have B7l := Aside0.mk (Blk.new wd [.int .i64 (x.1 : Int)] 3)
      refine norm_ (by simp only [Act.put, sb0, sb1, sb2]; rfl) ?_
      have hx7 : some wd.heap.size ≠ v6.ownBlock := fun e => by have := (Kd.R_bound HS.out.two.r1).1 _ e.symm; omega
      generalize wd.alloc (.cells #[.int .i64 (x.1 : Int)] 3) = w3 at HS3 B7l hHeld2 ⊢
      generalize wd.heap.size = b7 at B7l hx7 ⊢
      refine one_ (i := 3) (N := some 34) #[I,I,I,I,O,I,I,I,O,O,O] rfl rfl (one_of HT_.out (by kernel_rfl)) (by decide) (fun K hK => ?_)
      refine value_ (w1 := ?_) (v := ?_) (by rfl) rfl ?_ ?_
      rotate_left 2
      ·go_simp
       constructor <;> rfl
      refine hK.out _ _ ⟨(by simpa using (HS3.out.alloc (.cells #[.int .i64 x.2.f2] 3)).b6.cell 0), (by simpa [cellsS] using (HS3.out.alloc (.cells #[.int .i64 x.2.f2] 3)).b9.cell 2), (by simpa using (HS3.out.alloc (.cells #[.int .i64 x.2.f2] 3)).b7.cell 0)⟩ (fun _ => ?_)
      clear hK K
      have HS4 := Aside0.mk (HS3.out.alloc (.cells #[.int .i64 x.2.f2] 3))
      replace B7l := Aside0.mk (B7l.out.alloc (.cells #[.int .i64 x.2.f2] 3))
      have B3 := Aside0.mk (Blk.new w3 [.int .i64 x.2.f2] 3)
      refine norm_ (by simp only [Act.put, sb0, sb1, sb2]; rfl) ?_
      generalize w3.alloc (.cells #[.int .i64 x.2.f2] 3) = w5 at HS4 B3 B7l ⊢
      generalize w3.heap.size = b3 at B3 ⊢
      refine one_ (i := 4) (N := some 35) #[I,I,I,I,I,I,I,I,O,O,O] rfl rfl (one_of HT_.out (by kernel_rfl)) (by decide) (fun K hK => ?_)
      refine Kd.R_append_rows_step (Kd.int .i64) (w0 := w5) w4.heap.size (by rfl) (.tmp 31) (.tmp 34) 26 3 (.int .i64 0) 8 rfl Try.underlying26 info3 rfl (by decide) (by omega) v6 (pre.map (fun x : IS => x.2.f2)) [x.2.f2] (some ⟨b3, 0, none⟩) 1 1 (fun _ => True) (fun _ => False) rfl rfl HS4.out.two.r1 (lit_row (by simpa using B3.out.cell 0)) (fun x cs h => h) (fun _ hk => hk.elim) (fun _ _ => trivial) (Below.refl _ _) HS4.out.hs (by omega) ?_
      intro v w_ hon hbn hgn hatn
      have HS5 := Aside0.mk (HS4.out.app1 hon hbn hgn hatn)
      have hc7 := lit_keep HS4.out.two.r1 B7l.out hgn hx7
      refine hK.out _ _ ⟨(by simpa using HS5.out.b6.cell 0), (by simpa [cellsS] using HS5.out.b9.cell 2), (by simpa using HS5.out.b7.cell 0)⟩ (fun _ => ?_)
      clear hK K hon hbn hgn hatn
      have hfin := hcont (v, b3, b7) _ ⟨HS5.out, hc7⟩
      refine norm_ ?_ hfin
      (simp only [putAll, Act.put, sb0, sb1, sb2]) <;> rfl
    case cont =>
     rintro ⟨v, b3, b7⟩ w5 ⟨hc, hl⟩
     refine norm_ (by simp only [putAll, Act.put, sb0, sb1, sb2]; rfl) ?_
     have HC5 := Aside0.mk hc
     clear hc HS hHeld
     refine last_ (i := 8) (N := some 39) #[I,I,I,I,I,I,I,I,I,O,O] rfl rfl (one_of HT_.out (by kernel_rfl)) (by decide) (fun K hK => ?_)
     refine Kd.R_append_rows_step (Kd.int .i64) (w0 := w5) w4.heap.size (by rfl) (.tmp 36) (.tmp 38) 26 3 (.int .i64 0) 8 rfl Try.underlying26 info3 rfl (by decide) (by omega) v7 (pre.map (fun x : IS => (x.1 : Int))) [(x.1 : Int)] (some ⟨b7, 0, none⟩) 1 1 (fun _ => True) (fun _ => False) rfl rfl HC5.out.two.r2 (lit_row hl) (fun x cs h => h) (fun _ hk => hk.elim) (fun _ _ => trivial) (Below.refl _ _) HC5.out.hs (by omega) ?_
     intro v2 w6 hon hbn hgn hatn
     have HC6 := Aside0.mk (HC5.out.app2 hon hbn hgn hatn)
     clear hl hon hbn hgn hatn HC5
     obtain ⟨Av, nv, cv, rfl⟩ := slice_of HC6.out.two.r1
     obtain ⟨Au, nu, cu, rfl⟩ := slice_of HC6.out.two.r2
     refine hK.out _ _ ?_
     clear hK K
     refine norm_ (by simp only [Act.put, sb0, sb1, sb2]; rfl) ?_
     refine last_ (i := 9) (N := none) #[I,I,I,I,I,I,I,I,I,I,O] rfl rfl (one_of HT_.out (by kernel_rfl)) (by decide) (fun K hK => ?_)
     have hst_ := (show w6.cell? ⟨g6, 0, none⟩ = some v6 by simpa using HC6.out.b6.cell 0)
     have hfr_ := HC6.out.b6.frozen 0
     refine skip_ (w1 := ?_) (by rfl) rfl ?_ ?_
     rotate_left
     ·go_simp
      rfl
     refine hK.out _ _ ?_
     clear hK K hst_ hfr_ 
     have B6s := Aside0.mk (show Blk _ g6 [.slice Av nv cv] _ from blk_set HC6.out.b6 0 (.slice Av nv cv))
     have B7s := Aside0.mk (HC6.out.b7.move (Below.heap_setCell w6 ⟨g6, 0, none⟩ (.slice Av nv cv) _ (by simp only; omega)))
     have HTs := Aside0.mk (HC6.out.two.step (w' := w6.setCell ⟨g6, 0, none⟩ (.slice Av nv cv)) (fun k hk _ => Below.heap_setCell _ _ _ _ (by simp only; omega)))
     have HKs := Aside0.mk ((Keep.of_below (S := fun b => b = g6 ∨ b = g6 + 1) HC6.out.b (Nat.le_refl _)).setCell (p := ⟨g6, 0, none⟩) (.inl (.inl rfl)) (.slice Av nv cv))
     have HOs := Aside0.mk (HC6.out.ko.trans (KeepsOthers.setCell w6 ⟨g6, 0, none⟩ (.slice Av nv cv)))
     clear HC6
     generalize w6.setCell ⟨g6, 0, none⟩ (.slice Av nv cv) = w7 at B6s B7s HTs HKs HOs ⊢
     refine last_ (i := 10) (N := none) #[I,I,I,I,I,I,I,I,I,I,I] rfl rfl (one_of HT_.out (by kernel_rfl)) (by decide) (fun K hK => ?_)
     have hst_ := (show w7.cell? ⟨g6 + 1, 0, none⟩ = some v7 by simpa using B7s.out.cell 0)
     have hfr_ := B7s.out.frozen 0
     refine skip_ (w1 := ?_) (by rfl) rfl ?_ ?_
     rotate_left
     ·go_simp
      rfl
     refine hK.out _ _ ?_
     clear hK K hst_ hfr_ 
     have B7z := Aside0.mk (show Blk _ (g6 + 1) [.slice Au nu cu] _ from blk_set B7s.out 0 (.slice Au nu cu))
     have B6z := Aside0.mk (B6s.out.move (Below.heap_setCell w7 ⟨g6 + 1, 0, none⟩ (.slice Au nu cu) _ (by simp only; omega)))
     have HTz := Aside0.mk (HTs.out.step (w' := w7.setCell ⟨g6 + 1, 0, none⟩ (.slice Au nu cu)) (fun k hk _ => Below.heap_setCell _ _ _ _ (by simp only; omega)))
     have HKz := Aside0.mk (HKs.out.setCell (p := ⟨g6 + 1, 0, none⟩) (.inl (.inr rfl)) (.slice Au nu cu))
     have HOz := Aside0.mk (HOs.out.trans (KeepsOthers.setCell w7 ⟨g6 + 1, 0, none⟩ (.slice Au nu cu)))
     clear B6s B7s HTs HKs HOs
     generalize w7.setCell ⟨g6 + 1, 0, none⟩ (.slice Au nu cu) = w8 at B6z B7z HTz HKz HOz ⊢
     refine done_ (done_of HT_.out (by kernel_rfl)) ?_
     refine ⟨HOz.out.from _, HKz.out, ⟨_, _, B6z.out, B7z.out, ?_, HI.out.keep.trans HKz.out, fun D hD => HOz.out.same D _ (HI.out.mks D hD) rfl⟩⟩
     rw [List.map_append, List.map_append]
     exact HTz.out
   case done =>
    rintro D W hD hi hDm
    obtain ⟨v6, v7, hI⟩ := hi.out
    rw [HOF.out] at hI
    simp only [List.map_cons, List.map_nil] at hI
    obtain ⟨b6, c6, rfl, _⟩ := num_at hI.two.r1 0 (by simp)
    obtain ⟨b7, c7, rfl, hq0⟩ := num_at hI.two.r2 0 (by simp)
    have hq1 := (Kd.R_celln (0 : Int) hI.two.r2 1 (by omega) (by simp)).1
    have hb7 := (Kd.R_bound hI.two.r2).1 b7 (by simp [Value.ownBlock])
    have hb7l := hb7.2.1
    have hb7u := hb7.2.2.1
    obtain ⟨_, hc6, hC6⟩ := Kd.R_reads' hI.two.r1
    have HC6 := Aside0.mk (show (Kd.int .i64).C W (some ⟨b6, 0, none⟩) 2 [X.2.f2, Y.2.f2] from hC6)
    have hc6' : 2 ≤ c6 := hc6
    have HMk := Aside0.mk (Marks.cons HM4.out hI.mks hD (by omega) hDm)
    have HBW := Aside0.mk (show Below w.heap.size w W from ⟨hI.keep.os.trans HB4.out.os, hI.keep.tape.trans HB4.out.tape, hI.keep.output.trans HB4.out.output, Nat.le_trans HB4.out.size hI.keep.size, fun k hk => (hI.keep.block k (by omega) (by omega)).trans (HB4.out.block k hk)⟩)
    have B1W := Aside0.mk (B14.out.move (hI.keep.block _ (by omega) (by omega)))
    have HOW := Aside0.mk (Kd.R_step HO4.out (fun k hk hlt => hI.keep.block k hlt (by simp only [Option.some.injEq] at hk; omega)))
    have B6W := Aside0.mk hI.b6
    have B7W := Aside0.mk hI.b7
    have hsW := hI.keep.size
    have h60 := hI.b6.cell 0
    simp only [List.getElem?_cons_zero] at h60
    clear hi hI hb7 hC6 hc6 hDm HB4 B14 HM4 HO4 HX1 HX2 HC B64 B74
    dsimp only
    go_wp2_with (with_reducible refine wpIn_wide.2 ?_)
    refine (Divide_calls HC6.out hc6' HDV.out).mono ?_
    rintro e W5 ⟨⟨v10, rfl, hR10⟩, hb5⟩
    obtain ⟨b10, c10, rfl, h100⟩ := num_at hR10 0 (by simp)
    have h101 := (Kd.R_celln (0 : Int) hR10 1 (by omega) (by simp)).1
    have hb10 := ((Kd.R_bound hR10).1 b10 (by simp [Value.ownBlock])).2
    have hb10l := hb10.1
    have hb10u := hb10.2.1
    have H71 := Aside0.mk ((hb5.cell (p := ⟨b7, 0, none⟩) hb7u).trans hq0)
    have H72 := Aside0.mk ((hb5.cell (p := ⟨b7, 1, none⟩) hb7u).trans hq1)
    have B75 := Aside0.mk (B7W.out.below hb5)
    have B15 := Aside0.mk (B1W.out.below hb5)
    have HM5 := Aside0.mk (Marks.move (fun D hD => (hb5.block D (Array.getElem?_eq_some_iff.1 hD).1).trans hD) HMk.out)
    have HO5 := Aside0.mk (Kd.R_below HOW.out hb5)
    have HB5 := Aside0.mk (HBW.out.trans (hb5.mono HBW.out.size))
    have hs5 := hb5.size
    have HGC := Aside0.mk (show ∃ cells, W5.heap[go]? = some (.cells cells 3 (0, 0)) by
     obtain ⟨_, _, _, q, hq, cells, hk⟩ := (Kd.R_bound HO5.out).1 go (by simp [Value.ownBlock])
     have hq' : q = 3 := by simpa [show (Kd.int IntKind.i64).E = [] from rfl] using hq
     exact ⟨cells, by rw [← hq']; exact hk⟩)
    have HCA := Aside0.mk (show carAt ss P (d + 1) = ((carAt ss P d).set X.1 (P d).1).set Y.1 (P d).2 by
     show (match ofAt ss (d : Int) ss.length with | [x, y] => ((carAt ss P d).set x.1 (P d).1).set y.1 (P d).2 | _ => carAt ss P d) = _
     rw [HOF.out])
    have H100 := Aside0.mk h100
    have H101 := Aside0.mk h101
    clear hR10 hb5 hb10 hq0 hq1 h100 h101 B7W B1W HMk HOW HBW B6W h60 HC6
    go_wp2_with (with_reducible refine wpIn_wide.2 ?_)
    go_loopw [48] (fun v48 wc => Aside0 (Keep W5.heap.size (fun b => b = go) W5 wc) ∧ ((v48 = .int .i64 0 ∧ Aside0 ((Kd.int .i64).R 3 wc w.heap.size (fun k => some k = some go) (.slice (some ⟨go, 0, none⟩) ss.length co) (carAt ss P d))) ∨ (v48 = .int .i64 1 ∧ Aside0 ((Kd.int .i64).R 3 wc w.heap.size (fun k => some k = some go) (.slice (some ⟨go, 0, none⟩) ss.length co) ((carAt ss P d).set X.1 (P d).1))) ∨ (v48 = .int .i64 2 ∧ Aside0 ((Kd.int .i64).R 3 wc w.heap.size (fun k => some k = some go) (.slice (some ⟨go, 0, none⟩) ss.length co) (((carAt ss P d).set X.1 (P d).1).set Y.1 (P d).2))))) (fun v48 _ => 2 - (intOf v48).toNat)
    case atStart => exact ⟨⟨Keep.refl _ _ _⟩, .inl ⟨rfl, HO5⟩⟩
    case round =>
     clear HO5
     obtain ⟨HKr, h⟩ := hrel
     have h75 := (HKr.out.cell (p := ⟨g6 + 1, 0, none⟩) B75.out.lt (by simp only; omega)).trans (B75.out.cell 0)
     simp only [List.getElem?_cons_zero] at h75
     have h710 : wr.cell? ⟨b7, 0, none⟩ = some (.int .i64 (X.1 : Int)) := (HKr.out.cell (p := ⟨b7, 0, none⟩) (by simp only; omega) (by simp only; omega)).trans H71.out
     have h711 : wr.cell? ⟨b7, 1, none⟩ = some (.int .i64 (Y.1 : Int)) := (HKr.out.cell (p := ⟨b7, 1, none⟩) (by simp only; omega) (by simp only; omega)).trans H72.out
     have h100 : wr.cell? ⟨b10, 0, none⟩ = some (.int .i64 (P d).1) := (HKr.out.cell (p := ⟨b10, 0, none⟩) (by simp only; omega) (by simp only; omega)).trans H100.out
     have h101 : wr.cell? ⟨b10, 1, none⟩ = some (.int .i64 (P d).2) := (HKr.out.cell (p := ⟨b10, 1, none⟩) (by simp only; omega) (by simp only; omega)).trans H101.out
     have hXi : (X.1 : Int) < ss.length := by omega
     have hYi : (Y.1 : Int) < ss.length := by omega
     rcases h with ⟨rfl, HOr⟩ | ⟨rfl, HOr⟩ | ⟨rfl, HOr⟩
     ·have hOc := (Kd.R_celln (0 : Int) HOr.out (X.1 : Int) (by omega) (by omega))
      simp only [Int.toNat_natCast] at hOc
      obtain ⟨hOc1, hOc2⟩ := hOc
      have HOn := Aside0.mk (Kd.R_putn HOr.out (X.1 : Int) ((P d).1))
      simp only [Int.toNat_natCast] at HOn
      have HKn := Aside0.mk (HKr.out.setCell (p := ⟨go, X.1, none⟩) (.inl rfl) (.int .i64 (P d).1))
      go_wp2_with (with_reducible refine wpIn_wide.2 ?_)
      exact ⟨⟨HKn, .inr (.inl ⟨rfl, HOn⟩)⟩, by simp [intOf]⟩
     ·have hOc := (Kd.R_celln (0 : Int) HOr.out (Y.1 : Int) (by omega) (by omega))
      simp only [Int.toNat_natCast] at hOc
      obtain ⟨hOc1, hOc2⟩ := hOc
      have HOn := Aside0.mk (Kd.R_putn HOr.out (Y.1 : Int) ((P d).2))
      simp only [Int.toNat_natCast] at HOn
      have HKn := Aside0.mk (HKr.out.setCell (p := ⟨go, Y.1, none⟩) (.inl rfl) (.int .i64 (P d).2))
      go_wp2_with (with_reducible refine wpIn_wide.2 ?_)
      exact ⟨⟨HKn, .inr (.inr ⟨rfl, HOn⟩)⟩, by simp [intOf]⟩
     ·go_wp2_with (with_reducible refine wpIn_wide.2 ?_)
      refine ⟨⟨_, d + 1, by omega, by have := HKr.out.size; omega, ⟨by rw [HCA.out]; exact HOr.out⟩, ⟨⟨HKr.out.os.trans HB5.out.os, HKr.out.tape.trans HB5.out.tape, HKr.out.output.trans HB5.out.output, Nat.le_trans HB5.out.size HKr.out.size, fun k hk => (HKr.out.block k (by have := HB5.out.size; omega) (by omega)).trans (HB5.out.block k hk)⟩⟩, ⟨B15.out.move (HKr.out.block _ (by have := HB5.out.size; omega) (by omega))⟩, ⟨Marks.move (fun D hD => (HKr.out.block D (Array.getElem?_eq_some_iff.1 hD).1 (fun e => by
       subst e
       obtain ⟨cells, hc⟩ := HGC.out
       rw [hc] at hD
       cases hD)).trans hD) HM5.out⟩, rfl⟩, ?_⟩
      show old.length - (intOf (.int .i64 ((d : Int) + 1))).toNat < old.length - (intOf (.int .i64 (d : Int))).toNat
      simp [intOf]
      omega
  ·obtain rfl : d = old.length := by omega
   go_wp2_with (with_reducible refine wpIn_wide.2 ?_)
   refine Marks.leaves (lo := w.heap.size) (Inv := fun W => Below w.heap.size w W ∧ (Kd.int .i64).R 3 W w.heap.size (fun _ => True) (.slice (some ⟨go, 0, none⟩) ss.length co) (carAt ss P old.length)) (fun W D hlo hD hi => ?_) (fun W hi => ?_) ds wr HM.out ⟨HB.out, Kd.R_mono HO.out (fun _ _ => trivial)⟩
   ·refine ⟨hi.1.grown (grownBy_putObj' W D _) hi.1.size (fun k e => by cases e; exact hlo), Kd.R_mono (Kd.R_grown (Kd.R_bound hi.2) (grownBy_putObj' W D _) (fun k hk e => ?_)) (fun _ _ => trivial)⟩
    obtain ⟨_, _, _, q, _, cells, hk'⟩ := hk
    cases e
    rw [hk'] at hD
    cases hD
   ·refine ⟨_, results_tmp rfl _ _ _, ⟨.slice (some ⟨go, 0, none⟩) ss.length co, ?_, hi.2⟩, hi.1⟩
    rfl
end Go.Proofs.Ytiddkceahbnolaa
