/- walk's divide: what lies in memory. -/
import Derived.Test.YtiddkceahbnolaaTour
import Derived.Test.YtiddkceahbnolaaSplitP
import Derived.Laws.Cover3
import Derived.Test.YtiddkceahbnolaaWKept
namespace Go.Proofs.Ytiddkceahbnolaa
open Go.RowKit Go.Shelf Go.Proofs.Ytiddkceahbnolaa.PWalkOrder Go.Proofs.YtiddkceahbnolaaW.PrintWords Go.Proofs.YtiddkceahbnolaaW.PrintLast
set_option linter.unusedVariables false
set_option linter.unusedSimpArgs false

theorem whole_all : ∀ n : Fin 9, wrap64 (wrap64 (2 ^ n.1) - 1) = ((2 ^ n.1 - 1 : Nat) : Int) := by decide +kernel
theorem whole_calls {A0 : Option Addr} {c0 : Nat} {A1 : Option Addr} {c1 n1 N : Nat} (hN : N ≤ 8) (w : World) :
  Calls Try.prog 43 #[.agg #[.slice A0 N c0, .slice A1 n1 c1]] w fun e w' => e = .returned (.int .i64 ((2 ^ N - 1 : Nat) : Int)) ∧ Below w.heap.size w w' := by
 have hw := whole_all ⟨N, by omega⟩
 simp only at hw
 go_enter Try.func43, Try.ntmps43
 go_wp2_with fail
 go_ret
 exact ⟨ret_int hw, below_alloc (Below.refl _ _) _⟩

theorem setsNil (a : Option Addr) (l c : Nat) (w : World) : (binOp .eql 100 (.slice a l c) (.slice none 0 0)).run Try.prog w = .ok (.bool a.isNone) w := by
 simp only [binOp]
 simp [run_equal_slice_nil w 100 97 a l c Try.underlying100]
theorem setsNe (a : Option Addr) (l c : Nat) (w : World) : (binOp .neq 100 (.slice a l c) (.slice none 0 0)).run Try.prog w = .ok (.bool (!a.isNone)) w := run_neq_slice_nil w 100 97 a l c Try.underlying100
attribute [local go_sem] setsNil setsNe
theorem infoSet : (Try.prog.info? 97).map (fun i => (i.zero, i.size, i.bytes)) = some (some (.int .i64 0), 1, 8) := by kernel_rfl
set_option maxRecDepth 100000 in
set_option maxHeartbeats 4000000 in
theorem clone_calls {ad : Addr} {c : Nat} {xs : List Int} (w : World) (hC : (Kd.int .i64).C w (some ad) xs.length xs) (hx : xs.length ≤ 1000) :
  Calls Try.prog 80 #[.slice (some ad) xs.length c] w fun e w' => ∃ v, e = .returned v ∧ (Kd.int .i64).R 97 w' w.heap.size (fun _ => True) v xs ∧ Below w.heap.size w w' := by
 have HC := Aside0.mk hC
 clear hC
 go_enter Try.func80, Try.ntmps80
 go_wp2_with (first | ((with_reducible refine gate_dst (N := 5) rfl ?_); refine Kd.R_lit (Kd.int .i64) w.heap.size 97 ?hg (N := 5) ?hd (xs := ([] : List Int)) (inner := []) (ok := fun _ => True) (okp := fun _ => True) ?hr ?hp (fun _ hk => hk) trivial (Below.refl _ _) (Nat.le_refl _) (by simp) ?_; (case hd => rfl); (case hg => rfl); (case hr => first | (go_simp; done) | (go_simp; rfl)); (case hp => exact (Reps.none _ _)); intro v1 w1 hr1 hb1 hg1 hat1; have HC1 := Aside0.mk (Kd.C_below HC.out hb1); have hsz1 := hb1.size; have HR1 := Aside0.mk hr1; have HB1 := Aside0.mk hb1; clear hr1 hb1 hg1 hat1) | ((with_reducible refine gate_builtin (b := .append) (xs := #[.tmp 5, .tmp 6]) rfl ?_); refine Kd.R_append_rows (Kd.int .i64) (w0 := w) w.heap.size rfl (.tmp 5) (.tmp 6) 100 97 (.int .i64 0) 8 rfl Try.underlying100 infoSet rfl (by decide) (by omega) v1 [] xs _ _ _ (fun _ => True) (fun _ => False) rfl rfl HR1.out HC1.out (fun x cs h => h) (fun _ hk => hk.elim) (fun _ _ => trivial) HB1.out hsz1 ?aL ?_; (case aL => (simp only [List.length_nil]; omega)); intro vn wn hon hbn hgn hatn; have HRn := Aside0.mk hon; have HBn := Aside0.mk hbn; clear hon hbn hgn hatn))
 go_ret
 exact ⟨_, rfl, HRn.out, HBn.out⟩
set_option maxRecDepth 100000 in
set_option maxHeartbeats 4000000 in
theorem clone_nil (w : World) :
  Calls Try.prog 80 #[.slice none 0 0] w fun e w' => e = .returned (.slice none 0 0) ∧ Below w.heap.size w w' := by
 go_enter Try.func80, Try.ntmps80
 go_wp2_with fail
 go_ret
 exact ⟨rfl, Below.refl _ _⟩
end Go.Proofs.Ytiddkceahbnolaa

namespace Go.Proofs.Ytiddkceahbnolaa
open Go.RowKit Go.Shelf Go.Proofs.Ytiddkceahbnolaa.PWalkOrder Go.Proofs.YtiddkceahbnolaaW.PrintWords Go.Proofs.YtiddkceahbnolaaW.PrintLast
set_option linter.unusedVariables false
set_option linter.unusedSimpArgs false

/-- What the best division of a set is in memory: nil, or a row of k sets, in no block of no. -/
def Ent (w : World) (no : Nat → Prop) (v : Value) : Option Nat → Prop
 | none => v = .slice none 0 0
 | some k => ∃ ad c xs, v = .slice (some ad) k c ∧ xs.length = k ∧ (Kd.int .i64).C w (some ad) k xs ∧ ¬ no ad.block ∧ ad.block < w.heap.size
theorem kept_of_keep {n : Nat} {S : Nat → Prop} {w w' : World} (k : Keep n S w w') (hn : w.heap.size ≤ n) : Kept w w' S := ⟨k.size, fun i hi hs => k.block i (by omega) hs⟩
theorem Ent.keep {w w' : World} {no : Nat → Prop} {v : Value} {o : Option Nat} (h : Ent w no v o) {n : Nat} (k : Keep n no w w') (hn : w.heap.size ≤ n) : Ent w' no v o := by
 cases o with
 | none => exact h
 | some m =>
  obtain ⟨ad, c, xs, h1, h2, h3, h4, h5⟩ := h
  exact ⟨ad, c, xs, h1, h2, Kd.C_foot_neS (S := no) (fun h => h) h3 (fun ad' e _ => by cases e; exact h4) w' (kept_of_keep k hn), h4, Nat.lt_of_lt_of_le h5 k.size⟩
theorem Ent.ofR {w : World} {base e : Nat} {ok no : Nat → Prop} {v : Value} {xs : List Int} (h : (Kd.int .i64).R e w base ok v xs) (hx : 0 < xs.length) (hok : ∀ k, ok k → ¬ no k) : Ent w no v (some xs.length) := by
 obtain ⟨ad, c, rfl⟩ := Kd.R_slice1 h hx
 obtain ⟨g, rfl⟩ := Kd.R_head h
 obtain ⟨_, hc, hC⟩ := Kd.R_reads' h
 have hb := (Kd.R_bound h).1 g (by simp [Value.ownBlock])
 exact ⟨_, c, xs, rfl, rfl, hC, hok g hb.1, hb.2.2.1⟩

/-- The blocks that a division writes. -/
def Wr (mb gt : Nat) : Nat → Prop := fun b => b = mb ∨ b = gt
/-- The table of the best divisions. -/
def Tab (w : World) (mb gt N : Nat) (E : Nat → Option Nat) : Prop := ∃ cs : Array Value, w.heap[gt]? = some (.cells cs 100 (0, 0)) ∧ cs.size = 2 ^ N ∧ ∀ t, t < 2 ^ N → ∃ v, cs[t]? = some v ∧ Ent w (Wr mb gt) v (E t)
theorem Tab.lt {w : World} {mb gt N : Nat} {E : Nat → Option Nat} (h : Tab w mb gt N E) : gt < w.heap.size := by
 obtain ⟨cs, h0, _⟩ := h
 exact blk_lt h0
theorem Tab.cell {w : World} {mb gt N : Nat} {E : Nat → Option Nat} (h : Tab w mb gt N E) {t : Nat} (ht : t < 2 ^ N) : ∃ v, w.cell? ⟨gt, t, none⟩ = some v ∧ Ent w (Wr mb gt) v (E t) := by
 obtain ⟨cs, h0, h1, h2⟩ := h
 obtain ⟨v, h3, h4⟩ := h2 t ht
 exact ⟨v, by rw [blk_cell h0]; exact h3, h4⟩
theorem Tab.frozen {w : World} {mb gt N : Nat} {E : Nat → Option Nat} (h : Tab w mb gt N E) (o : Nat) : w.frozen? ⟨gt, o, none⟩ = false := by
 obtain ⟨cs, h0, _⟩ := h
 exact blk_frozen h0 o
/-- The memory of tours, or what is beyond, has been written. -/
theorem Tab.keep {w w' : World} {mb gt N : Nat} {E : Nat → Option Nat} (h : Tab w mb gt N E) {n : Nat} {S : Nat → Prop} (k : Keep n S w w') (hn : w.heap.size ≤ n) (hS : ∀ b, S b → b = mb) (hne : gt ≠ mb) : Tab w' mb gt N E := by
 obtain ⟨cs, h0, h1, h2⟩ := h
 have hlt := blk_lt h0
 have k' : Keep n (Wr mb gt) w w' := k.mono (Nat.le_refl _) (fun b _ hb => .inl (hS b hb))
 exact ⟨cs, (k.block gt (by omega) (fun hs => hne (hS _ hs))).trans h0, h1, fun t ht => by
  obtain ⟨v, h3, h4⟩ := h2 t ht
  exact ⟨v, h3, h4.keep k' hn⟩⟩
theorem Tab.drew {w : World} {mb gt N : Nat} {E : Nat → Option Nat} (h : Tab w mb gt N E) (hne : gt ≠ mb) : Tab w.drew mb gt N E := h.keep (n := w.heap.size) (S := fun b => b = mb) (Keep.refl _ _ w).drew (Nat.le_refl _) (fun _ h => h) hne
theorem Tab.drewN {w : World} {mb gt N : Nat} {E : Nat → Option Nat} (h : Tab w mb gt N E) (hne : gt ≠ mb) (n : Nat) : Tab (w.drewN n) mb gt N E := h.keep (n := w.heap.size) (S := fun b => b = mb) ((Keep.refl _ _ w).drewN n) (Nat.le_refl _) (fun _ h => h) hne
theorem Tab.set {w : World} {mb gt N : Nat} {E : Nat → Option Nat} (h : Tab w mb gt N E) {s : Nat} (hs : s < 2 ^ N) {v : Value} {o : Option Nat} (he : Ent w (Wr mb gt) v o) : Tab (w.setCell ⟨gt, s, none⟩ v) mb gt N (upd E s o) := by
 obtain ⟨cs, h0, h1, h2⟩ := h
 have k : Keep w.heap.size (Wr mb gt) w (w.setCell ⟨gt, s, none⟩ v) := (Keep.refl _ _ w).setCell (.inl (.inr rfl)) v
 refine ⟨cs.setIfInBounds s v, blk_set h0 _ _, by simp [h1], fun t ht => ?_⟩
 unfold upd
 by_cases e : t = s
 ·subst e
  refine ⟨v, by rw [Array.getElem?_setIfInBounds_self_of_lt (by omega)], ?_⟩
  rw [if_pos rfl]
  exact he.keep k (Nat.le_refl _)
 ·obtain ⟨u, h3, h4⟩ := h2 t ht
  refine ⟨u, by rw [Array.getElem?_setIfInBounds_ne (fun x => e x.symm)]; exact h3, ?_⟩
  rw [if_neg e]
  exact h4.keep k (Nat.le_refl _)

/-- What divide's inner function has captured; the atlas. -/
structure DC (w0 w : World) (A0 : Option Addr) (c0 : Nat) (Wk : List S77) (A1 : Option Addr) (c1 : Nat) (R : List S94) (ga mb : Nat) (T F : Nat → Nat → Int) (gt b1 b2 b3 b4 : Nat) (limit : Int) : Prop where
 atl : AtlS w0 w A0 c0 Wk A1 c1 R ga mb T F
 c1 : Blk w b1 [.slice (some ⟨gt, 0, none⟩) (2 ^ Wk.length) (2 ^ Wk.length)] 159
 c2 : Blk w b2 [.pointer (some ⟨ga, 0, none⟩)] 84
 c3 : Blk w b3 [.int .i64 limit] 3
 c4 : Blk w b4 [.func (.func 79) #[] #[.pointer (some ⟨b1, 0, none⟩), .pointer (some ⟨b2, 0, none⟩), .pointer (some ⟨b3, 0, none⟩), .pointer (some ⟨b4, 0, none⟩)]] 160
 lo : w0.heap.size ≤ gt
 nt : gt ≠ mb ∧ gt ≠ ga
 n1 : b1 ≠ mb ∧ b1 ≠ gt
 n2 : b2 ≠ mb ∧ b2 ≠ gt
 n3 : b3 ≠ mb ∧ b3 ≠ gt
 n4 : b4 ≠ mb ∧ b4 ≠ gt
section
variable {w0 w w' : World} {A0 : Option Addr} {c0 : Nat} {Wk : List S77} {A1 : Option Addr} {c1 : Nat} {R : List S94} {ga mb : Nat} {T F : Nat → Nat → Int} {gt b1 b2 b3 b4 : Nat} {limit : Int}
theorem DC.keep (h : DC w0 w A0 c0 Wk A1 c1 R ga mb T F gt b1 b2 b3 b4 limit) {n : Nat} (hn : w.heap.size ≤ n) (k : Keep n (Wr mb gt) w w') (ha : AtlM w' ga (.slice A0 Wk.length c0) (.slice A1 R.length c1) T F mb) : DC w0 w' A0 c0 Wk A1 c1 R ga mb T F gt b1 b2 b3 b4 limit := by
 have hm : ∀ {g : Nat} {cs : List Value} {t : TypeId}, Blk w g cs t → g ≠ mb ∧ g ≠ gt → Blk w' g cs t := fun {g cs t} hb hne => hb.move (k.block g (by have := hb.lt; omega) (fun hs => by rcases hs with e | e; exact hne.1 e; exact hne.2 e))
 have h1 := h.atl.lo; have h2 := h.lo; have h3 := h.atl.gt
 exact ⟨⟨h.atl.map, h.atl.below.trans ⟨k.os, k.tape, k.output, k.size, fun i hi => k.block i (by omega) (fun hs => by rcases hs with e | e <;> omega)⟩, h1, ha⟩, hm h.c1 h.n1, hm h.c2 h.n2, hm h.c3 h.n3, hm h.c4 h.n4, h2, h.nt, h.n1, h.n2, h.n3, h.n4⟩
theorem DC.drew (h : DC w0 w A0 c0 Wk A1 c1 R ga mb T F gt b1 b2 b3 b4 limit) : DC w0 w.drew A0 c0 Wk A1 c1 R ga mb T F gt b1 b2 b3 b4 limit := ⟨h.atl.drew, h.c1, h.c2, h.c3, h.c4, h.lo, h.nt, h.n1, h.n2, h.n3, h.n4⟩
theorem DC.drewN (h : DC w0 w A0 c0 Wk A1 c1 R ga mb T F gt b1 b2 b3 b4 limit) (n : Nat) : DC w0 (w.drewN n) A0 c0 Wk A1 c1 R ga mb T F gt b1 b2 b3 b4 limit := ⟨h.atl.drewN n, h.c1, h.c2, h.c3, h.c4, h.lo, h.nt, h.n1, h.n2, h.n3, h.n4⟩
theorem DC.cells (h : DC w0 w A0 c0 Wk A1 c1 R ga mb T F gt b1 b2 b3 b4 limit) : w.cell? ⟨b1, 0, none⟩ = some (.slice (some ⟨gt, 0, none⟩) (2 ^ Wk.length) (2 ^ Wk.length)) ∧ w.cell? ⟨b2, 0, none⟩ = some (.pointer (some ⟨ga, 0, none⟩)) ∧ w.cell? ⟨b3, 0, none⟩ = some (.int .i64 limit) ∧ w.cell? ⟨b4, 0, none⟩ = some (.func (.func 79) #[] #[.pointer (some ⟨b1, 0, none⟩), .pointer (some ⟨b2, 0, none⟩), .pointer (some ⟨b3, 0, none⟩), .pointer (some ⟨b4, 0, none⟩)]) := by
 refine ⟨?_, ?_, ?_, ?_⟩
 ·simpa using h.c1.cell 0
 ·simpa using h.c2.cell 0
 ·simpa using h.c3.cell 0
 ·simpa using h.c4.cell 0
end
end Go.Proofs.Ytiddkceahbnolaa
