/- walk's atlas: the quickest ways of a valid map, in memory. -/
import Derived.Test.YtiddkceahbnolaaSplitP
import Derived.BigQuiet
import Derived.BigRegion
import Derived.BigRegionIn
import Derived.Deep.QuietTactic
import Derived.Deep.DeepCutAuto
namespace Go.Proofs.Ytiddkceahbnolaa
open Go.RowKit Go.Shelf Go.Proofs.Ytiddkceahbnolaa.PWalkOrder Go.Proofs.YtiddkceahbnolaaW.PrintWords Go.Proofs.YtiddkceahbnolaaW.PrintLast
attribute [local go_sem] Oper.semAt_some
set_option linter.unusedVariables false
set_option linter.unusedSimpArgs false

def upd2 (T : Nat → Nat → Int) (i j : Nat) (v : Int) : Nat → Nat → Int := fun a b => if a = i ∧ b = j then v else T a b

/-- An atlas in memory: the map's slices, the times, the first places, the block of the map of tours. -/
structure Atl (w : World) (ga : Nat) (vW vR : Value) (T F : Nat → Nat → Int) (mb : Nat) : Prop where
 blk : ∃ cs : Array Value, w.heap[ga]? = some (.cells cs 90 (0, 0)) ∧ cs.size = 131 ∧ cs[0]? = some vW ∧ cs[1]? = some vR ∧ cs[130]? = some (.map (some mb)) ∧
  (∀ i j, i < 8 → j < 8 → cs[2 + i * 8 + j]? = some (.int .i64 (T i j)) ∧ cs[66 + i * 8 + j]? = some (.int .i64 (F i j)))
theorem Atl.move {w w' : World} {ga : Nat} {vW vR : Value} {T F : Nat → Nat → Int} {mb : Nat} (h : Atl w ga vW vR T F mb) (e : w'.heap[ga]? = w.heap[ga]?) : Atl w' ga vW vR T F mb := by
 obtain ⟨cs, h0, h1⟩ := h.blk
 exact ⟨cs, e.trans h0, h1⟩
theorem Atl.lt {w : World} {ga : Nat} {vW vR : Value} {T F : Nat → Nat → Int} {mb : Nat} (h : Atl w ga vW vR T F mb) : ga < w.heap.size := by
 obtain ⟨cs, h0, h1⟩ := h.blk
 exact blk_lt h0
theorem Atl.time {w : World} {ga : Nat} {vW vR : Value} {T F : Nat → Nat → Int} {mb : Nat} (h : Atl w ga vW vR T F mb) {i j : Nat} (hi : i < 8) (hj : j < 8) : w.cell? ⟨ga, 2 + i * 8 + j, none⟩ = some (.int .i64 (T i j)) := by
 obtain ⟨cs, h0, h1, h2, h3, h4, h5⟩ := h.blk
 rw [blk_cell h0]
 exact (h5 i j hi hj).1
theorem Atl.first {w : World} {ga : Nat} {vW vR : Value} {T F : Nat → Nat → Int} {mb : Nat} (h : Atl w ga vW vR T F mb) {i j : Nat} (hi : i < 8) (hj : j < 8) : w.cell? ⟨ga, 66 + i * 8 + j, none⟩ = some (.int .i64 (F i j)) := by
 obtain ⟨cs, h0, h1, h2, h3, h4, h5⟩ := h.blk
 rw [blk_cell h0]
 exact (h5 i j hi hj).2
theorem Atl.map {w : World} {ga : Nat} {vW vR : Value} {T F : Nat → Nat → Int} {mb : Nat} (h : Atl w ga vW vR T F mb) : w.cell? ⟨ga, 0, none⟩ = some vW ∧ w.cell? ⟨ga, 1, none⟩ = some vR ∧ w.cell? ⟨ga, 130, none⟩ = some (.map (some mb)) := by
 obtain ⟨cs, h0, h1, h2, h3, h4, h5⟩ := h.blk
 rw [blk_cell h0, blk_cell h0, blk_cell h0]
 exact ⟨h2, h3, h4⟩
theorem Atl.frozen {w : World} {ga : Nat} {vW vR : Value} {T F : Nat → Nat → Int} {mb : Nat} (h : Atl w ga vW vR T F mb) (o : Nat) : w.frozen? ⟨ga, o, none⟩ = false := by
 obtain ⟨cs, h0, h1⟩ := h.blk
 exact blk_frozen h0 o
theorem Atl.setT {w : World} {ga : Nat} {vW vR : Value} {T F : Nat → Nat → Int} {mb : Nat} (h : Atl w ga vW vR T F mb) {i j : Nat} (hi : i < 8) (hj : j < 8) (v : Int) : Atl (w.setCell ⟨ga, 2 + i * 8 + j, none⟩ (.int .i64 v)) ga vW vR (upd2 T i j v) F mb := by
 obtain ⟨cs, h0, h1, h2, h3, h4, h5⟩ := h.blk
 refine ⟨cs.setIfInBounds (2 + i * 8 + j) (.int .i64 v), blk_set h0 _ _, by simp [h1], ?_, ?_, ?_, fun a b ha hb => ⟨?_, ?_⟩⟩
 ·rw [Array.getElem?_setIfInBounds_ne (by omega)]; exact h2
 ·rw [Array.getElem?_setIfInBounds_ne (by omega)]; exact h3
 ·rw [Array.getElem?_setIfInBounds_ne (by omega)]; exact h4
 ·unfold upd2
  by_cases e : a = i ∧ b = j
  ·rw [if_pos e, e.1, e.2, Array.getElem?_setIfInBounds_self_of_lt (by omega)]
  ·rw [if_neg e, Array.getElem?_setIfInBounds_ne (by
    intro e'
    exact e (by omega))]
   exact (h5 a b ha hb).1
 ·rw [Array.getElem?_setIfInBounds_ne (by omega)]
  exact (h5 a b ha hb).2
theorem Atl.setF {w : World} {ga : Nat} {vW vR : Value} {T F : Nat → Nat → Int} {mb : Nat} (h : Atl w ga vW vR T F mb) {i j : Nat} (hi : i < 8) (hj : j < 8) (v : Int) : Atl (w.setCell ⟨ga, 66 + i * 8 + j, none⟩ (.int .i64 v)) ga vW vR T (upd2 F i j v) mb := by
 obtain ⟨cs, h0, h1, h2, h3, h4, h5⟩ := h.blk
 refine ⟨cs.setIfInBounds (66 + i * 8 + j) (.int .i64 v), blk_set h0 _ _, by simp [h1], ?_, ?_, ?_, fun a b ha hb => ⟨?_, ?_⟩⟩
 ·rw [Array.getElem?_setIfInBounds_ne (by omega)]; exact h2
 ·rw [Array.getElem?_setIfInBounds_ne (by omega)]; exact h3
 ·rw [Array.getElem?_setIfInBounds_ne (by omega)]; exact h4
 ·rw [Array.getElem?_setIfInBounds_ne (by omega)]
  exact (h5 a b ha hb).1
 ·unfold upd2
  by_cases e : a = i ∧ b = j
  ·rw [if_pos e, e.1, e.2, Array.getElem?_setIfInBounds_self_of_lt (by omega)]
  ·rw [if_neg e, Array.getElem?_setIfInBounds_ne (by
    intro e'
    exact e (by omega))]
   exact (h5 a b ha hb).2

/-- An array of eight bools in memory. -/
def Bools (w : World) (g : Nat) (st : Nat → Bool) : Prop := ∃ cs : Array Value, w.heap[g]? = some (.cells cs 148 (0, 0)) ∧ cs.size = 8 ∧ ∀ i, i < 8 → cs[i]? = some (.bool (st i))
theorem Bools.move {w w' : World} {g : Nat} {st : Nat → Bool} (h : Bools w g st) (e : w'.heap[g]? = w.heap[g]?) : Bools w' g st := by
 obtain ⟨cs, h0, h1⟩ := h
 exact ⟨cs, e.trans h0, h1⟩
theorem Bools.lt {w : World} {g : Nat} {st : Nat → Bool} (h : Bools w g st) : g < w.heap.size := by
 obtain ⟨cs, h0, h1⟩ := h
 exact blk_lt h0
theorem Bools.at_ {w : World} {g : Nat} {st : Nat → Bool} (h : Bools w g st) {i : Nat} (hi : i < 8) : w.cell? ⟨g, i, none⟩ = some (.bool (st i)) := by
 obtain ⟨cs, h0, h1, h2⟩ := h
 rw [blk_cell h0]
 exact h2 i hi
theorem Bools.frozen {w : World} {g : Nat} {st : Nat → Bool} (h : Bools w g st) (o : Nat) : w.frozen? ⟨g, o, none⟩ = false := by
 obtain ⟨cs, h0, h1⟩ := h
 exact blk_frozen h0 o
theorem Bools.set {w : World} {g : Nat} {st : Nat → Bool} (h : Bools w g st) {i : Nat} (hi : i < 8) (b : Bool) : Bools (w.setCell ⟨g, i, none⟩ (.bool b)) g (upd st i b) := by
 obtain ⟨cs, h0, h1, h2⟩ := h
 refine ⟨cs.setIfInBounds i (.bool b), blk_set h0 _ _, by simp [h1], fun j hj => ?_⟩
 unfold upd
 by_cases e : j = i
 ·rw [if_pos e, e, Array.getElem?_setIfInBounds_self_of_lt (by omega)]
 ·rw [if_neg e, Array.getElem?_setIfInBounds_ne (fun x => e x.symm)]
  exact h2 j hj
theorem Blk.move {w w' : World} {g : Nat} {cs : List Value} {t : TypeId} (h : Blk w g cs t) (e : w'.heap[g]? = w.heap[g]?) : Blk w' g cs t := e.trans h
theorem Blk.set1 {w : World} {g : Nat} {v : Value} {t : TypeId} (h : Blk w g [v] t) (u : Value) : Blk (w.setCell ⟨g, 0, none⟩ u) g [u] t := by
 have := blk_set h 0 u
 exact this

/-- The marks that ranges over functions leave: each a block of its own, from lo on. -/
def Marks (lo : Nat) (W : World) : List Deferred → Prop
 | [] => True
 | d :: ds => (∃ D, d = { target := .collected D, args := #[] } ∧ lo ≤ D ∧ W.heap[D]? = some (.deferred (some [])) ∧ ∀ d' ∈ ds, d'.target ≠ .collected D) ∧ Marks lo W ds

/-- What the body of a function must achieve that never panics, marks and all. -/
def bodyPostM0 (F : Fence) (n : Nat) (P : Program) (fn : Func) (R : Ending → World → Prop) : Exit → Act → World → Prop
 | .normal, a, w | .ret, a, w => LeavesInM F n P fn a.tmps R a.defers .returning w
 | _, _, _ => False
theorem callsIn_of_wp_marks0 {P : Program} {F : Fence} {n : Nat} {f : FuncId} {fn : Func} {c : Code} {args : Array Value} {w : World} {R : Ending → World → Prop}
  (hf : P.funcs[f]? = some fn) (hb : fn.body = some c) (hF : F.fn f)
  (h : c.wpIn F n P (bodyPostM0 F n P fn R) { tmps := args ++ Array.replicate (fn.ntmps - args.size) undef, defers := [] } w) (hro : F.round = none := by rfl) : CallsIn F n P f args w R :=
 callsIn_of_wp_marks hf hb hF (wpIn_mono h (fun e a w hq => by cases e <;> first | exact hq | exact hq.elim)) hro

def withCol (T : Nat → Nat → Int) (k : Nat) (c : Nat → Int) : Nat → Nat → Int := fun n j => if j = k then c n else T n j
theorem withCol_upd (T : Nat → Nat → Int) (k : Nat) (c : Nat → Int) (n : Nat) (v : Int) : upd2 (withCol T k c) n k v = withCol T k (upd c n v) := by
 funext a b
 unfold upd2 withCol upd
 by_cases h1 : a = n <;> by_cases h2 : b = k <;> simp [h1, h2]
theorem withCol_at (T : Nat → Nat → Int) (k : Nat) (c : Nat → Int) (n : Nat) : withCol T k c n k = c n := by simp [withCol]
theorem withCol_id (T : Nat → Nat → Int) (k : Nat) (c : Nat → Int) (h : ∀ n, T n k = c n) : withCol T k c = T := by
 funext a b
 unfold withCol
 by_cases e : b = k
 ·rw [if_pos e, e, h]
 ·rw [if_neg e]

/-- What lies in memory while the atlas is made. -/
structure AW (w wr : World) (gm mb ga gv : Nat) (vW vR : Value) (T F : Nat → Nat → Int) : Prop where
 below : Below w.heap.size w wr
 m : Blk wr gm [vW, vR] 41
 v : Blk wr gv [.pointer (some ⟨ga, 0, none⟩)] 84
 hm : wr.heap[mb]? = some (.map #[] 0)
 atl : Atl wr ga vW vR T F mb
 lo : w.heap.size ≤ gm
 l1 : gm < mb
 l2 : mb < ga
 l3 : ga < gv
section
variable {w wr : World} {gm mb ga gv : Nat} {vW vR : Value} {T F : Nat → Nat → Int}
theorem AW.alloc (h : AW w wr gm mb ga gv vW vR T F) (o : Obj) : AW w (wr.alloc o) gm mb ga gv vW vR T F :=
 ⟨below_alloc h.below o, h.m.alloc o, h.v.alloc o, blk_alloc h.hm o, h.atl.move (Below.heap_alloc wr o ga h.atl.lt), h.lo, h.l1, h.l2, h.l3⟩
theorem AW.drewN (h : AW w wr gm mb ga gv vW vR T F) (n : Nat) : AW w (wr.drewN n) gm mb ga gv vW vR T F := ⟨pw_below_drewN h.below n, h.m, h.v, h.hm, h.atl.move rfl, h.lo, h.l1, h.l2, h.l3⟩
theorem AW.drew (h : AW w wr gm mb ga gv vW vR T F) : AW w wr.drew gm mb ga gv vW vR T F := ⟨below_drew h.below, h.m, h.v, h.hm, h.atl.move rfl, h.lo, h.l1, h.l2, h.l3⟩
theorem AW.gvlt (h : AW w wr gm mb ga gv vW vR T F) : gv < wr.heap.size := h.v.lt
theorem AW.other (h : AW w wr gm mb ga gv vW vR T F) {p : Addr} (hp : gv < p.block) (u : Value) : AW w (wr.setCell p u) gm mb ga gv vW vR T F := by
 have h0 := h.lo; have h1 := h.l1; have h2 := h.l2; have h3 := h.l3
 exact ⟨h.below.setCell (by omega) u, h.m.move (Below.heap_setCell _ _ _ _ (by omega)), h.v.move (Below.heap_setCell _ _ _ _ (by omega)), (Below.heap_setCell _ _ _ _ (by omega)).trans h.hm, h.atl.move (Below.heap_setCell _ _ _ _ (by omega)), h.lo, h.l1, h.l2, h.l3⟩
theorem AW.setT (h : AW w wr gm mb ga gv vW vR T F) {i j : Nat} (hi : i < 8) (hj : j < 8) (v : Int) : AW w (wr.setCell ⟨ga, 2 + i * 8 + j, none⟩ (.int .i64 v)) gm mb ga gv vW vR (upd2 T i j v) F := by
 have h0 := h.lo; have h1 := h.l1; have h2 := h.l2; have h3 := h.l3
 exact ⟨h.below.setCell (by simp only; omega) _, h.m.move (Below.heap_setCell _ _ _ _ (by simp only; omega)), h.v.move (Below.heap_setCell _ _ _ _ (by simp only; omega)), (Below.heap_setCell _ _ _ _ (by simp only; omega)).trans h.hm, h.atl.setT hi hj v, h.lo, h.l1, h.l2, h.l3⟩
theorem AW.setF (h : AW w wr gm mb ga gv vW vR T F) {i j : Nat} (hi : i < 8) (hj : j < 8) (v : Int) : AW w (wr.setCell ⟨ga, 66 + i * 8 + j, none⟩ (.int .i64 v)) gm mb ga gv vW vR T (upd2 F i j v) := by
 have h0 := h.lo; have h1 := h.l1; have h2 := h.l2; have h3 := h.l3
 exact ⟨h.below.setCell (by simp only; omega) _, h.m.move (Below.heap_setCell _ _ _ _ (by simp only; omega)), h.v.move (Below.heap_setCell _ _ _ _ (by simp only; omega)), (Below.heap_setCell _ _ _ _ (by simp only; omega)).trans h.hm, h.atl.setF hi hj v, h.lo, h.l1, h.l2, h.l3⟩
end

/-- The times after the goals below k. -/
def TT (R : List S94) (N k : Nat) : Nat → Nat → Int := fun n j => if j < k then (colAt R N j N).c n else 0
def FF (R : List S94) (N k : Nat) : Nat → Nat → Int := fun n j => if j < k then (colAt R N j N).f n else 0
theorem TT_succ (R : List S94) (N k : Nat) : withCol (TT R N k) k (colAt R N k N).c = TT R N (k + 1) := by
 funext a b
 unfold withCol TT
 by_cases e : b = k
 ·subst e; simp
 ·rw [if_neg e]
  by_cases h : b < k
  ·rw [if_pos h, if_pos (by omega)]
  ·rw [if_neg h, if_neg (by omega)]
theorem FF_succ (R : List S94) (N k : Nat) : withCol (FF R N k) k (colAt R N k N).f = FF R N (k + 1) := by
 funext a b
 unfold withCol FF
 by_cases e : b = k
 ·subst e; simp
 ·rw [if_neg e]
  by_cases h : b < k
  ·rw [if_pos h, if_pos (by omega)]
  ·rw [if_neg h, if_neg (by omega)]

theorem zero90 : Try.zeroCells90.size = 131 ∧ (∀ i, i < 128 → Try.zeroCells90[2 + i]? = some (.int .i64 0)) := by
 constructor
 ·kernel_rfl
 ·intro i hi
  have : ∀ i : Fin 128, (Try.zeroCells90[2 + i.1]?.map fun v => match v with | .int .i64 0 => true | _ => false) = some true := by decide +kernel
  have h := this ⟨i, hi⟩
  simp only at h
  cases hv : Try.zeroCells90[2 + i]? with
  | none => rw [hv] at h; cases h
  | some v =>
   rw [hv] at h
   simp only [Option.map_some, Option.some.injEq] at h
   split at h
   ·rfl
   ·cases h
theorem atl_new (W : World) (vW vR : Value) (mb : Nat) (R : List S94) (N : Nat) (hv : vW.oneCell' = true) :
  Atl (W.alloc (.cells (((Try.zeroCells90.setIfInBounds 0 vW).setIfInBounds 1 vR).setIfInBounds 130 (.map (some mb))) 90)) W.heap.size vW vR (TT R N 0) (FF R N 0) mb := by
 obtain ⟨z1, z2⟩ := zero90
 refine ⟨_, heap_alloc_new W _, by simp [z1], ?_, ?_, ?_, fun i j hi hj => ⟨?_, ?_⟩⟩
 ·rw [Array.getElem?_setIfInBounds_ne (by omega), Array.getElem?_setIfInBounds_ne (by omega), Array.getElem?_setIfInBounds_self_of_lt (by omega)]
 ·rw [Array.getElem?_setIfInBounds_ne (by omega), Array.getElem?_setIfInBounds_self_of_lt (by simp [z1])]
 ·rw [Array.getElem?_setIfInBounds_self_of_lt (by simp [z1])]
 ·rw [Array.getElem?_setIfInBounds_ne (by omega), Array.getElem?_setIfInBounds_ne (by omega), Array.getElem?_setIfInBounds_ne (by omega), show 2 + i * 8 + j = 2 + (i * 8 + j) from by omega, z2 _ (by omega)]
  simp [TT]
 ·rw [Array.getElem?_setIfInBounds_ne (by omega), Array.getElem?_setIfInBounds_ne (by omega), Array.getElem?_setIfInBounds_ne (by omega), show 66 + i * 8 + j = 2 + (64 + i * 8 + j) from by omega, z2 _ (by omega)]
  simp [FF]

/-- .. while a goal is served: the goal's variable, the settled places. -/
structure GW (w wr : World) (gm mb ga gv : Nat) (vW vR : Value) (T F : Nat → Nat → Int) (gg gs : Nat) (k : Nat) (st : Nat → Bool) : Prop where
 aw : AW w wr gm mb ga gv vW vR T F
 goal : Blk wr gg [.int .i64 (k : Int)] 3
 set : Bools wr gs st
 l4 : gv < gg
 l5 : gg < gs
section
variable {w wr : World} {gm mb ga gv : Nat} {vW vR : Value} {T F : Nat → Nat → Int} {gg gs k : Nat} {st : Nat → Bool}
theorem GW.alloc (h : GW w wr gm mb ga gv vW vR T F gg gs k st) (o : Obj) : GW w (wr.alloc o) gm mb ga gv vW vR T F gg gs k st :=
 ⟨h.aw.alloc o, h.goal.alloc o, h.set.move (Below.heap_alloc wr o gs h.set.lt), h.l4, h.l5⟩
theorem GW.drewN (h : GW w wr gm mb ga gv vW vR T F gg gs k st) (n : Nat) : GW w (wr.drewN n) gm mb ga gv vW vR T F gg gs k st := ⟨h.aw.drewN n, h.goal, h.set, h.l4, h.l5⟩
theorem GW.drew (h : GW w wr gm mb ga gv vW vR T F gg gs k st) : GW w wr.drew gm mb ga gv vW vR T F gg gs k st := ⟨h.aw.drew, h.goal, h.set, h.l4, h.l5⟩
theorem GW.other (h : GW w wr gm mb ga gv vW vR T F gg gs k st) {p : Addr} (hp : gs < p.block) (u : Value) : GW w (wr.setCell p u) gm mb ga gv vW vR T F gg gs k st := by
 have h4 := h.l4; have h5 := h.l5
 exact ⟨h.aw.other (by omega) u, h.goal.move (Below.heap_setCell _ _ _ _ (by omega)), h.set.move (Below.heap_setCell _ _ _ _ (by omega)), h.l4, h.l5⟩
theorem GW.setT (h : GW w wr gm mb ga gv vW vR T F gg gs k st) {i j : Nat} (hi : i < 8) (hj : j < 8) (v : Int) : GW w (wr.setCell ⟨ga, 2 + i * 8 + j, none⟩ (.int .i64 v)) gm mb ga gv vW vR (upd2 T i j v) F gg gs k st := by
 have h3 := h.aw.l3; have h4 := h.l4; have h5 := h.l5
 exact ⟨h.aw.setT hi hj v, h.goal.move (Below.heap_setCell _ _ _ _ (by simp only; omega)), h.set.move (Below.heap_setCell _ _ _ _ (by simp only; omega)), h.l4, h.l5⟩
theorem GW.setF (h : GW w wr gm mb ga gv vW vR T F gg gs k st) {i j : Nat} (hi : i < 8) (hj : j < 8) (v : Int) : GW w (wr.setCell ⟨ga, 66 + i * 8 + j, none⟩ (.int .i64 v)) gm mb ga gv vW vR T (upd2 F i j v) gg gs k st := by
 have h3 := h.aw.l3; have h4 := h.l4; have h5 := h.l5
 exact ⟨h.aw.setF hi hj v, h.goal.move (Below.heap_setCell _ _ _ _ (by simp only; omega)), h.set.move (Below.heap_setCell _ _ _ _ (by simp only; omega)), h.l4, h.l5⟩
theorem GW.setB (h : GW w wr gm mb ga gv vW vR T F gg gs k st) {i : Nat} (hi : i < 8) (b : Bool) : GW w (wr.setCell ⟨gs, i, none⟩ (.bool b)) gm mb ga gv vW vR T F gg gs k (upd st i b) := by
 have h4 := h.l4; have h5 := h.l5
 exact ⟨h.aw.other (by simp only; omega) _, h.goal.move (Below.heap_setCell _ _ _ _ (by simp only; omega)), h.set.set hi b, h.l4, h.l5⟩
theorem GW.vcell (h : GW w wr gm mb ga gv vW vR T F gg gs k st) : wr.cell? ⟨gv, 0, none⟩ = some (.pointer (some ⟨ga, 0, none⟩)) := by simpa using h.aw.v.cell 0
theorem GW.gcell (h : GW w wr gm mb ga gv vW vR T F gg gs k st) : wr.cell? ⟨gg, 0, none⟩ = some (.int .i64 (k : Int)) := by simpa using h.goal.cell 0
theorem GW.m0 (h : GW w wr gm mb ga gv vW vR T F gg gs k st) : wr.cell? ⟨gm, 0, none⟩ = some vW := by simpa using h.aw.m.cell 0
theorem GW.m1 (h : GW w wr gm mb ga gv vW vR T F gg gs k st) : wr.cell? ⟨gm, 1, none⟩ = some vR := by simpa using h.aw.m.cell 1
end
theorem col_start (R : List S94) (N k : Nat) : withCol (TT R N k) k (fun n => if n < 0 then 1048576 else 0) = TT R N k := withCol_id _ _ _ (fun n => by simp [TT])
theorem col_round (R : List S94) (N k i : Nat) : upd2 (withCol (TT R N k) k (fun n => if n < i then 1048576 else 0)) i k 1048576 = withCol (TT R N k) k (fun n => if n < i + 1 then 1048576 else 0) := by
 rw [withCol_upd]
 congr 1
 funext n
 unfold upd
 by_cases h : n = i
 ·rw [if_pos h, if_pos (by omega)]
 ·rw [if_neg h]
  by_cases h' : n < i
  ·simp only [if_pos h', if_pos (show n < i + 1 by omega)]
  ·simp only [if_neg h', if_neg (show ¬ n < i + 1 by omega)]
theorem col_init (R : List S94) (N k : Nat) : upd2 (withCol (TT R N k) k (fun n => if n < N then 1048576 else 0)) k k 0 = withCol (TT R N k) k (colAt R N k 0).c := by
 rw [withCol_upd]
 congr 1
theorem col_initF (R : List S94) (N k : Nat) : upd2 (FF R N k) k k (k : Int) = withCol (FF R N k) k (colAt R N k 0).f := by
 have : FF R N k = withCol (FF R N k) k (fun _ => 0) := (withCol_id _ _ _ (fun n => by simp [FF])).symm
 rw [this, withCol_upd]
 funext a b
 unfold withCol
 by_cases e : b = k
 ·rw [if_pos e, if_pos e]; rfl
 ·rw [if_neg e, if_neg e, if_neg e]
theorem bools_new (W : World) (h : Try.prog.info? 4 = Try.prog.info? 4) : Bools (W.alloc (.cells #[.bool false, .bool false, .bool false, .bool false, .bool false, .bool false, .bool false, .bool false] 148)) W.heap.size (fun _ => false) := by
 refine ⟨_, heap_alloc_new W _, rfl, fun i hi => ?_⟩
 have : i = 0 ∨ i = 1 ∨ i = 2 ∨ i = 3 ∨ i = 4 ∨ i = 5 ∨ i = 6 ∨ i = 7 := by omega
 rcases this with rfl | rfl | rfl | rfl | rfl | rfl | rfl | rfl <;> rfl

theorem Marks.move {lo : Nat} {W W' : World} (hm : ∀ D : Nat, W.heap[D]? = some (Obj.deferred (some [])) → W'.heap[D]? = some (Obj.deferred (some []))) : ∀ {ds : List Deferred}, Marks lo W ds → Marks lo W' ds
 | [], _ => trivial
 | _ :: _, ⟨⟨D, h1, h2, h3, h4⟩, h5⟩ => ⟨⟨D, h1, h2, hm D h3, h4⟩, Marks.move hm h5⟩
theorem Marks.alloc {lo : Nat} {W : World} {ds : List Deferred} (h : Marks lo W ds) (o : Obj) : Marks lo (W.alloc o) ds := Marks.move (fun D hd => blk_alloc hd o) h
theorem Marks.drewN {lo : Nat} {W : World} {ds : List Deferred} (h : Marks lo W ds) (n : Nat) : Marks lo (W.drewN n) ds := Marks.move (W := W) (W' := W.drewN n) (fun _ hd => hd) h
theorem Marks.drew {lo : Nat} {W : World} {ds : List Deferred} (h : Marks lo W ds) : Marks lo W.drew ds := Marks.move (W := W) (W' := W.drew) (fun _ hd => hd) h
theorem Marks.setCell {lo : Nat} {W : World} {ds : List Deferred} (h : Marks lo W ds) (p : Addr) (u : Value) : Marks lo (W.setCell p u) ds := by
 refine Marks.move (fun D hd => ?_) h
 simp only [World.setCell, Array.getElem?_modify]
 by_cases e : p.block = D
 ·rw [if_pos e, hd]
  rfl
 ·rw [if_neg e]
  exact hd
def atlas.T11 : Bool × List (List Nat × List Nat) := (true, [([], []), ([], []), ([], []), ([], []), ([], []), ([], []), ([], []), ([0], [0]), ([7], [7]), ([8, 1], [1, 8]), ([9, 2, 0, 1, 2], [2, 9]), ([10, 0, 1, 2], [10]), ([3], [3]), ([12], [12]), ([13, 4], [4, 13]), ([14, 5, 0, 1, 2, 3, 4, 5, 6, 7, 8, 9, 10, 11], [5, 14]), ([15, 6, 11, 0, 1, 2, 3, 4, 5, 6, 7, 8, 9, 10, 11], [6, 15])])
def atlas.B11 : List Nat := [0, 0, 0, 0, 0, 0, 0, 1, 129, 387, 903, 1927, 8, 4104, 12312, 32767, 65535]
theorem atlas.tab11 : rtab .any (opsOf Try.f32 11) = atlas.T11 := by kernel_rfl
theorem atlas.bits11 : waitsOk atlas.T11.2 atlas.B11 = true := by kernel_rfl
def atlas.T25 : Bool × List (List Nat × List Nat) := (true, [([], []), ([], []), ([], []), ([0], [0]), ([3], [3]), ([4, 1], [1, 4]), ([5, 2], [2, 5]), ([6], [6]), ([], []), ([7, 8], [7, 8]), ([9, 0, 1, 2, 3, 4, 5, 6, 7, 8, 9], [9])])
def atlas.B25 : List Nat := [0, 0, 0, 1, 9, 27, 63, 127, 0, 511, 1023]
theorem atlas.tab25 : rtab .any (opsOf Try.f32 25) = atlas.T25 := by kernel_rfl
theorem atlas.bits25 : waitsOk atlas.T25.2 atlas.B25 = true := by kernel_rfl
def atlas.T26 : Bool × List (List Nat × List Nat) := (true, [([], []), ([], []), ([], []), ([], []), ([1], [1]), ([4], [4]), ([5, 2], [2, 5]), ([6, 3], [3, 6]), ([7], [7]), ([0, 8], [0, 8])])
def atlas.B26 : List Nat := [0, 0, 0, 0, 2, 18, 54, 126, 254, 511]
theorem atlas.tab26 : rtab .any (opsOf Try.f32 26) = atlas.T26 := by kernel_rfl
theorem atlas.bits26 : waitsOk atlas.T26.2 atlas.B26 = true := by kernel_rfl
def atlas.T27 : Bool × List (List Nat × List Nat) := (true, [([], []), ([], []), ([], []), ([], []), ([], []), ([], []), ([], []), ([], []), ([0], [0]), ([8], [8]), ([9, 1], [1, 9]), ([10, 2, 0, 1, 2, 6], [2, 10]), ([11, 6, 0, 1, 2, 6], [6, 11]), ([3], [3]), ([13], [13]), ([14, 4], [4, 14]), ([15, 5, 0, 1, 2, 3, 4, 5, 6, 7, 8, 9, 10, 11, 12], [5, 15]), ([16, 7, 12, 0, 1, 2, 3, 4, 5, 6, 7, 8, 9, 10, 11, 12], [7, 16])])
def atlas.B27 : List Nat := [0, 0, 0, 0, 0, 0, 0, 0, 1, 257, 771, 1863, 3911, 8, 8200, 24600, 65535, 131071]
theorem atlas.tab27 : rtab .any (opsOf Try.f32 27) = atlas.T27 := by kernel_rfl
theorem atlas.bits27 : waitsOk atlas.T27.2 atlas.B27 = true := by kernel_rfl
end Go.Proofs.Ytiddkceahbnolaa
