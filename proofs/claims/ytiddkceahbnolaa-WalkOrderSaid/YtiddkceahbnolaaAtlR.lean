/- walk's atlas: what a round of its range over 'next' keeps. -/
import Derived.Test.YtiddkceahbnolaaAtl
import Derived.Test.YtiddkceahbnolaaRound
import Derived.RangeFuncFrom
namespace Go.Proofs.Ytiddkceahbnolaa
open Go.RowKit Go.Shelf Go.Proofs.Ytiddkceahbnolaa.PWalkOrder Go.Proofs.YtiddkceahbnolaaW.PrintWords Go.Proofs.YtiddkceahbnolaaW.PrintLast
set_option linter.unusedVariables false

theorem AW.kept {w wr W' : World} {gm mb ga gv : Nat} {vW vR : Value} {T F : Nat → Nat → Int} (h : AW w wr gm mb ga gv vW vR T F) {B : Nat} {row : Option Nat} (hB : gv < B) (hg : wr.grownBy W' row) (hr : ∀ r, row = some r → B ≤ r) : AW w W' gm mb ga gv vW vR T F := by
 have h0 := h.lo; have h1 := h.l1; have h2 := h.l2; have h3 := h.l3; have h4 := h.gvlt
 have hk : ∀ k, k ≤ gv → W'.heap[k]? = wr.heap[k]? := fun k hk => hg.block k (by omega) (fun e => by have := hr k e.symm; omega)
 exact ⟨h.below.grown hg h.below.size (fun k e => by have := hr k e; omega), h.m.move (hk _ (by omega)), h.v.move (hk _ (by omega)), (hk _ (by omega)).trans h.hm, h.atl.move (hk _ (by omega)), h0, h1, h2, h3⟩
theorem GW.kept {w wr W' : World} {gm mb ga gv : Nat} {vW vR : Value} {T F : Nat → Nat → Int} {gg gs k : Nat} {st : Nat → Bool} (h : GW w wr gm mb ga gv vW vR T F gg gs k st) {B : Nat} {row : Option Nat} (hB : gs < B) (hg : wr.grownBy W' row) (hr : ∀ r, row = some r → B ≤ r) : GW w W' gm mb ga gv vW vR T F gg gs k st := by
 have h4 := h.l4; have h5 := h.l5; have h6 := h.set.lt
 have hk : ∀ k, k ≤ gs → W'.heap[k]? = wr.heap[k]? := fun k hk => hg.block k (by omega) (fun e => by have := hr k e.symm; omega)
 exact ⟨h.aw.kept (B := B) (by omega) hg hr, h.goal.move (hk _ (by omega)), h.set.move (hk _ (by omega)), h4, h5⟩
theorem Blk.kept {wr W' : World} {g : Nat} {cs : List Value} {t : TypeId} (h : Blk wr g cs t) {B : Nat} {row : Option Nat} (hB : g < B) (hg : wr.grownBy W' row) (hr : ∀ r, row = some r → B ≤ r) : Blk W' g cs t :=
 h.move (hg.block g h.lt (fun e => by have := hr g e.symm; omega))

/-- Which marks lay there lie there still. -/
def MKeep (a b : World) : Prop := ∀ D : Nat, a.heap[D]? = some (Obj.deferred (some [])) → b.heap[D]? = some (Obj.deferred (some []))
theorem MKeep.refl (a : World) : MKeep a a := fun _ h => h
theorem MKeep.setCell {a b : World} (h : MKeep a b) (p : Addr) (u : Value) : MKeep a (b.setCell p u) := fun D hd => (KeepsOthers.setCell b p u).same D _ (h D hd) rfl
theorem MKeep.drew {a b : World} (h : MKeep a b) : MKeep a b.drew := h
theorem MKeep.kept {a b c : World} (h : MKeep a b) {B : Nat} {row : Option Nat} (hB : a.heap.size ≤ B) (hg : b.grownBy c row) (hr : ∀ r, row = some r → B ≤ r) : MKeep a c := fun D hd => by
 have h1 : D < a.heap.size := (Array.getElem?_eq_some_iff.1 hd).1
 have h2 : D < b.heap.size := (Array.getElem?_eq_some_iff.1 (h D hd)).1
 exact (hg.block D h2 (fun e => by have := hr D e.symm; omega)).trans (h D hd)

theorem Marks.cons {lo : Nat} {a b : World} {ds : List Deferred} (h : Marks lo a ds) (hm : MKeep a b) {D : Nat} (hD : a.heap.size ≤ D) (hlo : lo ≤ a.heap.size) (hDm : b.heap[D]? = some (.deferred (some []))) : Marks lo b ({ target := .collected D, args := #[] } :: ds) := by
 refine ⟨⟨D, rfl, by omega, hDm, ?_⟩, Marks.move hm h⟩
 clear hDm hm hlo
 induction ds with
 | nil => exact fun d hd => by cases hd
 | cons d ds ih =>
  obtain ⟨⟨D', rfl, h2, h3, h4⟩, h5⟩ := h
  have h6 : D' < a.heap.size := (Array.getElem?_eq_some_iff.1 h3).1
  intro d' hd'
  rcases List.mem_cons.1 hd' with rfl | hd'
  ·simp only [ne_eq, Target.collected.injEq]
   omega
  ·exact ih h5 d' hd'
theorem putObj_other (W : World) {D k : Nat} (o : Obj) (h : k ≠ D) : (W.putObj D o).heap[k]? = W.heap[k]? := World.putObj_heap_other h
theorem Marks.put {lo : Nat} {W : World} {D : Nat} (o : Obj) : ∀ {ds : List Deferred}, Marks lo W ds → (∀ d' ∈ ds, d'.target ≠ .collected D) → Marks lo (W.putObj D o) ds
 | [], _, _ => trivial
 | d :: ds, ⟨⟨D', h1, h2, h3, h4⟩, h5⟩, hd => by
  refine ⟨⟨D', h1, h2, ?_, h4⟩, Marks.put o h5 (fun d' hd' => hd d' (List.mem_cons_of_mem _ hd'))⟩
  rw [putObj_other W o (by rintro rfl; exact hd d List.mem_cons_self (by rw [h1]))]
  exact h3
theorem Marks.leaves {lo : Nat} {F : Fence} {n : Nat} {P : Program} {fn : Func} {tmps : Array Value} {R : Ending → World → Prop} {Inv : World → Prop} (hInv : ∀ (W : World) (D : Nat), lo ≤ D → W.heap[D]? = some (.deferred (some [])) → Inv W → Inv (W.putObj D (.deferred none)))
  (hend : ∀ W, Inv W → LeavesIn F n P fn tmps R [] .returning W) : ∀ (ds : List Deferred) (W : World), Marks lo W ds → Inv W → LeavesInM F n P fn tmps R ds .returning W
 | [], W, _, hi => hend W hi
 | d :: ds, W, ⟨⟨D, h1, h2, h3, h4⟩, h5⟩, hi => ⟨by simp, .inl ⟨D, _, by rw [h1], run_takeDeferred h3, Marks.leaves hInv hend ds _ (h5.put _ h4) (hInv W D h2 h3 hi)⟩⟩
theorem AW.put {w wr : World} {gm mb ga gv : Nat} {vW vR : Value} {T F : Nat → Nat → Int} (h : AW w wr gm mb ga gv vW vR T F) {D : Nat} (hlo : w.heap.size ≤ D) (hD : wr.heap[D]? = some (.deferred (some []))) (o : Obj) : AW w (wr.putObj D o) gm mb ga gv vW vR T F := by
 have hne : ∀ {k : Nat} {ob : Obj}, wr.heap[k]? = some ob → ob ≠ .deferred (some []) → (wr.putObj D o).heap[k]? = wr.heap[k]? := fun {k ob} hk ho => putObj_other _ _ (by rintro rfl; rw [hk] at hD; exact ho (Option.some.inj hD))
 obtain ⟨cs, h0, _⟩ := h.atl.blk
 exact ⟨h.below.grown (grownBy_putObj' wr D o) h.below.size (fun k e => by cases e; exact hlo), h.m.move (hne h.m (by simp)), h.v.move (hne h.v (by simp)), (hne h.hm (by simp)).trans h.hm, h.atl.move (hne h0 (by simp)), h.lo, h.l1, h.l2, h.l3⟩
theorem relax_less {p n : Nat} {s : (Nat → Int) × (Nat → Int)} {g : Int} (h : s.1 p + g < s.1 n) : relax p s ((n : Int), g) = (upd s.1 n (s.1 p + g), upd s.2 n (p : Int)) := by
 unfold relax
 rw [Int.toNat_natCast, if_pos h]
theorem relax_not {p n : Nat} {s : (Nat → Int) × (Nat → Int)} {g : Int} (h : ¬ s.1 p + g < s.1 n) : relax p s ((n : Int), g) = s := by
 unfold relax
 rw [Int.toNat_natCast, if_neg h]

/-- What a road leads to, of a valid map: a place and a time. -/
def NbOk (N : Nat) (x : Int × Int) : Prop := 0 ≤ x.1 ∧ x.1 < N ∧ 1 ≤ x.2 ∧ x.2 ≤ 50
theorem nbOk_of {N : Nat} {n : Int} {R : List S94} (h : ∀ r ∈ R, RoadOk N r) : ∀ r ∈ R, ∀ x, nbr n r = some x → NbOk N x := fun r hr x hx =>
 let ⟨h1, h2, _, h4, h5⟩ := nbr_ok (h r hr) hx
 ⟨h1, h2, h4, h5⟩
/-- What has come of a place's roads, taken into a goal's column. -/
def after {N : Nat} (p : Nat) (c f : Nat → Int) (xs : List { x // NbOk N x }) : (Nat → Int) × (Nat → Int) := (xs.map (·.1)).foldl (relax p) (c, f)
theorem after_snoc {N : Nat} (p : Nat) (c f : Nat → Int) (xs : List { x // NbOk N x }) (x : { x // NbOk N x }) : after p c f (xs ++ [x]) = relax p (after p c f xs) x.1 := by
 unfold after
 rw [List.map_append, List.foldl_append]
 rfl
theorem after_bounded {N : Nat} (p : Nat) {c f : Nat → Int} (h : Bounded c) (xs : List { x // NbOk N x }) : Bounded (after p c f xs).1 := by
 unfold after
 refine foldl_bounded _ _ h (fun x hx => ?_)
 obtain ⟨y, _, rfl⟩ := List.mem_map.1 hx
 exact y.2.2.2.1

theorem roads_lo {A0 : Option Addr} {c0 : Nat} {Wk : List S77} {A1 : Option Addr} {c1 : Nat} {R : List S94} {w : World} (h : IsMap w A0 c0 Wk A1 c1 R) (h0 : 0 < R.length) : ∀ ad, A1 = some ad → ad.block < w.heap.size := by
 intro ad e
 have hb := h.br
 obtain ⟨ad', e', h1, _⟩ := at_T94 h.roads ((0 : Nat) : Int) (by omega) (by omega)
 rw [e] at e'
 obtain rfl := Option.some.inj e'
 have hbk : ∀ (d : Addr) (i : Nat), (d.add i).block = d.block := fun d i => by unfold Addr.add; split <;> rfl
 have := World.block_lt_of_cell? _ _ h1
 rwa [hbk] at this

theorem zip2 (t : Array Value) (i j : Tmp) (a b : Value) : (#[i, j].zip #[a, b]).foldl (fun t (p, v) => t.setIfInBounds p v) t = (t.setIfInBounds i a).setIfInBounds j b := by simp

/-- wpIn_rangeFunc_ownF, the frame of a round told by what it makes of the frame. -/
theorem range_ownF {F : Fence} {n : Nat} {P : Program} {α : Type} {g : Operand} {ps : Array Tmp} {assign body : Code} {Q : Exit → Act → World → Prop} {a : Act} {w : World}
  (hro : F.round = none) (h1 : 1 ≤ n) {gf : Nat} {lb : Array Value} (hg : a.eval g = .func (.func gf) #[] lb) (hFg : F.fn gf) (eg : ∀ args w, (callFunc gf args).run P w = .ok (.enter gf args) w)
  {encs : α → Array Value} {Kp : World → World → Prop} {S Sp : List α → Prop} {N : Nat} (hseq : SeqStopsK F (n - 1) P gf lb encs Kp S Sp N w)
  (hKt : ∀ {A B C : World}, Kp A B → Kp B C → Kp A C) (hKb : ∀ (W : World) (l : Nat) (o o' : Obj), w.heap.size ≤ l → W.heap[l]? = some o → o.isCells = false → o.isWalk = false → Kp W (W.putObj l o')) (hps : ∀ x, (encs x).size = ps.size)
  (fz f : Array Value → α → Array Value) (hz : ∀ t x, (ps.zip (encs x)).foldl (fun t (p, v) => t.setIfInBounds p v) t = fz t x) (I : List α → World → Prop) (hI : OwnFrom w.heap.size I) (h0 : I [] w)
  (hassign : ∀ (l : Nat) (x : α) (W : World) (K : Act → World → Prop), K { tmps := f a.tmps x, defers := [] } W →
   assign.wpIn (F.inRound l) (n - 1 - 1) P (Exit.then K (fun _ _ _ => False)) { tmps := fz a.tmps x, defers := [] } W)
  (hbody : ∀ (l : Nat) (pre : List α) (x : α) (W : World), I pre W → pre.length < N → body.wpIn (F.inRound l) (n - 1 - 1) P (ownPostK Kp I (fun _ _ _ => False) (pre ++ [x]) W) { tmps := f a.tmps x, defers := [] } W)
  (hdone : ∀ (D : Nat) (xs : List α) (W : World), w.heap.size ≤ D → S xs → I xs W → W.heap[D]? = some (.deferred (some [])) → Q .normal { a with defers := { target := .collected D, args := #[] } :: a.defers } W) :
  (Code.rangeFunc g ps assign body).wpIn F n P Q a w :=
 wpIn_rangeFunc_ownF hro h1 hg hFg eg hseq (fun h k => hKt h k) hKb (Below.refl _ _) hps I (fun _ _ _ => False) hI (fun _ _ _ _ _ h => h.elim) h0 (fun x => { tmps := f a.tmps x, defers := [] }) (fun l x W K hK => by rw [hz]; exact hassign l x W K hK) hbody hdone (fun _ _ _ _ _ _ h => h.elim)
end Go.Proofs.Ytiddkceahbnolaa
