/- Rows of whole numbers that a call has made, read. -/
import Derived.Test.YtiddkceahbnolaaSplitP
import Derived.Test.YtiddkceahbnolaaAtlR
import Derived.DeepKeys3
import Derived.Maps.Keyed
import Derived.Test.YtiddkceahbnolaaWMore
import Derived.Test.YtiddkceahbnolaaWApart
import Derived.Test.YtiddkceahbnolaaWInvWords
namespace Go.Proofs.Ytiddkceahbnolaa
open Go.RowKit Go.Proofs.Ytiddkceahbnolaa.PWalkOrder Go.Proofs.YtiddkceahbnolaaW.PrintWords Go.Instr
set_option linter.unusedVariables false
set_option linter.unusedSimpArgs false

def encStand (a s : Int) : Value := .agg #[.int .i64 a, .int .i64 s]
def encLeg (x : Int × Int) : Value := .agg #[.int .i64 x.1, .int .i64 x.2]

theorem standK : Maps.Keyed Try.prog 156 := .of_law (deep_law (m := 2) (by decide) (by kernel_rfl) (by kernel_rfl) (by kernel_rfl))
theorem stand_all : ∀ a : Fin 8, ∀ s : Fin 256, (keyOf Try.prog 156 (.agg #[.int .i64 (a.1 : Int), .int .i64 (s.1 : Int)])).isSome = true := by decide +kernel
theorem stand_key {a s : Nat} (ha : a < 8) (hs : s < 256) : ∃ l, keyOf Try.prog 156 (encStand a s) = some l := Option.isSome_iff_exists.1 (stand_all ⟨a, ha⟩ ⟨s, hs⟩)

/-- Each entry of the memory is what 'rest' computes. -/
def Memo (w : World) (mb : Nat) (T : Nat → Nat → Int) : Prop := ∃ es clock, w.heap[mb]? = some (.map es clock) ∧ ∀ e ∈ es.toList, ∃ a s : Nat, a < 8 ∧ s < 256 ∧ e.key = encStand a s ∧ e.val = encLeg (rest T a s)
theorem Memo.move {w w' : World} {mb : Nat} {T : Nat → Nat → Int} (h : Memo w mb T) (e : w'.heap[mb]? = w.heap[mb]?) : Memo w' mb T := by
 obtain ⟨es, clock, h0, h1⟩ := h
 exact ⟨es, clock, e.trans h0, h1⟩
theorem Memo.lt {w : World} {mb : Nat} {T : Nat → Nat → Int} (h : Memo w mb T) : mb < w.heap.size := by
 obtain ⟨es, clock, h0, h1⟩ := h
 exact (Array.getElem?_eq_some_iff.1 h0).1
theorem Memo.new {w : World} {mb : Nat} {T : Nat → Nat → Int} (h : w.heap[mb]? = some (.map #[] 0)) : Memo w mb T := ⟨_, _, h, fun e he => by simp at he⟩
theorem stand_inj {a s b t : Nat} (h : encStand a s = encStand b t) : a = b ∧ s = t := by
 unfold encStand at h
 simp only [Value.agg.injEq, Array.mk.injEq, List.cons.injEq, Value.int.injEq, true_and, and_true, Int.natCast_inj] at h
 exact h

theorem memoU : Try.prog.underlying 88 = some (.map 156 153) := by kernel_rfl
theorem legZ (w : World) : (zeroValue 153).run Try.prog w = .ok (encLeg (0, 0)) w := Try.zeroValue153 w

theorem Memo.lookup {w : World} {mb : Nat} {T : Nat → Nat → Int} (h : Memo w mb T) {a s : Nat} (ha : a < 8) (hs : s < 256) :
  ∃ v b, (b = true → v = encLeg (rest T a s)) ∧ (b = false → v = encLeg (0, 0)) ∧ ∀ w' : World, w'.heap[mb]? = w.heap[mb]? →
   (Instr.lookup 88 (.map (some mb)) (encStand a s) true).run Try.prog w' = .ok (.tuple #[v, .bool b]) w' := by
 obtain ⟨es, clock, h0, h1⟩ := h
 obtain ⟨l, hl⟩ := stand_key ha hs
 have hk : ∀ e ∈ es.toList, ∃ l, keyOf Try.prog 156 e.key = some l := fun e he => by
  obtain ⟨b, t, hb, ht, h2, h3⟩ := h1 e he
  rw [h2]
  exact stand_key hb ht
 by_cases hex : ∃ e ∈ es.toList, e.key = encStand a s
 ·refine ⟨encLeg (rest T a s), true, fun _ => rfl, fun e => by (cases e), fun w' hw' => ?_⟩
  rw [h0] at hw'
  have hg : (getObj mb).run Try.prog w' = .ok (.map es clock) w' := by simp [getObj, Sem.run, hw']
  unfold Instr.lookup
  simp only [Sem.run_bind, run_underlying memoU, Result.andThen_ok, hg, standK.check w' es.isEmpty hl, Sem.run_pure]
  rcases standK.find w' hl es.toList hk with ⟨hf, hn⟩ | ⟨j, e, hf, hj, he⟩
  ·obtain ⟨e, he, he2⟩ := hex
   exact absurd he2 (hn e he)
  ·rw [hf]
   obtain ⟨b, t, hb, ht, h2, h3⟩ := h1 e (List.mem_of_getElem? hj)
   rw [h2] at he
   obtain ⟨rfl, rfl⟩ := stand_inj he
   simp only [Result.andThen_ok, Sem.run_bind, Sem.run_pure, if_true, h3]
 ·refine ⟨encLeg (0, 0), false, fun e => by (cases e), fun _ => rfl, fun w' hw' => ?_⟩
  rw [h0] at hw'
  have hg : (getObj mb).run Try.prog w' = .ok (.map es clock) w' := by simp [getObj, Sem.run, hw']
  unfold Instr.lookup
  simp only [Sem.run_bind, run_underlying memoU, Result.andThen_ok, hg, standK.check w' es.isEmpty hl, Sem.run_pure]
  rcases standK.find w' hl es.toList hk with ⟨hf, hn⟩ | ⟨j, e, hf, hj, he⟩
  ·rw [hf]
   simp only [Result.andThen_ok, Sem.run_bind, legZ, Sem.run_pure, if_true]
  ·exact absurd ⟨e, List.mem_of_getElem? hj, he⟩ hex

theorem Memo.update {w : World} {mb : Nat} {T : Nat → Nat → Int} (h : Memo w mb T) {a s : Nat} (ha : a < 8) (hs : s < 256) :
  ∃ o, (Instr.mapUpdate 88 (.map (some mb)) (encStand a s) (encLeg (rest T a s))).run Try.prog w = .ok () (w.putObj mb o) ∧ Memo (w.putObj mb o) mb T := by
 have hlt := h.lt
 obtain ⟨es, clock, h0, h1⟩ := h
 obtain ⟨l, hl⟩ := stand_key ha hs
 have hk : ∀ e ∈ es.toList, ∃ l, keyOf Try.prog 156 e.key = some l := fun e he => by
  obtain ⟨b, t, hb, ht, h2, h3⟩ := h1 e he
  rw [h2]
  exact stand_key hb ht
 have hg : (getObj mb).run Try.prog w = .ok (.map es clock) w := by simp [getObj, Sem.run, h0]
 have hset : ∀ o, (setObj mb o).run Try.prog w = .ok () (w.putObj mb o) := fun o => by simp [setObj, Sem.run, World.putObj, h0]
 unfold Instr.mapUpdate
 simp only [Sem.run_bind, run_underlying memoU, Result.andThen_ok, hg, standK.check w false hl, Sem.run_pure]
 rcases standK.find w hl es.toList hk with ⟨hf, hn⟩ | ⟨j, e, hf, hj, he⟩
 ·rw [hf]
  refine ⟨.map (es.push { key := encStand a s, val := encLeg (rest T a s), born := clock }) (clock + 1), ?_, ?_⟩
  ·simp only [Result.andThen_ok, hset]
  ·refine ⟨_, _, World.putObj_heap_same hlt, fun e he => ?_⟩
   rw [Array.toList_push, List.mem_append, List.mem_singleton] at he
   rcases he with he | rfl
   ·exact h1 e he
   ·exact ⟨a, s, ha, hs, rfl, rfl⟩
 ·rw [hf]
  have hj' : es[j]? = some e := by rw [← Array.getElem?_toList]; exact hj
  refine ⟨.map (es.modify j fun e => { e with key := encStand a s, val := encLeg (rest T a s) }) clock, ?_, ?_⟩
  ·simp only [Result.andThen_ok, Sem.run_bind, hj', Option.map_some, Option.getD_some, he, standK.stays w hl, hset]
  ·refine ⟨_, _, World.putObj_heap_same hlt, fun e' he' => ?_⟩
   obtain ⟨i, hi⟩ := List.getElem?_of_mem he'
   rw [Array.getElem?_toList, Array.getElem?_modify] at hi
   by_cases e : j = i
   ·subst e
    rw [if_pos rfl, hj'] at hi
    obtain rfl := Option.some.inj hi
    exact ⟨a, s, ha, hs, rfl, rfl⟩
   ·rw [if_neg e] at hi
    exact h1 e' (by rw [← Array.getElem?_toList] at hi; exact List.mem_of_getElem? hi)

theorem Blk.set2 {w : World} {g : Nat} {a b : Value} {t : TypeId} (h : Blk w g [a, b] t) (u v : Value) : Blk ((w.setCell ⟨g, 0, none⟩ u).setCell ⟨g, 1, none⟩ v) g [u, v] t := by
 have := blk_set (blk_set h 0 u) 1 v
 exact this

/-- An atlas with its memory. -/
structure AtlM (w : World) (ga : Nat) (vW vR : Value) (T F : Nat → Nat → Int) (mb : Nat) : Prop where
 atl : Atl w ga vW vR T F mb
 memo : Memo w mb T
 ne : ga ≠ mb
theorem AtlM.keep {w w' : World} {ga : Nat} {vW vR : Value} {T F : Nat → Nat → Int} {mb : Nat} (h : AtlM w ga vW vR T F mb) (k : Below w.heap.size w w') : AtlM w' ga vW vR T F mb :=
 ⟨h.atl.move (k.block ga h.atl.lt), h.memo.move (k.block mb h.memo.lt), h.ne⟩
theorem AtlM.alloc {w : World} {ga : Nat} {vW vR : Value} {T F : Nat → Nat → Int} {mb : Nat} (h : AtlM w ga vW vR T F mb) (o : Obj) : AtlM (w.alloc o) ga vW vR T F mb := h.keep (below_alloc (Below.refl _ _) o)
theorem AtlM.drew {w : World} {ga : Nat} {vW vR : Value} {T F : Nat → Nat → Int} {mb : Nat} (h : AtlM w ga vW vR T F mb) : AtlM w.drew ga vW vR T F mb := ⟨h.atl.move rfl, h.memo.move rfl, h.ne⟩
theorem AtlM.drewN {w : World} {ga : Nat} {vW vR : Value} {T F : Nat → Nat → Int} {mb : Nat} (h : AtlM w ga vW vR T F mb) (n : Nat) : AtlM (w.drewN n) ga vW vR T F mb := ⟨h.atl.move rfl, h.memo.move rfl, h.ne⟩
theorem AtlM.other {w : World} {ga : Nat} {vW vR : Value} {T F : Nat → Nat → Int} {mb : Nat} (h : AtlM w ga vW vR T F mb) {p : Addr} (h1 : p.block ≠ ga) (h2 : p.block ≠ mb) (u : Value) : AtlM (w.setCell p u) ga vW vR T F mb :=
 ⟨h.atl.move (Below.heap_setCell _ _ _ _ h1.symm), h.memo.move (Below.heap_setCell _ _ _ _ h2.symm), h.ne⟩
end Go.Proofs.Ytiddkceahbnolaa

namespace Go.Proofs.Ytiddkceahbnolaa
open Go.RowKit Go.Proofs.Ytiddkceahbnolaa.PWalkOrder Go.Proofs.YtiddkceahbnolaaW.PrintWords Go.Proofs.YtiddkceahbnolaaW.PrintWords.Kd
set_option linter.unusedVariables false

/-- The numbers xs lie in a block from lo on. -/
def IntsAt (w : World) (lo : Nat) (A : Option Addr) (xs : List Int) : Prop := ∀ i, i < xs.length → ∃ g, A = some ⟨g, 0, none⟩ ∧ lo ≤ g ∧ g < w.heap.size ∧ w.cell? ⟨g, i, none⟩ = some (.int .i64 (xs.getD i 0))
theorem ints_of_R {w : World} {base : Nat} {ok : Nat → Prop} {v : Value} {xs : List Int} (h : (Kd.int .i64).R 3 w base ok v xs) : ∃ A c, v = .slice A xs.length c ∧ xs.length ≤ c ∧ IntsAt w base A xs := by
 obtain ⟨A, c, rfl, hl, hC⟩ := R_reads h
 refine ⟨A, c, rfl, hl, fun i hi => ?_⟩
 obtain ⟨ad, c', e⟩ := Kd.R_slice1 h (by omega)
 simp only [Value.slice.injEq] at e
 obtain ⟨rfl, _, rfl⟩ := e
 obtain ⟨g, rfl⟩ := R_head h
 have hb := (R_bound h).1 g (by simp [Value.ownBlock])
 obtain ⟨cs, h1, h2, h3⟩ := R_getA h 0 (i : Int) (by omega) (by omega)
 simp only [Int.toNat_natCast] at h2 h3
 refine ⟨g, rfl, hb.2.1, hb.2.2.1, ?_⟩
 have h4 : cs = [.int .i64 (xs.getD i 0)] := h2
 subst h4
 have := h3 0 _ rfl
 rw [add_at, show (Kd.int IntKind.i64).sz = 1 from rfl] at this
 simpa using this
theorem IntsAt.keep {w w' : World} {lo : Nat} {A : Option Addr} {xs : List Int} {n : Nat} {S : Nat → Prop} (h : IntsAt w lo A xs) (k : Keep n S w w') (hn : w.heap.size ≤ n) (hS : ∀ g, S g → g < lo) : IntsAt w' lo A xs := fun i hi => by
 obtain ⟨g, h1, h2, h3, h4⟩ := h i hi
 exact ⟨g, h1, h2, Nat.lt_of_lt_of_le h3 k.size, (k.cell (p := ⟨g, i, none⟩) (by simp only; omega) (fun hs => by have := hS g hs; omega)).trans h4⟩
theorem IntsAt.setCell {w : World} {lo : Nat} {A : Option Addr} {xs : List Int} (h : IntsAt w lo A xs) {p : Addr} (hp : p.block < lo) (u : Value) : IntsAt (w.setCell p u) lo A xs := fun i hi => by
 obtain ⟨g, h1, h2, h3, h4⟩ := h i hi
 refine ⟨g, h1, h2, by simpa [World.setCell] using h3, ?_⟩
 rw [← h4]
 exact World.cell?_of_block (w := w) (Below.heap_setCell _ _ _ _ (by simp only; omega))
theorem IntsAt.drew {w : World} {lo : Nat} {A : Option Addr} {xs : List Int} (h : IntsAt w lo A xs) : IntsAt w.drew lo A xs := h
theorem IntsAt.drewN {w : World} {lo : Nat} {A : Option Addr} {xs : List Int} (h : IntsAt w lo A xs) (n : Nat) : IntsAt (w.drewN n) lo A xs := h
end Go.Proofs.Ytiddkceahbnolaa
