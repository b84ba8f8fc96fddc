/- border's work: a map at work, with its joins in both directions. -/
import Derived.Test.YtiddkceahbnolaaZBnd
import Derived.DeepKeys3
import Derived.Maps.Keyed
import Derived.WideKeyEntry
import Derived.Test.YtiddkceahbnolaaWMore
namespace Go.Proofs.Ytiddkceahbnolaa
open Go.RowKit Go.Proofs.Ytiddkceahbnolaa.PBorderOrder Go.Proofs.YtiddkceahbnolaaW.PrintWords Go.Instr
set_option linter.all false
def encJ (a b : Nat) : Value := .agg #[.int .i64 (a : Int), .int .i64 (b : Int)]
theorem joinK : Maps.Keyed Try.prog 119 := .of_law (deep_law (m := 2) (by decide) (by kernel_rfl) (by kernel_rfl) (by kernel_rfl))
theorem join_all : ∀ a : Fin 8, ∀ b : Fin 8, (keyOf Try.prog 119 (.agg #[.int .i64 (a.1 : Int), .int .i64 (b.1 : Int)])).isSome = true := by decide +kernel
theorem join_key {a b : Nat} (ha : a < 8) (hb : b < 8) : ∃ l, keyOf Try.prog 119 (encJ a b) = some l := Option.isSome_iff_exists.1 (join_all ⟨a, ha⟩ ⟨b, hb⟩)
theorem join_inj {a s b t : Nat} (h : encJ a s = encJ b t) : a = b ∧ s = t := by
 unfold encJ at h
 simp only [Value.agg.injEq, Array.mk.injEq, List.cons.injEq, Value.int.injEq, true_and, and_true, Int.natCast_inj] at h
 exact h
theorem jmapU : Try.prog.underlying 130 = some (.map 119 4) := by kernel_rfl
theorem boolZ (w : World) : (zeroValue 4).run Try.prog w = .ok (.bool false) w := Try.zeroValue4 w
/-- A map in memory that holds the joins of f. -/
def JMap (w : World) (mb : Nat) (f : Nat → Nat → Bool) : Prop := ∃ es clock, w.heap[mb]? = some (.map es clock) ∧ (∀ e ∈ es.toList, ∃ a b : Nat, a < 8 ∧ b < 8 ∧ e.key = encJ a b ∧ e.val = .bool true ∧ f a b = true)
 ∧ (∀ a b : Nat, a < 8 → b < 8 → f a b = true → ∃ e ∈ es.toList, e.key = encJ a b) ∧ (∀ e ∈ es.toList, e.born < clock) ∧ (es.toList.map (·.born)).Nodup
theorem JMap.move {w w' : World} {mb : Nat} {f : Nat → Nat → Bool} (h : JMap w mb f) (e : w'.heap[mb]? = w.heap[mb]?) : JMap w' mb f := by
 obtain ⟨es, clock, h0, h1⟩ := h
 exact ⟨es, clock, e.trans h0, h1⟩
theorem JMap.lt {w : World} {mb : Nat} {f : Nat → Nat → Bool} (h : JMap w mb f) : mb < w.heap.size := by
 obtain ⟨es, clock, h0, h1⟩ := h
 exact (Array.getElem?_eq_some_iff.1 h0).1
theorem JMap.new {w : World} {mb : Nat} (h : w.heap[mb]? = some (.map #[] 0)) : JMap w mb (fun _ _ => false) := ⟨_, _, h, fun e he => by simp at he, fun a b _ _ h => by simp at h, fun e he => by simp at he, by simp⟩
theorem JMap.congr {w : World} {mb : Nat} {f g : Nat → Nat → Bool} (h : JMap w mb f) (e : ∀ a b, a < 8 → b < 8 → f a b = g a b) : JMap w mb g := by
 obtain ⟨es, clock, h0, h1, h2, h3⟩ := h
 refine ⟨es, clock, h0, fun e' he => ?_, fun a b ha hb hg => h2 a b ha hb (by rw [e a b ha hb]; exact hg), h3⟩
 obtain ⟨a, b, ha, hb, k1, k2, k3⟩ := h1 e' he
 exact ⟨a, b, ha, hb, k1, k2, by rw [← e a b ha hb]; exact k3⟩
theorem JMap.lookup {w : World} {mb : Nat} {f : Nat → Nat → Bool} (h : JMap w mb f) {a s : Nat} (ha : a < 8) (hs : s < 8) (w' : World) (hw' : w'.heap[mb]? = w.heap[mb]?) :
  (Instr.lookup 130 (.map (some mb)) (encJ a s) false).run Try.prog w' = .ok (.bool (f a s)) w' := by
 obtain ⟨es, clock, h0, h1, h2, h3⟩ := h
 obtain ⟨l, hl⟩ := join_key ha hs
 have hk : ∀ e ∈ es.toList, ∃ l, keyOf Try.prog 119 e.key = some l := fun e he => by
  obtain ⟨b, t, hb, ht, h2, h3⟩ := h1 e he
  rw [h2]
  exact join_key hb ht
 rw [h0] at hw'
 have hg : (getObj mb).run Try.prog w' = .ok (.map es clock) w' := by simp [getObj, Sem.run, hw']
 unfold Instr.lookup
 simp only [Sem.run_bind, run_underlying jmapU, Result.andThen_ok, hg, joinK.check w' es.isEmpty hl, Sem.run_pure]
 rcases joinK.find w' hl es.toList hk with ⟨hf, hn⟩ | ⟨j, e, hf, hj, he⟩
 ·have hff : f a s = false := by
   cases hfa : f a s with
   | false => rfl
   | true =>
    obtain ⟨e, he, he2⟩ := h2 a s ha hs hfa
    exact absurd he2 (hn e he)
  rw [hf, hff]
  simp [Result.andThen_ok, Sem.run_bind, boolZ, Sem.run_pure]
 ·rw [hf]
  obtain ⟨b, t, hb, ht, k2, k3, k4⟩ := h1 e (List.mem_of_getElem? hj)
  rw [k2] at he
  obtain ⟨rfl, rfl⟩ := join_inj he
  simp [Result.andThen_ok, Sem.run_bind, Sem.run_pure, k3, k4]
def updJ (f : Nat → Nat → Bool) (a b : Nat) : Nat → Nat → Bool := fun x y => f x y || (x == a && y == b)
theorem JMap.entry0 {w : World} {mb : Nat} {f : Nat → Nat → Bool} (h : JMap w mb f) {a s : Nat} (ha : a < 8) (hs : s < 8) :
  ∃ v0 st o1 o2, (Instr.mapEntry 130 (.map (some mb)) (encJ a s)).run Try.prog w = .ok (.tuple #[v0, goInt st]) (w.putObj mb o1) ∧
   (∀ w2 : World, w2.heap[mb]? = some o1 → (Instr.entryStore 130 (.map (some mb)) (goInt st) (.bool true)).run Try.prog w2 = .ok () (w2.putObj mb o2)) ∧
   ∀ w2 : World, w2.heap[mb]? = some o2 → JMap w2 mb (updJ f a s) := by
 have hlt := h.lt
 obtain ⟨es, clock, h0, h1, h2, h3, h4⟩ := h
 obtain ⟨l, hl⟩ := join_key ha hs
 have hk : ∀ e ∈ es.toList, ∃ l, keyOf Try.prog 119 e.key = some l := fun e he => by
  obtain ⟨b, t, hb, ht, h2, h3⟩ := h1 e he
  rw [h2]
  exact join_key hb ht
 have hg : (getObj mb).run Try.prog w = .ok (.map es clock) w := by simp [getObj, Sem.run, h0]
 have hset : ∀ (w : World) (o : Obj) (e : Array MapEntry) (c : Nat), w.heap[mb]? = some (.map e c) → (setObj mb o).run Try.prog w = .ok () (w.putObj mb o) := fun w o e c hm => by simp [setObj, Sem.run, World.putObj, hm]
 unfold Instr.mapEntry Instr.entryStore
 simp only [Sem.run_bind, run_underlying jmapU, Result.andThen_ok, hg, joinK.check w false hl, Sem.run_pure]
 rcases joinK.find w hl es.toList hk with ⟨hf, hn⟩ | ⟨j, e, hf, hj, he⟩
 ·rw [hf]
  refine ⟨.bool false, clock, .map (es.push { key := encJ a s, val := .bool false, born := clock }) (clock + 1), .map (es.push { key := encJ a s, val := .bool true, born := clock }) (clock + 1), ?_, fun w2 hw2 => ?_, fun w2 hw2 => ?_⟩
  ·simp only [Result.andThen_ok, Sem.run_bind, boolZ, hset _ _ _ _ h0, Sem.run_pure]
  ·have hg2 : (getObj mb).run Try.prog w2 = .ok (.map (es.push { key := encJ a s, val := .bool false, born := clock }) (clock + 1)) w2 := by simp [getObj, Sem.run, hw2]
   have hidx : (es.push { key := encJ a s, val := .bool false, born := clock }).findIdx? (fun e => ((e.born : Nat) : Int) == ((clock : Nat) : Int)) = some es.size := by
    rw [WideElems.findIdx_arr]
    have := WideElems.findIdx_born (l := (es.push { key := encJ a s, val := .bool false, born := clock }).toList) (j := es.size) (e0 := { key := encJ a s, val := .bool false, born := clock }) (by
     simp only [Array.toList_push, List.map_append, List.map_cons, List.map_nil]
     refine List.nodup_append.2 ⟨h4, by simp, fun a ha c hc e1 => ?_⟩
     simp only [List.mem_singleton] at hc
     obtain ⟨x, hx, rfl⟩ := List.mem_map.1 ha
     have := h3 x hx
     omega) (by simp)
    exact this
   have hmod : (es.push { key := encJ a s, val := .bool false, born := clock }).modify es.size (fun e => { e with val := .bool true }) = es.push { key := encJ a s, val := .bool true, born := clock } := by
    apply Array.ext'
    rw [Array.toList_modify, Array.toList_push, Array.toList_push, ← Array.length_toList, WideElems.modify_last]
   simp only [Sem.run_bind, hg2, Result.andThen_ok]
   simp [asInt, asIntOf, goInt, hidx, hmod, Result.andThen, hset w2 _ _ _ hw2]
  ·refine ⟨_, _, hw2, fun e he => ?_, fun x y hx hy hxy => ?_, fun e he => ?_, ?_⟩
   ·rw [Array.toList_push, List.mem_append, List.mem_singleton] at he
    rcases he with he | rfl
    ·obtain ⟨p, q, hp, hq, k1, k2, k3⟩ := h1 e he
     exact ⟨p, q, hp, hq, k1, k2, by unfold updJ; rw [k3]; rfl⟩
    ·exact ⟨a, s, ha, hs, rfl, rfl, by unfold updJ; simp⟩
   ·unfold updJ at hxy
    rw [Bool.or_eq_true] at hxy
    rw [Array.toList_push]
    rcases hxy with hxy | hxy
    ·obtain ⟨e, he, k⟩ := h2 x y hx hy hxy
     exact ⟨e, List.mem_append_left _ he, k⟩
    ·simp only [Bool.and_eq_true, beq_iff_eq] at hxy
     obtain ⟨rfl, rfl⟩ := hxy
     exact ⟨_, List.mem_append_right _ (List.mem_singleton.2 rfl), rfl⟩
   ·rw [Array.toList_push, List.mem_append, List.mem_singleton] at he
    rcases he with he | rfl
    ·have := h3 e he; omega
    ·simp
   ·simp only [Array.toList_push, List.map_append, List.map_cons, List.map_nil]
    refine List.nodup_append.2 ⟨h4, by simp, fun a ha c hc e1 => ?_⟩
    simp only [List.mem_singleton] at hc
    obtain ⟨x, hx, rfl⟩ := List.mem_map.1 ha
    have := h3 x hx
    omega
 ·rw [hf]
  have hj' : es[j]? = some e := by rw [← Array.getElem?_toList]; exact hj
  obtain ⟨p, q, hp, hq, k1, k2, k3⟩ := h1 e (List.mem_of_getElem? hj)
  have hpq : p = a ∧ q = s := join_inj (k1.symm.trans he)
  obtain ⟨rfl, rfl⟩ := hpq
  have hsame : es.modify j (fun e => { e with key := encJ p q }) = es := by
   apply Array.ext'
   rw [Array.toList_modify, ChangeMaps.modify_eq_set _ _ _ _ hj]
   have : ({ e with key := encJ p q } : MapEntry) = e := by rw [← k1]
   rw [this]
   exact WideElems.set_self _ _ _ hj
  have hsame2 : es.modify j (fun e => { e with val := .bool true }) = es := by
   apply Array.ext'
   rw [Array.toList_modify, ChangeMaps.modify_eq_set _ _ _ _ hj]
   have : ({ e with val := .bool true } : MapEntry) = e := by rw [← k2]
   rw [this]
   exact WideElems.set_self _ _ _ hj
  refine ⟨e.val, e.born, .map es clock, .map es clock, ?_, fun w2 hw2 => ?_, fun w2 hw2 => ?_⟩
  ·simp only [Result.andThen_ok, Sem.run_bind, hj', Option.map_some, Option.getD_some, he, joinK.stays w hl, hsame, hset _ _ _ _ h0, Sem.run_pure]
  ·have hg2 : (getObj mb).run Try.prog w2 = .ok (.map es clock) w2 := by simp [getObj, Sem.run, hw2]
   have hidx : es.findIdx? (fun x => ((x.born : Nat) : Int) == ((e.born : Nat) : Int)) = some j := by
    rw [WideElems.findIdx_arr]
    exact WideElems.findIdx_born h4 hj
   simp only [Sem.run_bind, hg2, Result.andThen_ok]
   simp [asInt, asIntOf, goInt, hidx, hsame2, Result.andThen, hset w2 _ _ _ hw2]
  ·refine ⟨_, _, hw2, fun e' he' => ?_, fun x y hx hy hxy => ?_, h3, h4⟩
   ·obtain ⟨x, y, hx, hy, g1, g2, g3⟩ := h1 e' he'
    exact ⟨x, y, hx, hy, g1, g2, by unfold updJ; rw [g3]; rfl⟩
   ·unfold updJ at hxy
    rw [Bool.or_eq_true] at hxy
    rcases hxy with hxy | hxy
    ·exact h2 x y hx hy hxy
    ·simp only [Bool.and_eq_true, beq_iff_eq] at hxy
     obtain ⟨rfl, rfl⟩ := hxy
     exact ⟨e, List.mem_of_getElem? hj, k1⟩
theorem JMap.entry {w : World} {mb : Nat} {f : Nat → Nat → Bool} (h : JMap w mb f) {a s : Nat} (ha : a < 8) (hs : s < 8) :
  ∃ v0 st o1 o2, (Instr.mapEntry 130 (.map (some mb)) (encJ a s)).run Try.prog w = .ok (.tuple #[v0, (.int .i64 st)]) (w.putObj mb o1) ∧
   (∀ w2 : World, w2.heap[mb]? = some o1 → (Instr.entryStore 130 (.map (some mb)) ((.int .i64 st)) (.bool true)).run Try.prog w2 = .ok () (w2.putObj mb o2)) ∧
   ∀ w2 : World, w2.heap[mb]? = some o2 → JMap w2 mb (updJ f a s) := h.entry0 ha hs
end Go.Proofs.Ytiddkceahbnolaa
namespace Go.Proofs.Ytiddkceahbnolaa
open Go.RowKit Go.Shelf Go.Proofs.Ytiddkceahbnolaa.PBorderOrder Go.Proofs.YtiddkceahbnolaaW.PrintWords Go.Proofs.YtiddkceahbnolaaW.PrintLast Go.Proofs.YtiddkceahbnolaaW.PrintMore
set_option linter.all false
def wk.T5 : Bool × List (List Nat × List Nat) := (true, [([], []), ([0], [0]), ([1], [1]), ([2], [2]), ([], []), ([], []), ([5], [5]), ([6], [6]), ([7], [7]), ([], []), ([9], [9]), ([], []), ([11], [11]), ([10, 12], [10, 12]), ([3, 4, 8], [3, 4]), ([14], [14]), ([3, 15, 14, 0, 1, 2, 3, 4, 8, 14], [3, 15]), ([8, 13, 16, 0, 1, 2, 3, 4, 8, 14, 15, 16], [8, 13]), ([17], [17]), ([8, 18, 17, 0, 1, 2, 3, 4, 5, 6, 7, 8, 9, 10, 11, 12, 13, 14, 15, 16, 17], [8, 18])])
def wk.B5 : List Nat := [0, 1, 3, 7, 0, 0, 32, 96, 224, 0, 512, 0, 2048, 7680, 511, 16895, 49663, 131071, 262143, 524287]
theorem wk.tab5 : rtab .any (opsOf Try.f57 5) = wk.T5 := by kernel_rfl
theorem wk.bits5 : waitsOk wk.T5.2 wk.B5 = true := by kernel_rfl
/-- Whether one of the joins joins two streets. -/
def jn (js : List S119) (a b : Nat) : Bool := js.any (fun j => (j.f0 == (a : Int) && j.f1 == (b : Int)) || (j.f0 == (b : Int) && j.f1 == (a : Int)))
theorem jn_snoc (js : List S119) (a b : Nat) (x y : Nat) : jn (js ++ [⟨(a : Int), (b : Int)⟩]) x y = updJ (updJ (jn js) a b) b a x y := by
 unfold jn updJ
 rw [List.any_append]
 simp only [List.any_cons, List.any_nil, Bool.or_false]
 rw [Bool.eq_iff_iff]
 simp only [Bool.or_eq_true, Bool.and_eq_true, beq_iff_eq]
 constructor
 ·rintro (h | ⟨h1, h2⟩ | ⟨h1, h2⟩)
  ·exact .inl (.inl h)
  ·exact .inl (.inr ⟨by omega, by omega⟩)
  ·exact .inr ⟨by omega, by omega⟩
 ·rintro ((h | ⟨h1, h2⟩) | ⟨h1, h2⟩)
  ·exact .inl h
  ·exact .inr (.inl ⟨by omega, by omega⟩)
  ·exact .inr (.inr ⟨by omega, by omega⟩)
theorem rdT_get (js : List S119) (k : Nat) (h : k < js.length) : rd_T119 js (k : Int) = js[k] := by simp [rd_T119, h]
/-- A map at work. -/
structure IsW (w : World) (g mb : Nat) (A0 : Option Addr) (c0 : Nat) (old : List Int) (nw : Int) (A2 : Option Addr) (c2 : Nat) (ss : List S115) (A3 : Option Addr) (c3 : Nat) (js : List S119) : Prop where
 blk : Blk w g [.slice A0 old.length c0, .int .i64 nw, .slice A2 ss.length c2, .slice A3 js.length c3, .map (some mb)] 132
 jm : JMap w mb (jn js)
set_option maxRecDepth 100000 in
set_option maxHeartbeats 40000000 in
theorem work_calls {A0 : Option Addr} {c0 : Nat} {old : List Int} {nw : Int} {A2 : Option Addr} {c2 : Nat} {ss : List S115} {A3 : Option Addr} {c3 : Nat} {js : List S119} {w : World} (h : IsB w A0 c0 old A2 c2 ss A3 c3 js) (hss : ss.length ≤ 8) (hjs : js.length ≤ 20) (hjo : js.all (joinB ss.length) = true) :
  Calls Try.prog 57 #[.agg #[.slice A0 old.length c0, .int .i64 nw, .slice A2 ss.length c2, .slice A3 js.length c3]] w fun e w' => e = .returned (.pointer (some ⟨w.heap.size + 1 + 1, 0, none⟩)) ∧ IsW w' (w.heap.size + 1 + 1) (w.heap.size + 1) A0 c0 old nw A2 c2 ss A3 c3 js ∧ Below w.heap.size w w' := by
 have H := Aside0.mk h
 have HJO := Aside0.mk hjo
 clear h hjo
 go_enter Try.func57, Try.ntmps57
 have hmm := @run_makeMap Try.prog
 go_wp2_with fail
 clear hmm
 have HBS := Aside0.mk (show Below w.heap.size w (((w.alloc (.cells #[.slice A0 old.length c0, .int .i64 nw, .slice A2 ss.length c2, .slice A3 js.length c3] 69)).alloc (.map #[] 0)).alloc (.cells #[.slice A0 old.length c0, .int .i64 nw, .slice A2 ss.length c2, .slice A3 js.length c3, .map (some (w.heap.size + 1))] 132)) from below_alloc (below_alloc (below_alloc (Below.refl w.heap.size w) (.cells #[.slice A0 old.length c0, .int .i64 nw, .slice A2 ss.length c2, .slice A3 js.length c3] 69)) (.map #[] 0)) (.cells #[.slice A0 old.length c0, .int .i64 nw, .slice A2 ss.length c2, .slice A3 js.length c3, .map (some (w.heap.size + 1))] 132))
 have BW0 := Aside0.mk (show Blk (((w.alloc (.cells #[.slice A0 old.length c0, .int .i64 nw, .slice A2 ss.length c2, .slice A3 js.length c3] 69)).alloc (.map #[] 0)).alloc (.cells #[.slice A0 old.length c0, .int .i64 nw, .slice A2 ss.length c2, .slice A3 js.length c3, .map (some (w.heap.size + 1))] 132)) (w.heap.size + 1 + 1) [.slice A0 old.length c0, .int .i64 nw, .slice A2 ss.length c2, .slice A3 js.length c3, .map (some (w.heap.size + 1))] 132 by have hB := Blk.new ((w.alloc (.cells #[.slice A0 old.length c0, .int .i64 nw, .slice A2 ss.length c2, .slice A3 js.length c3] 69)).alloc (.map #[] 0)) [.slice A0 old.length c0, .int .i64 nw, .slice A2 ss.length c2, .slice A3 js.length c3, .map (some (w.heap.size + 1))] 132; simp only [World.size_alloc] at hB; exact hB)
 have HJ0 := Aside0.mk (show JMap (((w.alloc (.cells #[.slice A0 old.length c0, .int .i64 nw, .slice A2 ss.length c2, .slice A3 js.length c3] 69)).alloc (.map #[] 0)).alloc (.cells #[.slice A0 old.length c0, .int .i64 nw, .slice A2 ss.length c2, .slice A3 js.length c3, .map (some (w.heap.size + 1))] 132)) (w.heap.size + 1) (jn (js.take 0)) from JMap.new (by have := heap_alloc_new (w.alloc (.cells #[.slice A0 old.length c0, .int .i64 nw, .slice A2 ss.length c2, .slice A3 js.length c3] 69)) (.map #[] 0); simp only [World.size_alloc] at this; exact (Below.heap_alloc _ _ _ (by simp)).trans this))
 generalize ((w.alloc (.cells #[.slice A0 old.length c0, .int .i64 nw, .slice A2 ss.length c2, .slice A3 js.length c3] 69)).alloc (.map #[] 0)).alloc (.cells #[.slice A0 old.length c0, .int .i64 nw, .slice A2 ss.length c2, .slice A3 js.length c3, .map (some (w.heap.size + 1))] 132) = w1 at HBS BW0 HJ0 ⊢
 go_loopw [13] (fun v wr => ∃ k : Nat, k ≤ js.length ∧ v = .int .i64 k ∧ Aside0 (Below w.heap.size w wr) ∧ Aside0 (Blk wr (w.heap.size + 1 + 1) [.slice A0 old.length c0, .int .i64 nw, .slice A2 ss.length c2, .slice A3 js.length c3, .map (some (w.heap.size + 1))] 132) ∧ Aside0 (JMap wr (w.heap.size + 1) (jn (js.take k)))) (fun v _ => js.length - (intOf v).toNat)
 case atStart => exact ⟨0, Nat.zero_le _, rfl, HBS, BW0, HJ0⟩
 case round =>
  clear HBS BW0 HJ0
  obtain ⟨k, hk, rfl, HB, BW, HJ⟩ := hrel
  by_cases hkl : k < js.length
  ·obtain ⟨ad, e, h0, h1⟩ := at_T119 (H.out.below HB.out).kjo (k : Int) (by omega) (by omega)
   cases e
   simp only [Int.toNat_natCast] at h0 h1
   obtain ⟨r, hr⟩ : ∃ r, rd_T119 js (k : Int) = r := ⟨_, rfl⟩
   have hrk : js[k] = r := by rw [← hr]; exact (rdT_get js k hkl).symm
   have hok := List.all_eq_true.1 HJO.out _ (List.getElem_mem hkl)
   rw [hrk] at hok
   have HTK := Aside0.mk (show js.take (k + 1) = js.take k ++ [r] by rw [List.take_succ_eq_append_getElem hkl, hrk])
   rw [hr] at h0 h1
   clear hr hrk
   obtain ⟨r0, r1⟩ := r
   unfold joinB withinB at hok
   simp only [Bool.and_eq_true, decide_eq_true_eq] at hok h0 h1
   obtain ⟨⟨q1, q2⟩, ⟨q3, q4⟩, q5⟩ := hok
   obtain ⟨a, rfl⟩ : ∃ a : Nat, r0 = (a : Int) := ⟨r0.toNat, by omega⟩
   obtain ⟨b, rfl⟩ : ∃ b : Nat, r1 = (b : Int) := ⟨r1.toNat, by omega⟩
   have ha : a < 8 := by omega
   have hb : b < 8 := by omega
   have hg := BW.out.lt
   clear q1 q2 q3 q4 q5
   go_wp2_with fail
   replace BW := Aside0.mk (BW.out.alloc (.cells #[.int .i64 (a : Int), .int .i64 (b : Int)] 119))
   replace HB := Aside0.mk (below_alloc HB.out (.cells #[.int .i64 (a : Int), .int .i64 (b : Int)] 119))
   replace HJ := Aside0.mk (HJ.out.move (Below.heap_alloc _ (.cells #[.int .i64 (a : Int), .int .i64 (b : Int)] 119) _ HJ.out.lt))
   have B5 := Aside0.mk (Blk.new wr [.int .i64 (a : Int), .int .i64 (b : Int)] 119)
   have hms : w.heap.size + 1 < (wr.alloc (.cells #[.int .i64 (a : Int), .int .i64 (b : Int)] 119)).heap.size := by simp; omega
   have hsz : wr.heap.size < (wr.alloc (.cells #[.int .i64 (a : Int), .int .i64 (b : Int)] 119)).heap.size := by simp
   generalize wr.alloc (.cells #[.int .i64 (a : Int), .int .i64 (b : Int)] 119) = wr5 at BW HB HJ B5 hms hsz ⊢
   obtain ⟨g5, hg5⟩ : ∃ g, wr.heap.size = g := ⟨_, rfl⟩
   rw [hg5] at B5 hsz hg ⊢
   clear hg5 h0 h1
   refine start_ (n := 20) (S := fun w' => w'.cell? ⟨w.heap.size + 1 + 1, 4, none⟩ = some (.map (some (w.heap.size + 1))) ∧ w'.cell? ⟨g5, 0, none⟩ = some (.int .i64 (a : Int)) ∧ w'.cell? ⟨g5, 1, none⟩ = some (.int .i64 (b : Int))) (ds := [17, 19]) #[O,O,O,O,O,O,O,O,O,O,O,O,O,O,O,O,O,O,O,O] (by kernel_rfl) rfl rfl ⟨(by simpa using BW.out.cell 4), (by simpa using B5.out.cell 0), (by simpa using B5.out.cell 1)⟩ (fun hHeld => ?_); refine with_tabW wk.tab5 wk.bits5 (fun HT_ HW_ => ?_)
   have HJd := Aside0.mk (HJ.out.move (w' := wr5.drew) rfl)
   have BWd := Aside0.mk (BW.out.move rfl : Blk wr5.drew _ _ _)
   have B5d := Aside0.mk (B5.out.move rfl : Blk wr5.drew _ _ _)
   have HBd := Aside0.mk (below_drew HB.out)
   have hmsd : w.heap.size + 1 < wr5.drew.heap.size := hms
   have hszd : g5 < wr5.drew.heap.size := hsz
   clear HJ BW B5 HB hms hsz
   generalize wr5.drew = wd at HJd BWd B5d HBd hmsd hszd hHeld ⊢
   refine pu_ 0 17 #[I,O,O,O,O,O,O,O,O,O,O,O,O,O,O,O,O,O,O,O] HT_ (h := ?_)
   refine pu_ 1 18 #[I,I,O,O,O,O,O,O,O,O,O,O,O,O,O,O,O,O,O,O] HT_ (h := ?_)
   refine pu_ 2 19 #[I,I,I,O,O,O,O,O,O,O,O,O,O,O,O,O,O,O,O,O] HT_ (h := ?_)
   refine ta_ 3 20 #[I,I,I,I,O,O,O,O,O,O,O,O,O,O,O,O,O,O,O,O] HT_ HW_ hHeld (hy := by (rintro w' ⟨s0, s1, s2⟩; go_simp; with_reducible rfl)) (h := ?_)
   refine ta_ 4 21 #[I,I,I,I,I,O,O,O,O,O,O,O,O,O,O,O,O,O,O,O] HT_ HW_ hHeld (hy := by (rintro w' ⟨s0, s1, s2⟩; go_simp; with_reducible rfl)) (h := ?_)
   refine pu_ 5 22 #[I,I,I,I,I,I,O,O,O,O,O,O,O,O,O,O,O,O,O,O] HT_ (h := ?_)
   refine pu_ 6 23 #[I,I,I,I,I,I,I,O,O,O,O,O,O,O,O,O,O,O,O,O] HT_ (h := ?_)
   refine pu_ 7 24 #[I,I,I,I,I,I,I,I,O,O,O,O,O,O,O,O,O,O,O,O] HT_ (h := ?_)
   refine ta_ 8 25 #[I,I,I,I,I,I,I,I,I,O,O,O,O,O,O,O,O,O,O,O] HT_ HW_ hHeld (hy := by (rintro w' ⟨s0, s1, s2⟩; go_simp; with_reducible rfl)) (h := ?_)
   refine pu_ 9 26 #[I,I,I,I,I,I,I,I,I,I,O,O,O,O,O,O,O,O,O,O] HT_ (h := ?_)
   refine ta_ 10 27 #[I,I,I,I,I,I,I,I,I,I,I,O,O,O,O,O,O,O,O,O] HT_ HW_ hHeld (hy := by (rintro w' ⟨s0, s1, s2⟩; go_simp; with_reducible rfl)) (h := ?_)
   refine pu_ 11 28 #[I,I,I,I,I,I,I,I,I,I,I,I,O,O,O,O,O,O,O,O] HT_ (h := ?_)
   refine ta_ 12 29 #[I,I,I,I,I,I,I,I,I,I,I,I,I,O,O,O,O,O,O,O] HT_ HW_ hHeld (hy := by (rintro w' ⟨s0, s1, s2⟩; go_simp; with_reducible rfl)) (h := ?_)
   refine pu_ 13 30 #[I,I,I,I,I,I,I,I,I,I,I,I,I,I,O,O,O,O,O,O] HT_ (h := ?_)
   refine one_ (i := 14) (N := some 31) #[I,I,I,I,I,I,I,I,I,I,I,I,I,I,I,O,O,O,O,O] rfl rfl (one_of HT_.out (by kernel_rfl)) (by decide) (fun K hK => ?_)
   obtain ⟨v1, st1, o1, o2, hm1, hm2, hm3⟩ := HJd.out.entry ha hb
   unfold encJ at hm1
   have HM1 := Aside0.mk hm2
   have HN1 := Aside0.mk hm3
   clear hm2 hm3
   refine value_ (w1 := wd.putObj (w.heap.size + 1) o1) (v := .tuple #[v1, (.int .i64 st1)]) (by rfl) rfl ?_ ?_
   ·go_simp
   clear hm1
   refine hK.out _ _ ⟨(by simpa using (BWd.out.move (putObj_other _ _ (by omega))).cell 4), (by simpa using (B5d.out.move (putObj_other _ _ (by omega))).cell 0), (by simpa using (B5d.out.move (putObj_other _ _ (by omega))).cell 1)⟩ (fun hHeld => ?_)
   clear hK K
   have BWe := Aside0.mk (BWd.out.move (w' := wd.putObj (w.heap.size + 1) o1) (putObj_other _ _ (by omega)))
   have B5e := Aside0.mk (B5d.out.move (w' := wd.putObj (w.heap.size + 1) o1) (putObj_other _ _ (by omega)))
   have HBe := Aside0.mk (HBd.out.grown (grownBy_putObj' wd (w.heap.size + 1) o1) HBd.out.size (fun k e => by cases e; omega))
   have hmse : w.heap.size + 1 < (wd.putObj (w.heap.size + 1) o1).heap.size := by simpa using hmsd
   have hsze : g5 < (wd.putObj (w.heap.size + 1) o1).heap.size := by simpa using hszd
   have HO1 := Aside0.mk (show (wd.putObj (w.heap.size + 1) o1).heap[w.heap.size + 1]? = some o1 from World.putObj_heap_same hmsd)
   clear HJd BWd B5d HBd hmsd hszd
   generalize wd.putObj (w.heap.size + 1) o1 = we at BWe B5e HBe hmse hsze HO1 hHeld ⊢
   refine norm_ (by simp only [Act.put, sb0, sb1, sb2]; rfl) ?_
   refine pu_ 15 32 #[I,I,I,I,I,I,I,I,I,I,I,I,I,I,I,I,O,O,O,O] HT_ (h := ?_)
   refine one_ (i := 16) (N := none) #[I,I,I,I,I,I,I,I,I,I,I,I,I,I,I,I,I,O,O,O] rfl rfl (one_of HT_.out (by kernel_rfl)) (by decide) (fun K hK => ?_)
   have hm2 := HM1.out _ HO1.out
   refine skip_ (w1 := we.putObj (w.heap.size + 1) o2) (by rfl) rfl ?_ ?_
   ·go_simp
   clear hm2
   refine hK.out _ _ ⟨(by simpa using (BWe.out.move (putObj_other _ _ (by omega))).cell 4), (by simpa using (B5e.out.move (putObj_other _ _ (by omega))).cell 0), (by simpa using (B5e.out.move (putObj_other _ _ (by omega))).cell 1)⟩ (fun hHeld => ?_)
   clear hK K
   have BWf := Aside0.mk (BWe.out.move (w' := we.putObj (w.heap.size + 1) o2) (putObj_other _ _ (by omega)))
   have B5f := Aside0.mk (B5e.out.move (w' := we.putObj (w.heap.size + 1) o2) (putObj_other _ _ (by omega)))
   have HBf := Aside0.mk (HBe.out.grown (grownBy_putObj' we (w.heap.size + 1) o2) HBe.out.size (fun k e => by cases e; omega))
   have hmsf : w.heap.size + 1 < (we.putObj (w.heap.size + 1) o2).heap.size := by simpa using hmse
   have hszf : g5 < (we.putObj (w.heap.size + 1) o2).heap.size := by simpa using hsze
   have HJf := Aside0.mk (HN1.out _ (show (we.putObj (w.heap.size + 1) o2).heap[w.heap.size + 1]? = some o2 from World.putObj_heap_same hmse))
   clear BWe B5e HBe hmse hsze HO1 HM1 HN1
   generalize we.putObj (w.heap.size + 1) o2 = wf at BWf B5f HBf hmsf hszf HJf hHeld ⊢
   refine last_ (i := 17) (N := some 33) #[I,I,I,I,I,I,I,I,I,I,I,I,I,I,I,I,I,I,O,O] rfl rfl (one_of HT_.out (by kernel_rfl)) (by decide) (fun K hK => ?_)
   obtain ⟨v2, st2, o3, o4, hm1, hm2, hm3⟩ := HJf.out.entry hb ha
   unfold encJ at hm1
   have HM2 := Aside0.mk hm2
   have HN2 := Aside0.mk hm3
   clear hm2 hm3
   refine value_ (w1 := wf.putObj (w.heap.size + 1) o3) (v := .tuple #[v2, (.int .i64 st2)]) (by rfl) rfl ?_ ?_
   ·go_simp
   clear hm1
   refine hK.out _ _ ?_
   clear hK K
   have BWg := Aside0.mk (BWf.out.move (w' := wf.putObj (w.heap.size + 1) o3) (putObj_other _ _ (by omega)))
   have B5g := Aside0.mk (B5f.out.move (w' := wf.putObj (w.heap.size + 1) o3) (putObj_other _ _ (by omega)))
   have HBg := Aside0.mk (HBf.out.grown (grownBy_putObj' wf (w.heap.size + 1) o3) HBf.out.size (fun k e => by cases e; omega))
   have hmsg : w.heap.size + 1 < (wf.putObj (w.heap.size + 1) o3).heap.size := by simpa using hmsf
   have hszg : g5 < (wf.putObj (w.heap.size + 1) o3).heap.size := by simpa using hszf
   have HO2 := Aside0.mk (show (wf.putObj (w.heap.size + 1) o3).heap[w.heap.size + 1]? = some o3 from World.putObj_heap_same hmsf)
   clear HJf BWf B5f HBf hmsf hszf
   generalize wf.putObj (w.heap.size + 1) o3 = wg at BWg B5g HBg hmsg hszg HO2 ⊢
   refine norm_ (by simp only [Act.put, sb0, sb1, sb2]; rfl) ?_
   refine pu_ 18 34 #[I,I,I,I,I,I,I,I,I,I,I,I,I,I,I,I,I,I,I,O] HT_ (h := ?_)
   refine last_ (i := 19) (N := none) #[I,I,I,I,I,I,I,I,I,I,I,I,I,I,I,I,I,I,I,I] rfl rfl (one_of HT_.out (by kernel_rfl)) (by decide) (fun K hK => ?_)
   have hm2 := HM2.out _ HO2.out
   refine skip_ (w1 := wg.putObj (w.heap.size + 1) o4) (by rfl) rfl ?_ ?_
   ·go_simp
   clear hm2
   refine hK.out _ _ ?_
   clear hK K
   have BWh := Aside0.mk (BWg.out.move (w' := wg.putObj (w.heap.size + 1) o4) (putObj_other _ _ (by omega)))
   have B5h := Aside0.mk (B5g.out.move (w' := wg.putObj (w.heap.size + 1) o4) (putObj_other _ _ (by omega)))
   have HBh := Aside0.mk (HBg.out.grown (grownBy_putObj' wg (w.heap.size + 1) o4) HBg.out.size (fun k e => by cases e; omega))
   have hmsh : w.heap.size + 1 < (wg.putObj (w.heap.size + 1) o4).heap.size := by simpa using hmsg
   have hszh : g5 < (wg.putObj (w.heap.size + 1) o4).heap.size := by simpa using hszg
   have HJh := Aside0.mk (HN2.out _ (show (wg.putObj (w.heap.size + 1) o4).heap[w.heap.size + 1]? = some o4 from World.putObj_heap_same hmsg))
   clear BWg B5g HBg hmsg hszg HO2 HM2 HN2
   generalize wg.putObj (w.heap.size + 1) o4 = wh at BWh B5h HBh hmsh hszh HJh ⊢
   refine done_ (done_of HT_.out (by kernel_rfl)) ?_
   go_wp2_with fail
   go_roundw
   case rel => exact ⟨k + 1, by omega, by go_num, HBh, BWh, ⟨by rw [HTK.out]; exact HJh.out.congr (fun x y _ _ => (jn_snoc _ a b x y).symm)⟩⟩
   case measure => simp [intOf]; omega
  ·obtain rfl : k = js.length := by omega
   rw [List.take_length] at HJ
   go_wp2_with fail
   go_ret
   exact ⟨rfl, ⟨BW.out, HJ.out⟩, HB.out⟩
end Go.Proofs.Ytiddkceahbnolaa
