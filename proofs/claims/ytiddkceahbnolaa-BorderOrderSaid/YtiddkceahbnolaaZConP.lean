/- border's connected, the plain part: what a search from street to street tells. -/
import Derived.Test.YtiddkceahbnolaaZWork
namespace Go.Proofs.Ytiddkceahbnolaa
set_option linter.all false
/-- y is reached from x within M. -/
inductive Con (f : Nat → Nat → Bool) (M : List Nat) : Nat → Nat → Prop
 | refl (x : Nat) : Con f M x x
 | step {x y z : Nat} : Con f M x y → z ∈ M → f y z = true → Con f M x z
theorem Con.trans {f : Nat → Nat → Bool} {M : List Nat} {x y z : Nat} (h : Con f M x y) (k : Con f M y z) : Con f M x z := by
 induction k with
 | refl => exact h
 | step _ hm hf ih => exact .step ih hm hf
theorem Con.symm {f : Nat → Nat → Bool} (hf : ∀ a b, f a b = f b a) {M : List Nat} {x y : Nat} (h : Con f M x y) (hx : x ∈ M) : Con f M y x := by
 have key : y ∈ M ∧ Con f M y x := by
  induction h with
  | refl => exact ⟨hx, .refl _⟩
  | @step y z _ hm hff ih => exact ⟨hm, (Con.step (.refl z) ih.1 (by rw [hf]; exact hff)).trans ih.2⟩
 exact key.2
theorem Con.perm {f : Nat → Nat → Bool} {M M' : List Nat} (e : ∀ x, x ∈ M ↔ x ∈ M') {x y : Nat} (h : Con f M x y) : Con f M' x y := by
 induction h with
 | refl => exact .refl _
 | step _ hm hf ih => exact .step ih ((e _).1 hm) hf
/-- The members are connected, and there is one. -/
def ConnL (f : Nat → Nat → Bool) (M : List Nat) : Prop := M ≠ [] ∧ ∀ x ∈ M, ∀ y ∈ M, Con f M x y
theorem ConnL.map {f g : Nat → Nat → Bool} {M M' : List Nat} (s : Nat → Nat) (hfg : ∀ x ∈ M, ∀ y ∈ M, g (s x) (s y) = f x y) (hM : ∀ y, y ∈ M' ↔ ∃ x ∈ M, y = s x) (h : ConnL f M) : ConnL g M' := by
 obtain ⟨h0, h1⟩ := h
 constructor
 ·intro e
  cases M with
  | nil => exact h0 rfl
  | cons a r =>
   have := (hM (s a)).2 ⟨a, List.mem_cons_self, rfl⟩
   rw [e] at this
   cases this
 ·intro x' hx' y' hy'
  obtain ⟨x, hx, rfl⟩ := (hM x').1 hx'
  obtain ⟨y, hy, rfl⟩ := (hM y').1 hy'
  have key : ∀ z, Con f M x z → z ∈ M ∧ Con g M' (s x) (s z) := by
   intro z hz
   induction hz with
   | refl => exact ⟨hx, .refl _⟩
   | @step y z _ hm hff ih => exact ⟨hm, .step ih.2 ((hM _).2 ⟨z, hm, rfl⟩) (by rw [hfg _ ih.1 _ hm]; exact hff)⟩
  exact (key y (h1 x hx y hy)).2
/-- A closed part that is not all shows that the members are not connected. -/
theorem not_connL {f : Nat → Nat → Bool} {M S : List Nat} {a b : Nat} (ha : a ∈ S) (haM : a ∈ M) (hb : b ∈ M) (hbS : b ∉ S) (hc : ∀ y ∈ S, ∀ z ∈ M, z ∉ S → f y z = false) : ¬ ConnL f M := by
 rintro ⟨_, h⟩
 have key : ∀ z, Con f M a z → z ∈ S := by
  intro z hz
  induction hz with
  | refl => exact ha
  | @step y z _ hm hff ih =>
   by_cases hzS : z ∈ S
   ·exact hzS
   ·rw [hc y ih z hm hzS] at hff
    cases hff
 exact hbS (key b (h a haM b hb))
theorem connL_of {f : Nat → Nat → Bool} (hf : ∀ a b, f a b = f b a) {M : List Nat} {a : Nat} (ha : a ∈ M) (h : ∀ x ∈ M, Con f M a x) : ConnL f M :=
 ⟨fun e => (by rw [e] at ha; cases ha), fun x hx y hy => ((h x hx).symm hf ha).trans (h y hy)⟩
/-- A search, with fuel: those in front, those that are left. -/
def growB (f : Nat → Nat → Bool) : Nat → List Nat → List Nat → Bool
 | _, [], rest => rest.isEmpty
 | 0, _ :: _, _ => false
 | n + 1, x :: fs, rest => growB f n (fs ++ rest.filter (fun z => f x z)) (rest.filter (fun z => !f x z))
def connB (f : Nat → Nat → Bool) : List Nat → Bool
 | [] => false
 | a :: r => growB f (r.length + 1) [a] r
theorem growB_iff {f : Nat → Nat → Bool} (hf : ∀ a b, f a b = f b a) {M : List Nat} {a : Nat} : ∀ (n : Nat) (D F R : List Nat), F.length + R.length ≤ n → (∀ x ∈ R, x ∉ D ++ F) → (∀ x, x ∈ D ++ F ++ R ↔ x ∈ M) → a ∈ D ++ F → (∀ x ∈ D ++ F, Con f M a x) → (∀ x ∈ D, ∀ z ∈ R, f x z = false) → (growB f n F R = true ↔ ConnL f M) := by
 intro n
 induction n with
 | zero =>
  intro D F R hl h0 h1 h2 h3 h4
  have eF : F = [] := List.length_eq_zero_iff.1 (by omega)
  have eR : R = [] := List.length_eq_zero_iff.1 (by omega)
  subst eF eR
  simp only [growB, List.isEmpty_nil, true_iff]
  simp only [List.append_nil] at h1 h2 h3
  exact connL_of hf ((h1 a).1 h2) (fun x hx => h3 x ((h1 x).2 hx))
 | succ n ih =>
  intro D F R hl h0 h1 h2 h3 h4
  cases F with
  | nil =>
   simp only [growB, List.isEmpty_iff]
   simp only [List.append_nil] at h0 h1 h2 h3
   constructor
   ·rintro rfl
    simp only [List.append_nil] at h1
    exact connL_of hf ((h1 a).1 h2) (fun x hx => h3 x ((h1 x).2 hx))
   ·intro hc
    cases R with
    | nil => rfl
    | cons b R =>
     exfalso
     refine not_connL (S := D) h2 ((h1 a).1 (List.mem_append_left _ h2)) ((h1 b).1 (List.mem_append_right _ List.mem_cons_self)) (fun hb => ?_) (fun y hy z hz hzS => ?_) hc
     ·exact h0 b List.mem_cons_self hb
     ·rcases List.mem_append.1 ((h1 z).2 hz) with h | h
      ·exact absurd h hzS
      ·exact h4 y hy z h
  | cons x F =>
   simp only [growB]
   have hlen : (R.filter (fun z => f x z)).length + (R.filter (fun z => !f x z)).length = R.length := by
    clear hl h0 h1 h2 h3 h4
    induction R with
    | nil => rfl
    | cons z R ihR =>
     by_cases h : f x z = true
     ·simp [List.filter_cons, h]; omega
     ·simp only [Bool.not_eq_true] at h
      simp [List.filter_cons, h]; omega
   have hmem : ∀ z, z ∈ (D ++ [x]) ++ (F ++ R.filter (fun z => f x z)) ++ R.filter (fun z => !f x z) ↔ z ∈ D ++ x :: F ++ R := by
    intro z
    simp only [List.mem_append, List.mem_cons, List.mem_filter, List.mem_nil_iff, or_false]
    cases hfx : f x z <;> simp [hfx] <;> grind
   refine ih (D ++ [x]) (F ++ R.filter (fun z => f x z)) (R.filter (fun z => !f x z)) ?_ ?_ (fun z => (hmem z).trans (h1 z)) ?_ ?_ ?_
   ·simp only [List.length_append, List.length_cons] at hl ⊢
    omega
   ·intro z hz
    have hz' := List.mem_filter.1 hz
    have h0z := h0 z hz'.1
    simp only [List.mem_append, List.mem_cons, List.mem_filter, List.mem_nil_iff, or_false] at h0z ⊢
    have hfz : f x z = false := by simpa using hz'.2
    rw [hfz]
    simp only [Bool.false_eq_true, and_false, or_false]
    grind
   ·simp only [List.mem_append, List.mem_cons, List.mem_nil_iff, or_false] at h2 ⊢
    grind
   ·intro z hz
    have hxc := h3 x (List.mem_append_right _ List.mem_cons_self)
    simp only [List.mem_append, List.mem_cons, List.mem_filter, List.mem_nil_iff, or_false] at hz
    rcases hz with (hz | hz) | hz | hz
    ·exact h3 z (List.mem_append_left _ hz)
    ·rw [hz]; exact hxc
    ·exact h3 z (List.mem_append_right _ (List.mem_cons_of_mem _ hz))
    ·exact .step hxc ((h1 z).1 (List.mem_append_right _ hz.1)) hz.2
   ·intro y hy z hz
    simp only [List.mem_append, List.mem_cons, List.mem_filter, List.mem_nil_iff, or_false] at hy hz
    rcases hy with hy | hy
    ·exact h4 y hy z hz.1
    ·rw [hy]
     simpa using hz.2
theorem connB_iff {f : Nat → Nat → Bool} (hf : ∀ a b, f a b = f b a) {M : List Nat} (hnd : M.Nodup) : connB f M = true ↔ ConnL f M := by
 cases M with
 | nil =>
  simp only [connB, Bool.false_eq_true, false_iff]
  exact fun h => h.1 rfl
 | cons a r =>
  rw [List.nodup_cons] at hnd
  unfold connB
  refine growB_iff hf _ [] [a] r (by simp; omega) (fun x hx => ?_) (fun x => by simp) (a := a) (by simp) (fun x hx => ?_) (fun x hx => by cases hx)
  ·simp only [List.nil_append, List.mem_singleton]
   rintro rfl
   exact hnd.1 hx
  ·simp only [List.nil_append, List.mem_singleton] at hx
   subst hx
   exact .refl _
/-! ### The search that moves those that are reached to the front -/
def swapL {α : Type} (xs : List α) (k r : Nat) (a b : α) : List α := (xs.set k a).set r b
structure Bfs (f : Nat → Nat → Bool) (ms xs : List Nat) (r nx : Nat) : Prop where
 mem : ∀ x, x ∈ xs ↔ x ∈ ms
 inj : ∀ i j, i < xs.length → j < xs.length → xs.getD i 0 = xs.getD j 0 → i = j
 len : xs.length = ms.length
 r1 : 1 ≤ r
 rl : r ≤ xs.length
 nr : nx ≤ r
 con : ∀ i (_ : i < r), Con f ms (xs.getD 0 0) (xs.getD i 0)
 done : ∀ i, i < nx → ∀ j, r ≤ j → j < xs.length → f (xs.getD i 0) (xs.getD j 0) = false
theorem getD_mem {xs : List Nat} {i : Nat} (h : i < xs.length) : xs.getD i 0 ∈ xs := by
 simp [List.getD, h]
theorem nodup_inj {xs : List Nat} (h : xs.Nodup) : ∀ i j, i < xs.length → j < xs.length → xs.getD i 0 = xs.getD j 0 → i = j := by
 intro i j hi hj e
 simp only [List.getD, List.getElem?_eq_getElem hi, List.getElem?_eq_getElem hj, Option.getD_some] at e
 have hp := List.pairwise_iff_getElem.1 h
 rcases Nat.lt_trichotomy i j with hl | hl | hl
 ·exact absurd e (hp i j hi hj hl)
 ·exact hl
 ·exact absurd e.symm (hp j i hj hi hl)
theorem Bfs.start {f : Nat → Nat → Bool} {ms : List Nat} (hnd : ms.Nodup) (h : 0 < ms.length) : Bfs f ms ms 1 0 where
 mem := fun _ => Iff.rfl
 inj := nodup_inj hnd
 len := rfl
 r1 := Nat.le_refl _
 rl := h
 nr := Nat.zero_le _
 con := fun i hi => by
  obtain rfl : i = 0 := by omega
  exact .refl _
 done := fun i hi => absurd hi (Nat.not_lt_zero _)
theorem Bfs.fin {f : Nat → Nat → Bool} (hf : ∀ a b, f a b = f b a) {ms xs : List Nat} {r : Nat} (h : Bfs f ms xs r r) : (decide (r = xs.length) = true) ↔ ConnL f ms := by
 have hl : 0 < xs.length := by have := h.r1; have := h.rl; omega
 have h0m : xs.getD 0 0 ∈ ms := (h.mem _).1 (getD_mem hl)
 rw [decide_eq_true_eq]
 constructor
 ·intro e
  refine connL_of hf h0m (fun x hx => ?_)
  obtain ⟨i, hi, hx'⟩ := List.getElem_of_mem ((h.mem x).2 hx)
  have := h.con i (by omega)
  simpa [List.getD, hi, hx'] using this
 ·intro hc
  by_cases e : r = xs.length
  ·exact e
  ·exfalso
   have hrl : r < xs.length := by have := h.rl; omega
   refine not_connL (S := xs.take r) (a := xs.getD 0 0) (b := xs.getD r 0) ?_ h0m ((h.mem _).1 (getD_mem hrl)) ?_ ?_ hc
   ·rw [List.mem_take_iff_getElem]
    exact ⟨0, by have := h.r1; omega, by simp [List.getD, hl]⟩
   ·intro hin
    rw [List.mem_take_iff_getElem] at hin
    obtain ⟨i, hi, e2⟩ := hin
    have hi' : i < xs.length := by omega
    have := h.inj i r hi' hrl (by simp only [List.getD, List.getElem?_eq_getElem hrl, List.getElem?_eq_getElem hi', Option.getD_some]; simpa [List.getD, hrl] using e2)
    omega
   ·intro y hy z hz hzS
    rw [List.mem_take_iff_getElem] at hy hzS
    obtain ⟨i, hi, rfl⟩ := hy
    obtain ⟨j, hj, rfl⟩ := List.getElem_of_mem ((h.mem z).2 hz)
    have hjr : r ≤ j := by
     refine Nat.le_of_not_lt (fun hlt => hzS ⟨j, by omega, rfl⟩)
    have hi' : i < xs.length := by omega
    have := h.done i (by omega) j hjr hj
    simpa [List.getD, hi', hj] using this
/-- In the inner search: those up to k are not joined to the one at nx. -/
structure BfsIn (f : Nat → Nat → Bool) (ms xs : List Nat) (r nx k : Nat) : Prop where
 b : Bfs f ms xs r nx
 lt : nx < r
 rk : r ≤ k
 kl : k ≤ xs.length
 no : ∀ j, r ≤ j → j < k → f (xs.getD nx 0) (xs.getD j 0) = false
theorem Bfs.enter {f : Nat → Nat → Bool} {ms xs : List Nat} {r nx : Nat} (h : Bfs f ms xs r nx) (hn : nx < r) : BfsIn f ms xs r nx r := ⟨h, hn, Nat.le_refl _, h.rl, fun j h1 h2 => by omega⟩
theorem BfsIn.leave {f : Nat → Nat → Bool} {ms xs : List Nat} {r nx : Nat} (h : BfsIn f ms xs r nx xs.length) : Bfs f ms xs r (nx + 1) :=
 ⟨h.b.mem, h.b.inj, h.b.len, h.b.r1, h.b.rl, h.lt, h.b.con, fun i hi j h1 h2 => by
  by_cases e : i = nx
  ·rw [e]; exact h.no j h1 h2
  ·exact h.b.done i (by omega) j h1 h2⟩
theorem BfsIn.pass {f : Nat → Nat → Bool} {ms xs : List Nat} {r nx k : Nat} (h : BfsIn f ms xs r nx k) (hk : k < xs.length) (hf : f (xs.getD nx 0) (xs.getD k 0) = false) : BfsIn f ms xs r nx (k + 1) :=
 ⟨h.b, h.lt, by have := h.rk; omega, by omega, fun j h1 h2 => by
  by_cases e : j = k
  ·rw [e]; exact hf
  ·exact h.no j h1 (by omega)⟩
theorem getD_swap (xs : List Nat) {k r : Nat} (hr : r < xs.length) (hk : k < xs.length) (i : Nat) (hi : i < xs.length) :
  (swapL xs k r (xs.getD r 0) (xs.getD k 0)).getD i 0 = if i = r then xs.getD k 0 else if i = k then xs.getD r 0 else xs.getD i 0 := by
 unfold swapL
 simp only [List.getD, List.getElem?_set, List.length_set]
 by_cases e1 : i = r
 ·subst e1; simp [hi, hk]
 ·rw [if_neg (fun h => e1 h.symm), if_neg e1]
  by_cases e2 : i = k
  ·subst e2; simp [hi, hr]
  ·rw [if_neg (fun h => e2 h.symm), if_neg e2]
theorem swap_len (xs : List Nat) (k r a b : Nat) : (swapL xs k r a b).length = xs.length := by simp [swapL]
theorem BfsIn.swap {f : Nat → Nat → Bool} {ms xs : List Nat} {r nx k : Nat} (h : BfsIn f ms xs r nx k) (hk : k < xs.length) (hf : f (xs.getD nx 0) (xs.getD k 0) = true) : BfsIn f ms (swapL xs k r (xs.getD r 0) (xs.getD k 0)) (r + 1) nx (k + 1) := by
 have hrk := h.rk
 have hr : r < xs.length := by omega
 have hg := fun i hi => getD_swap xs hr hk i hi
 have hr1 := h.b.r1
 have hnx := h.lt
 have hls := swap_len xs k r (xs.getD r 0) (xs.getD k 0)
 obtain ⟨S, hS⟩ : ∃ S, swapL xs k r (xs.getD r 0) (xs.getD k 0) = S := ⟨_, rfl⟩
 rw [hS] at hls ⊢
 simp only [hS] at hg
 have hmem : ∀ x, x ∈ S ↔ x ∈ xs := by
  intro x
  constructor
  ·intro hx
   obtain ⟨i, hi, rfl⟩ := List.getElem_of_mem hx
   have hi' := hi
   rw [hls] at hi'
   have e : S[i] = S.getD i 0 := by simp [List.getD, hi]
   rw [e, hg i hi']
   split
   ·exact getD_mem hk
   ·split
    ·exact getD_mem hr
    ·exact getD_mem hi'
  ·intro hx
   obtain ⟨i, hi, rfl⟩ := List.getElem_of_mem hx
   have e : xs[i] = xs.getD i 0 := by simp [List.getD, hi]
   have hSm : ∀ m, m < xs.length → S.getD m 0 ∈ S := fun m hm => getD_mem (by omega)
   rw [e]
   by_cases e1 : i = r
   ·have h1 := hg k hk
    by_cases e2 : k = r
    ·rw [if_pos e2] at h1
     rw [e1, ← e2, ← h1]; exact hSm k hk
    ·rw [if_neg e2, if_pos rfl] at h1
     rw [e1, ← h1]; exact hSm k hk
   ·by_cases e2 : i = k
    ·have h1 := hg r hr
     rw [if_pos rfl] at h1
     rw [e2, ← h1]; exact hSm r hr
    ·have h1 := hg i hi
     rw [if_neg e1, if_neg e2] at h1
     rw [← h1]; exact hSm i hi
 have h0 : S.getD 0 0 = xs.getD 0 0 := by rw [hg 0 (by omega), if_neg (by omega), if_neg (by omega)]
 have hn : S.getD nx 0 = xs.getD nx 0 := by rw [hg nx (by omega), if_neg (by omega), if_neg (by omega)]
 refine ⟨⟨fun x => (hmem x).trans (h.b.mem x), ?_, hls.trans h.b.len, by omega, by omega, by omega, fun i hi => ?_, fun i hi j h1 h2 => ?_⟩, by omega, by omega, by omega, fun j h1 h2 => ?_⟩
 ·intro i j hi hj e
  rw [hls] at hi hj
  rw [hg i hi, hg j hj] at e
  have hinj := h.b.inj
  split at e <;> split at e <;> (try split at e) <;> (try split at e) <;> first | omega | (have := hinj _ _ (by omega) (by omega) e; omega)
 ·rw [h0, hg i (by omega)]
  by_cases e : i = r
  ·rw [if_pos e]
   exact .step (h.b.con nx hnx) ((h.b.mem _).1 (getD_mem hk)) hf
  ·rw [if_neg e, if_neg (by omega)]
   exact h.b.con i (by omega)
 ·rw [hls] at h2
  rw [hg i (by omega), if_neg (by omega), if_neg (by omega), hg j h2, if_neg (by omega)]
  split
  ·exact h.b.done i hi r (Nat.le_refl _) hr
  ·exact h.b.done i hi j (by omega) h2
 ·rw [hn, hg j (by omega), if_neg (by omega)]
  split
  ·exact h.no r (Nat.le_refl _) (by omega)
  ·exact h.no j (by omega) (by omega)
end Go.Proofs.Ytiddkceahbnolaa
