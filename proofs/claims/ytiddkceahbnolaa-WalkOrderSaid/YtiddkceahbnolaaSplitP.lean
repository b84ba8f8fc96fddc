/- In how few sets the places go, as a plain function: what walk's 'divide' computes. -/
import Derived.Test.YtiddkceahbnolaaNext
namespace Go.Proofs.Ytiddkceahbnolaa
open Go.RowKit Go.Proofs.Ytiddkceahbnolaa.PWalkOrder Go.Proofs.YtiddkceahbnolaaW.PrintWords
set_option linter.unusedVariables false
set_option linter.unusedSimpArgs false

def upd {α : Type} (c : Nat → α) (i : Nat) (v : α) : Nat → α := fun n => if n = i then v else c n
theorem upd_same {α : Type} (c : Nat → α) (i : Nat) (v : α) : upd c i v i = v := by simp [upd]
theorem upd_other {α : Type} (c : Nat → α) (i j : Nat) (v : α) (h : j ≠ i) : upd c i v j = c j := by simp [upd, h]

/-- The first unsettled place below k with the smallest time; -1: none. -/
def pickTo (st : Nat → Bool) (c : Nat → Int) : Nat → Int
 | 0 => -1
 | k + 1 => if st k = false ∧ (pickTo st c k < 0 ∨ c k < c (pickTo st c k).toNat) then (k : Int) else pickTo st c k

theorem pickTo_range (st : Nat → Bool) (c : Nat → Int) (k : Nat) : pickTo st c k = -1 ∧ (∀ j, j < k → st j = true) ∨ ∃ p : Nat, pickTo st c k = (p : Int) ∧ p < k ∧ st p = false := by
 induction k with
 | zero => exact .inl ⟨rfl, fun j hj => absurd hj (Nat.not_lt_zero _)⟩
 | succ k ih =>
  unfold pickTo
  by_cases h : st k = false ∧ (pickTo st c k < 0 ∨ c k < c (pickTo st c k).toNat)
  ·rw [if_pos h]
   exact .inr ⟨k, rfl, by omega, h.1⟩
  ·rw [if_neg h]
   rcases ih with ⟨h1, h2⟩ | ⟨p, h1, h2, h3⟩
   ·refine .inl ⟨h1, fun j hj => ?_⟩
    rcases Nat.lt_succ_iff_lt_or_eq.1 hj with h' | h'
    ·exact h2 j h'
    ·subst h'
     cases hs : st j with
     | true => rfl
     | false => exact absurd ⟨hs, .inl (by omega)⟩ h
   ·exact .inr ⟨p, h1, by omega, h3⟩

theorem pick_skip {st : Nat → Bool} {c : Nat → Int} {k : Nat} (h : st k = true) : pickTo st c (k + 1) = pickTo st c k := by
 rw [pickTo, if_neg (fun x => by rw [h] at x; cases x.1)]
theorem pick_far {st : Nat → Bool} {c : Nat → Int} {k p : Nat} (hp : pickTo st c k = (p : Int)) (h : ¬ c k < c p) : pickTo st c (k + 1) = pickTo st c k := by
 rw [pickTo, if_neg]
 rintro ⟨_, x⟩
 rw [hp, Int.toNat_natCast] at x
 rcases x with x | x
 ·omega
 ·exact h x
theorem pick_less {st : Nat → Bool} {c : Nat → Int} {k p : Nat} (hs : st k = false) (hp : pickTo st c k = (p : Int)) (h : c k < c p) : pickTo st c (k + 1) = (k : Int) := by
 rw [pickTo, if_pos ⟨hs, .inr (by rw [hp, Int.toNat_natCast]; exact h)⟩]
theorem pick_first {st : Nat → Bool} {c : Nat → Int} {k : Nat} (hs : st k = false) (hp : pickTo st c k = -1) : pickTo st c (k + 1) = (k : Int) := by
 rw [pickTo, if_pos ⟨hs, .inl (by omega)⟩]

/-- One road out of place p, taken into a goal's times and first places. -/
def relax (p : Nat) (s : (Nat → Int) × (Nat → Int)) (x : Int × Int) : (Nat → Int) × (Nat → Int) :=
 if s.1 p + x.2 < s.1 x.1.toNat then (upd s.1 x.1.toNat (s.1 p + x.2), upd s.2 x.1.toNat (p : Int)) else s

structure Col where
 st : Nat → Bool
 c : Nat → Int
 f : Nat → Int

def colStep (R : List S94) (N : Nat) (s : Col) : Col :=
 let p := (pickTo s.st s.c N).toNat
 let cf := (nbrs R (p : Int)).foldl (relax p) (s.c, s.f)
 ⟨upd s.st p true, cf.1, cf.2⟩

def colInit (N g : Nat) : Col :=
 ⟨fun _ => false, fun n => if n = g then 0 else if n < N then 1048576 else 0, fun n => if n = g then (g : Int) else 0⟩

def colAt (R : List S94) (N g : Nat) : Nat → Col
 | 0 => colInit N g
 | i + 1 => colStep R N (colAt R N g i)

/-- The longest time of a quickest way from n to goal g; the place that it goes to first. -/
def tm (R : List S94) (N n g : Nat) : Int := if g < N then (colAt R N g N).c n else 0
def fs (R : List S94) (N n g : Nat) : Int := if g < N then (colAt R N g N).f n else 0

/-- What CheckMap says of each road. -/
structure RoadOk (N : Nat) (r : S94) : Prop where
 a0 : 0 ≤ r.f0
 a1 : r.f0 < N
 b0 : 0 ≤ r.f1
 b1 : r.f1 < N
 ne : r.f0 ≠ r.f1
 lo : 1 ≤ r.f2.f0
 le : r.f2.f0 ≤ r.f2.f1
 hi : r.f2.f1 ≤ 50

theorem nbr_ok {N : Nat} {n : Int} {r : S94} (h : RoadOk N r) {x : Int × Int} (hx : nbr n r = some x) : 0 ≤ x.1 ∧ x.1 < N ∧ x.1 ≠ n ∧ 1 ≤ x.2 ∧ x.2 ≤ 50 := by
 unfold nbr at hx
 have h1 := h.a0; have h2 := h.a1; have h3 := h.b0; have h4 := h.b1; have h5 := h.ne; have h6 := h.lo; have h7 := h.le; have h8 := h.hi
 by_cases p0 : n = r.f0
 ·rw [if_pos p0, if_pos h3] at hx
  obtain rfl := Option.some.inj hx
  subst p0
  exact ⟨h3, h4, fun e => h5 e.symm, by simp only; omega, h8⟩
 ·rw [if_neg p0] at hx
  by_cases p1 : n = r.f1
  ·rw [if_pos p1, if_pos h1] at hx
   obtain rfl := Option.some.inj hx
   subst p1
   exact ⟨h1, h2, h5, by simp only; omega, h8⟩
  ·rw [if_neg p1] at hx
   cases hx

theorem nbrs_ok {N : Nat} {n : Int} {R : List S94} (h : ∀ r ∈ R, RoadOk N r) : ∀ x ∈ nbrs R n, 0 ≤ x.1 ∧ x.1 < N ∧ x.1 ≠ n ∧ 1 ≤ x.2 ∧ x.2 ≤ 50 := by
 intro x hx
 obtain ⟨r, hr, he⟩ := List.mem_filterMap.1 hx
 exact nbr_ok (h r hr) he

/-- Bounds of a goal's times: none below 0, none above far. -/
def Bounded (c : Nat → Int) : Prop := ∀ n, 0 ≤ c n ∧ c n ≤ 1048576
theorem relax_bounded {p : Nat} {s : (Nat → Int) × (Nat → Int)} {x : Int × Int} (hs : Bounded s.1) (hx : 1 ≤ x.2) : Bounded (relax p s x).1 := by
 intro n
 unfold relax
 by_cases h : s.1 p + x.2 < s.1 x.1.toNat
 ·rw [if_pos h]
  simp only [upd]
  by_cases e : n = x.1.toNat
  ·rw [if_pos e]
   have h1 := hs p
   have h2 := hs x.1.toNat
   omega
  ·rw [if_neg e]
   exact hs n
 ·rw [if_neg h]
  exact hs n
theorem colInit_bounded (N g : Nat) : Bounded (colInit N g).c := by
 intro n
 simp only [colInit]
 by_cases h : n = g
 ·rw [if_pos h]; omega
 ·rw [if_neg h]
  by_cases h' : n < N
  ·rw [if_pos h']; omega
  ·rw [if_neg h']; omega
theorem foldl_bounded {p : Nat} (l : List (Int × Int)) : ∀ (s : (Nat → Int) × (Nat → Int)), Bounded s.1 → (∀ x ∈ l, 1 ≤ x.2) → Bounded (l.foldl (relax p) s).1 := by
 induction l with
 | nil => exact fun s hs _ => hs
 | cons x l ih =>
  intro s hs hl
  rw [List.foldl_cons]
  exact ih _ (relax_bounded hs (hl x List.mem_cons_self)) (fun y hy => hl y (List.mem_cons_of_mem _ hy))
theorem colAt_bounded {R : List S94} {N : Nat} (hR : ∀ r ∈ R, RoadOk N r) (g i : Nat) : Bounded (colAt R N g i).c := by
 induction i with
 | zero => exact colInit_bounded N g
 | succ i ih =>
  simp only [colAt, colStep]
  exact foldl_bounded _ _ ih (fun x hx => (nbrs_ok hR x hx).2.2.2.1)

/-- How many places are not settled yet. -/
def open_ (st : Nat → Bool) (N : Nat) : Nat := ((List.range N).filter fun n => !st n).length
theorem open_step (st : Nat → Bool) (N p : Nat) (hp : p < N) (hs : st p = false) : open_ (upd st p true) N + 1 = open_ st N := by
 unfold open_
 induction N with
 | zero => omega
 | succ N ih =>
  rw [List.range_succ, List.filter_append, List.filter_append, List.length_append, List.length_append]
  by_cases e : p = N
  ·subst e
   have h1 : (List.range p).filter (fun n => !upd st p true n) = (List.range p).filter (fun n => !st n) := by
    apply List.filter_congr
    intro x hx
    rw [upd_other _ _ _ _ (by have := List.mem_range.1 hx; omega)]
   rw [h1]
   simp [upd_same, hs]
  ·have := ih (by omega)
   have h2 : (upd st p true) N = st N := upd_other _ _ _ _ (by omega)
   have h3 : (List.filter (fun n => !upd st p true n) [N]).length = (List.filter (fun n => !st n) [N]).length := by
    simp only [List.filter_cons, List.filter_nil, h2]
   omega
theorem open_pos (st : Nat → Bool) (N : Nat) (h : ∀ j, j < N → st j = true) : open_ st N = 0 := by
 unfold open_
 rw [List.length_eq_zero_iff, List.filter_eq_nil_iff]
 intro a ha
 simp [h a (List.mem_range.1 ha)]
theorem open_all (N : Nat) : open_ (fun _ => false) N = N := by
 unfold open_
 rw [List.filter_eq_self.2 (by intros; rfl), List.length_range]
theorem colAt_open (R : List S94) (N g : Nat) : ∀ i, i ≤ N → open_ (colAt R N g i).st N = N - i
 | 0, _ => open_all N
 | i + 1, h => by
  have ih := colAt_open R N g i (by omega)
  rcases pickTo_range (colAt R N g i).st (colAt R N g i).c N with ⟨h1, h2⟩ | ⟨p, h1, h2, h3⟩
  ·have := open_pos _ N h2
   omega
  ·have := open_step _ N p h2 h3
   simp only [colAt, colStep]
   rw [h1, Int.toNat_natCast]
   omega
theorem colAt_pick (R : List S94) (N g i : Nat) (hi : i < N) : ∃ p : Nat, pickTo (colAt R N g i).st (colAt R N g i).c N = (p : Int) ∧ p < N ∧ (colAt R N g i).st p = false := by
 rcases pickTo_range (colAt R N g i).st (colAt R N g i).c N with ⟨h1, h2⟩ | h
 ·have h3 := open_pos _ N h2
  have h4 := colAt_open R N g i (by omega)
  omega
 ·exact h
end Go.Proofs.Ytiddkceahbnolaa

namespace Go.Proofs.Ytiddkceahbnolaa
open Go.RowKit Go.Proofs.Ytiddkceahbnolaa.PWalkOrder Go.Proofs.YtiddkceahbnolaaW.PrintWords
set_option linter.unusedVariables false
set_option linter.unusedSimpArgs false

/-- The places of a set, and a set without a place. -/
def places (s : Nat) : List Nat := (List.range 8).filter (fun n => s.testBit n)
def dropBit (s n : Nat) : Nat := if s.testBit n then s - 2 ^ n else s
theorem list_all : ∀ s : Fin 256, walk_set_list.f 9 (s.1 : Int) = some ((places s.1).map (fun n : Nat => (n : Int))) := by decide +kernel
theorem drop_all : ∀ s : Fin 256, ∀ n : Fin 8, Go.bits .andNot .i64 (s.1 : Int) (wrap64 (2 ^ n.1)) = (dropBit s.1 n.1 : Int) := by decide +kernel
theorem list_ok {s : Nat} (h : s < 256) : walk_set_list.f 9 (s : Int) = some ((places s).map (fun n : Nat => (n : Int))) := list_all ⟨s, h⟩
theorem drop_ok {s n : Nat} (h : s < 256) (hn : n < 8) : Go.bits .andNot .i64 (s : Int) (wrap64 (2 ^ n)) = (dropBit s n : Int) := drop_all ⟨s, h⟩ ⟨n, hn⟩
theorem places_mem {s n : Nat} : n ∈ places s ↔ n < 8 ∧ s.testBit n = true := by
 unfold places
 rw [List.mem_filter, List.mem_range]
theorem places_len (s : Nat) : (places s).length ≤ 8 := by
 have := List.length_filter_le (fun n => s.testBit n) (List.range 8)
 rwa [List.length_range] at this
theorem drop_lt {s n : Nat} (h : n ∈ places s) : dropBit s n < s := by
 have hb := (places_mem.1 h).2
 unfold dropBit
 rw [if_pos hb]
 have h1 : 0 < 2 ^ n := Nat.two_pow_pos n
 have h2 : s ≠ 0 := by
  rintro rfl
  simp at hb
 omega
theorem drop_le (s n : Nat) : dropBit s n ≤ s := by
 unfold dropBit
 split
 ·exact Nat.sub_le _ _
 ·exact Nat.le_refl _

/-- One place more, looked at as the next one. -/
def legStep (T : Nat → Nat → Int) (g : Nat → Nat → Int × Int) (at_ left : Nat) (best : Int × Int) (n : Nat) : Int × Int :=
 if T at_ n + (g n (dropBit left n)).1 < best.1 then (T at_ n + (g n (dropBit left n)).1, (n : Int)) else best
def restF (T : Nat → Nat → Int) : Nat → Nat → Nat → Int × Int
 | 0, at_, _ => (T at_ 0, 0)
 | f + 1, at_, left => if left = 0 then (T at_ 0, 0) else (places left).foldl (legStep T (restF T f) at_ left) (1048576, -1)
def rest (T : Nat → Nat → Int) (at_ left : Nat) : Int × Int := restF T left at_ left

theorem foldl_congr {α β : Type} {f g : β → α → β} (l : List α) : ∀ (b : β), (∀ b x, x ∈ l → f b x = g b x) → l.foldl f b = l.foldl g b := by
 induction l with
 | nil => intros; rfl
 | cons x l ih =>
  intro b h
  rw [List.foldl_cons, List.foldl_cons, h b x List.mem_cons_self]
  exact ih _ (fun b y hy => h b y (List.mem_cons_of_mem _ hy))
theorem restF_fuel (T : Nat → Nat → Int) : ∀ (f g at_ left : Nat), left ≤ f → left ≤ g → restF T f at_ left = restF T g at_ left
 | 0, 0, _, _, _, _ => rfl
 | 0, g + 1, at_, left, h, _ => by
  obtain rfl : left = 0 := by omega
  simp [restF]
 | f + 1, 0, at_, left, _, h => by
  obtain rfl : left = 0 := by omega
  simp [restF]
 | f + 1, g + 1, at_, left, h, h' => by
  unfold restF
  by_cases e : left = 0
  ·rw [if_pos e, if_pos e]
  ·rw [if_neg e, if_neg e]
   refine foldl_congr _ _ (fun b n hn => ?_)
   unfold legStep
   have := drop_lt hn
   rw [restF_fuel T f g n (dropBit left n) (by omega) (by omega)]
theorem rest_zero (T : Nat → Nat → Int) (at_ : Nat) : rest T at_ 0 = (T at_ 0, 0) := rfl
theorem rest_pos (T : Nat → Nat → Int) (at_ left : Nat) (h : left ≠ 0) : rest T at_ left = (places left).foldl (legStep T (rest T) at_ left) (1048576, -1) := by
 obtain ⟨f, rfl⟩ : ∃ f, left = f + 1 := ⟨left - 1, by omega⟩
 unfold rest
 rw [restF, if_neg h]
 refine foldl_congr _ _ (fun b n hn => ?_)
 unfold legStep
 have := drop_lt hn
 rw [restF_fuel T f (dropBit (f + 1) n) n (dropBit (f + 1) n) (by omega) (Nat.le_refl _)]

def Bounded2 (T : Nat → Nat → Int) : Prop := ∀ i j, 0 ≤ T i j ∧ T i j ≤ 1048576
/-- What a best leg is: its time is within bounds; below far it goes to a place of those. -/
def LegOk (T : Nat → Nat → Int) (at_ left : Nat) (l : List Nat) (b : Int × Int) : Prop :=
 0 ≤ b.1 ∧ b.1 ≤ 1048576 ∧ (b.1 < 1048576 → ∃ n, n ∈ l ∧ b.2 = (n : Int) ∧ T at_ n + (rest T n (dropBit left n)).1 = b.1)
theorem legFold_ok {T : Nat → Nat → Int} (hT : Bounded2 T) (at_ left : Nat) (hr : ∀ n, n ∈ places left → 0 ≤ (rest T n (dropBit left n)).1) : ∀ (l pre : List Nat) (b : Int × Int), (∀ n, n ∈ l → n ∈ places left) → LegOk T at_ left pre b → LegOk T at_ left (pre ++ l) (l.foldl (legStep T (rest T) at_ left) b)
 | [], pre, b, _, h => by simpa using h
 | n :: l, pre, b, hl, h => by
  rw [List.foldl_cons, show pre ++ n :: l = (pre ++ [n]) ++ l by simp]
  refine legFold_ok hT at_ left hr l (pre ++ [n]) _ (fun m hm => hl m (List.mem_cons_of_mem _ hm)) ?_
  unfold legStep
  obtain ⟨h1, h2, h3⟩ := h
  have h4 := hr n (hl n List.mem_cons_self)
  have h5 := hT at_ n
  by_cases e : T at_ n + (rest T n (dropBit left n)).1 < b.1
  ·rw [if_pos e]
   exact ⟨by simp only; omega, by simp only; omega, fun _ => ⟨n, by simp, rfl, rfl⟩⟩
  ·rw [if_neg e]
   refine ⟨h1, h2, fun h => ?_⟩
   obtain ⟨m, hm, hm2⟩ := h3 h
   exact ⟨m, by simp [hm], hm2⟩
theorem rest_ok {T : Nat → Nat → Int} (hT : Bounded2 T) : ∀ (k left at_ : Nat), left ≤ k → 0 ≤ (rest T at_ left).1 ∧ (rest T at_ left).1 ≤ 1048576
 | 0, left, at_, h => by
  obtain rfl : left = 0 := by omega
  exact hT at_ 0
 | k + 1, left, at_, h => by
  by_cases e : left = 0
  ·subst e; exact hT at_ 0
  ·rw [rest_pos T at_ left e]
   have := legFold_ok hT at_ left (fun n hn => (rest_ok hT k _ n (by have := drop_lt hn; omega)).1) (places left) [] (1048576, -1) (fun _ h => h) ⟨by simp only; omega, by simp only; omega, fun h => by simp at h⟩
   exact ⟨this.1, this.2.1⟩
theorem rest_bound {T : Nat → Nat → Int} (hT : Bounded2 T) (at_ left : Nat) : 0 ≤ (rest T at_ left).1 ∧ (rest T at_ left).1 ≤ 1048576 := rest_ok hT left left at_ (Nat.le_refl _)
theorem rest_next {T : Nat → Nat → Int} (hT : Bounded2 T) (at_ left : Nat) (h0 : left ≠ 0) (h : (rest T at_ left).1 < 1048576) : ∃ n, n ∈ places left ∧ (rest T at_ left).2 = (n : Int) ∧ T at_ n + (rest T n (dropBit left n)).1 = (rest T at_ left).1 := by
 have := legFold_ok hT at_ left (fun n hn => (rest_bound hT n _).1) (places left) [] (1048576, -1) (fun _ h => h) ⟨by simp only; omega, by simp only; omega, fun h => by simp at h⟩
 rw [← rest_pos T at_ left h0] at this
 simpa using this.2.2 h
/-- The best leg among the first k places. -/
def legAt (T : Nat → Nat → Int) (at_ left k : Nat) : Int × Int := ((places left).take k).foldl (legStep T (rest T) at_ left) (1048576, -1)
theorem legAt_succ (T : Nat → Nat → Int) (at_ left k : Nat) (h : k < (places left).length) : legAt T at_ left (k + 1) = legStep T (rest T) at_ left (legAt T at_ left k) ((places left)[k]) := by
 unfold legAt
 rw [List.take_succ_eq_append_getElem h, List.foldl_append]
 rfl
theorem legAt_all (T : Nat → Nat → Int) (at_ left : Nat) (h : left ≠ 0) : legAt T at_ left (places left).length = rest T at_ left := by
 unfold legAt
 rw [List.take_length, rest_pos T at_ left h]
theorem legAt_bound {T : Nat → Nat → Int} (hT : Bounded2 T) (at_ left k : Nat) : 0 ≤ (legAt T at_ left k).1 ∧ (legAt T at_ left k).1 ≤ 1048576 := by
 have := legFold_ok hT at_ left (fun n hn => (rest_bound hT n _).1) ((places left).take k) [] (1048576, -1) (fun _ h => List.mem_of_mem_take h) ⟨by simp only; omega, by simp only; omega, fun h => by simp at h⟩
 exact ⟨this.1, this.2.1⟩
theorem tm_bounded {R : List S94} {N : Nat} (hR : ∀ r ∈ R, RoadOk N r) : Bounded2 (tm R N) := by
 intro i j
 unfold tm
 by_cases h : j < N
 ·rw [if_pos h]
  exact colAt_bounded hR j N i
 ·rw [if_neg h]
  omega
end Go.Proofs.Ytiddkceahbnolaa

namespace Go.Proofs.Ytiddkceahbnolaa
open Go.RowKit Go.Proofs.Ytiddkceahbnolaa.PWalkOrder Go.Proofs.YtiddkceahbnolaaW.PrintWords
set_option linter.unusedVariables false

/-- The lowest bit of a set. -/
def lowB (s : Nat) : Nat := s &&& (256 - s)
theorem low_all : ∀ s : Fin 256, Go.bits .and .i64 (s.1 : Int) (-(s.1 : Int)) = (lowB s.1 : Int) := by decide +kernel
theorem and_all : ∀ s p : Fin 256, Go.bits .and .i64 (p.1 : Int) (s.1 : Int) = ((p.1 &&& s.1 : Nat) : Int) := by decide +kernel
theorem not_all : ∀ s p : Fin 256, p.1 &&& s.1 = p.1 → Go.bits .andNot .i64 (s.1 : Int) (p.1 : Int) = ((s.1 - p.1 : Nat) : Int) ∧ p.1 ≤ s.1 := by decide +kernel
theorem low_ok {s : Nat} (h : s < 256) : Go.bits .and .i64 (s : Int) (-(s : Int)) = (lowB s : Int) := low_all ⟨s, h⟩
theorem and_ok {s p : Nat} (h : s < 256) (hp : p < 256) : Go.bits .and .i64 (p : Int) (s : Int) = ((p &&& s : Nat) : Int) := and_all ⟨s, h⟩ ⟨p, hp⟩
theorem not_ok {s p : Nat} (h : s < 256) (hp : p < 256) (hs : p &&& s = p) : Go.bits .andNot .i64 (s : Int) (p : Int) = ((s - p : Nat) : Int) ∧ p ≤ s := not_all ⟨s, h⟩ ⟨p, hp⟩ hs
theorem low_lt {s : Nat} (h : s < 256) : lowB s < 256 := Nat.lt_of_le_of_lt Nat.and_le_left h
theorem sub_and (p s : Nat) : (p &&& s) &&& s = p &&& s := by rw [Nat.and_assoc, Nat.and_self]

section
variable (bad : Nat → Bool)
/-- One part, looked at as the last set: what is best so far. -/
def splitStep (g : Nat → Option Nat) (s first part : Nat) (b : Option Nat) : Option Nat :=
 if part &&& first = 0 ∨ bad part = true then b
 else if s ≠ part ∧ g (s - part) = none then b
 else match b with
  | none => some ((g (s - part)).getD 0 + 1)
  | some n => if (g (s - part)).getD 0 + 1 < n then some ((g (s - part)).getD 0 + 1) else some n
def splitLoop (g : Nat → Option Nat) (s first : Nat) : Nat → Nat → Option Nat → Option Nat
 | 0, _, b => b
 | f + 1, part, b => if part = 0 then b else splitLoop g s first f ((part - 1) &&& s) (splitStep bad g s first part b)
def splitN : Nat → Nat → Option Nat
 | 0, _ => none
 | f + 1, s => if s = 0 then none else splitLoop bad (splitN f) s (lowB s) s s none
def split (s : Nat) : Option Nat := splitN bad s s

theorem splitLoop_congr {g h : Nat → Option Nat} (s first : Nat) (hg : ∀ t, t < s → g t = h t) : ∀ (f part : Nat) (b : Option Nat), part ≤ s → splitLoop bad g s first f part b = splitLoop bad h s first f part b
 | 0, _, _, _ => rfl
 | f + 1, part, b, hp => by
  unfold splitLoop
  by_cases e : part = 0
  ·rw [if_pos e, if_pos e]
  ·rw [if_neg e, if_neg e]
   have : splitStep bad g s first part b = splitStep bad h s first part b := by
    unfold splitStep
    rw [hg (s - part) (by omega)]
   rw [this]
   exact splitLoop_congr s first hg f _ _ (Nat.le_trans Nat.and_le_left (by omega))
theorem splitN_fuel : ∀ (f g s : Nat), s ≤ f → s ≤ g → splitN bad f s = splitN bad g s
 | 0, 0, _, _, _ => rfl
 | 0, g + 1, s, h, _ => by
  obtain rfl : s = 0 := by omega
  simp [splitN]
 | f + 1, 0, s, _, h => by
  obtain rfl : s = 0 := by omega
  simp [splitN]
 | f + 1, g + 1, s, h, h' => by
  unfold splitN
  by_cases e : s = 0
  ·rw [if_pos e, if_pos e]
  ·rw [if_neg e, if_neg e]
   exact splitLoop_congr bad s _ (fun t ht => splitN_fuel f g t (by omega) (by omega)) _ _ _ (Nat.le_refl _)
theorem split_zero : split bad 0 = none := rfl
theorem split_pos (s : Nat) (h : s ≠ 0) : split bad s = splitLoop bad (split bad) s (lowB s) s s none := by
 obtain ⟨f, rfl⟩ : ∃ f, s = f + 1 := ⟨s - 1, by omega⟩
 unfold split
 rw [splitN, if_neg h]
 exact splitLoop_congr bad _ _ (fun t ht => splitN_fuel bad f t t (by omega) (Nat.le_refl _)) _ _ _ (Nat.le_refl _)
/-- What is still to come from a part on. -/
theorem splitLoop_zero (g : Nat → Option Nat) (s first f : Nat) (b : Option Nat) : splitLoop bad g s first f 0 b = b := by
 cases f with
 | zero => rfl
 | succ f => rw [splitLoop, if_pos rfl]
theorem splitLoop_fuel (g : Nat → Option Nat) (s first : Nat) : ∀ (f f' part : Nat) (b : Option Nat), part ≤ f → part ≤ f' → splitLoop bad g s first f part b = splitLoop bad g s first f' part b
 | 0, f', part, b, h, _ => by
  obtain rfl : part = 0 := by omega
  rw [splitLoop_zero, splitLoop_zero]
 | f + 1, 0, part, b, _, h => by
  obtain rfl : part = 0 := by omega
  rw [splitLoop_zero, splitLoop_zero]
 | f + 1, f' + 1, part, b, h, h' => by
  unfold splitLoop
  by_cases e : part = 0
  ·rw [if_pos e, if_pos e]
  ·rw [if_neg e, if_neg e]
   have hle : (part - 1) &&& s ≤ part - 1 := Nat.and_le_left
   exact splitLoop_fuel g s first f f' _ _ (by omega) (by omega)
theorem splitLoop_step (g : Nat → Option Nat) (s first part : Nat) (b : Option Nat) (h : part ≠ 0) : splitLoop bad g s first part part b = splitLoop bad g s first ((part - 1) &&& s) ((part - 1) &&& s) (splitStep bad g s first part b) := by
 obtain ⟨f, rfl⟩ : ∃ f, part = f + 1 := ⟨part - 1, by omega⟩
 have hle : (f + 1 - 1) &&& s ≤ f + 1 - 1 := Nat.and_le_left
 rw [splitLoop, if_neg h]
 exact splitLoop_fuel bad g s first f _ _ _ (by omega) (Nat.le_refl _)
end
theorem split_len (bad : Nat → Bool) : ∀ (k s : Nat), s ≤ k → ∀ n, split bad s = some n → 1 ≤ n ∧ n ≤ s := by
 intro k
 induction k with
 | zero =>
  intro s h n e
  obtain rfl : s = 0 := by omega
  rw [split_zero] at e
  cases e
 | succ k ih =>
  intro s h n e
  by_cases hs : s = 0
  ·subst hs; rw [split_zero] at e; cases e
  ·rw [split_pos bad s hs] at e
   have key : ∀ (f part : Nat) (b : Option Nat), part ≤ s → (∀ m, b = some m → 1 ≤ m ∧ m ≤ s) → ∀ m, splitLoop bad (split bad) s (lowB s) f part b = some m → 1 ≤ m ∧ m ≤ s := by
    intro f
    induction f with
    | zero => exact fun part b _ hb m hm => hb m hm
    | succ f ihf =>
     intro part b hp hb m hm
     unfold splitLoop at hm
     by_cases e0 : part = 0
     ·rw [if_pos e0] at hm; exact hb m hm
     ·rw [if_neg e0] at hm
      refine ihf _ _ (Nat.le_trans Nat.and_le_left (by omega)) ?_ m hm
      intro m' hm'
      unfold splitStep at hm'
      have hg : (split bad (s - part)).getD 0 + 1 ≤ s := by
       cases hq : split bad (s - part) with
       | none => simp; omega
       | some q =>
        have := ih (s - part) (by omega) q hq
        simp
        omega
      split at hm'
      ·exact hb m' hm'
      ·split at hm'
       ·exact hb m' hm'
       ·split at hm'
        ·obtain rfl := Option.some.inj hm'
         exact ⟨by omega, hg⟩
        ·next n' =>
         split at hm'
         ·obtain rfl := Option.some.inj hm'
          exact ⟨by omega, hg⟩
         ·exact hb m' hm'
   exact key _ _ _ (Nat.le_refl _) (fun m hm => by cases hm) n e
end Go.Proofs.Ytiddkceahbnolaa
