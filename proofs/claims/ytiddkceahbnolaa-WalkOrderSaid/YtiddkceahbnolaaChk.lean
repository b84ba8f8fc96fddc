/- walk's road, roads, CheckMap: what they answer of a map's ranges and roads. -/
import Derived.Test.YtiddkceahbnolaaPWalkOrderx4
namespace Go.Proofs.Ytiddkceahbnolaa
open Go.RowKit Go.Proofs.Ytiddkceahbnolaa.PWalkOrder Go.Proofs.YtiddkceahbnolaaW.PrintWords
set_option linter.unusedVariables false
set_option linter.unusedSimpArgs false

theorem sb0 {α : Type} {l : List α} {i : Nat} {a : α} : l.toArray.setIfInBounds i a = (l.set i a).toArray := by simp
theorem sb1 {α : Type} {x a : α} {l : List α} : (x :: l).set 0 a = a :: l := rfl
theorem sb2 {α : Type} {x a : α} {l : List α} {n : Nat} : (x :: l).set (n + 1) a = x :: l.set n a := rfl
theorem sb3 {α : Type} {x : α} {l : List α} : (x :: l)[0]? = some x := rfl
theorem sb4 {α : Type} {x : α} {l : List α} {n : Nat} : (x :: l)[n + 1]? = l[n]? := rfl
/-- A call of function g behind which all that was there is as it was, and which answers the bool b. -/
def Bcall (g : Nat) (args : Array Value) (b : Bool) (w : World) : Prop :=
 ∀ (W : World), Below w.heap.size w W → Calls Try.prog g args W fun e w' => e = .returned (.bool b) ∧ Below W.heap.size W w'

theorem Bcall.later {g : Nat} {args : Array Value} {b : Bool} {w W : World} (h : Bcall g args b w) (hb : Below w.heap.size w W) : Bcall g args b W :=
 fun W' hb' => h W' (hb.trans (hb'.mono hb.size))

/-- The first index of a list at which p holds, counted from i; or -1. -/
def fi {α : Type} (p : α → Bool) : List α → Nat → Int
 | [], _ => -1
 | x :: xs, i => if p x then (i : Int) else fi p xs (i + 1)

theorem fi_nonneg {α : Type} (p : α → Bool) (xs : List α) (i : Nat) : decide (0 ≤ fi p xs i) = xs.any p := by
 induction xs generalizing i with
 | nil => simp [fi]
 | cons x xs ih =>
  unfold fi
  by_cases h : p x = true
  ·simp [h]
  ·simp [h, ih]

theorem getD_drop {α : Type} (xs : List α) (k : Nat) (d : α) (h : k < xs.length) : xs.drop k = xs.getD k d :: xs.drop (k + 1) := by
 rw [List.drop_eq_getElem_cons h]
 simp [List.getD, h]

theorem fi_step {α : Type} (p : α → Bool) (xs : List α) (k : Nat) (d : α) (h : k < xs.length) : fi p (xs.drop k) k = if p (xs.getD k d) then (k : Int) else fi p (xs.drop (k + 1)) (k + 1) := by
 rw [getD_drop xs k d h]
 rfl

theorem below_seq {w a b : World} (h : Below w.heap.size w a) (k : Below a.heap.size a b) : Below w.heap.size w b := h.trans (k.mono h.size)

theorem ret_bool {a b : Bool} (h : a = b) : Ending.returned (.bool a) = .returned (.bool b) := by rw [h]
theorem ret_int {k : IntKind} {a b : Int} (h : a = b) : Ending.returned (.int k a) = .returned (.int k b) := by rw [h]

theorem enters {g : Nat} {fn : Func} {c : Code} (hf : Try.prog.funcs[g]? = some fn) (hname : (fn.name == "runtime.NumGoroutine") = false) (hb : fn.body = some c) :
  ∀ args w, (callFunc g args).run Try.prog w = .ok (.enter g args) w := by
 intro args w
 have h1 : fn.name ≠ "runtime.NumGoroutine" := by simpa using hname
 simp [callFunc, hf, h1, hb, mark]

/-! ### within, inside -/
def withinB (n lo hi : Int) : Bool := decide (lo ≤ n) && decide (n ≤ hi)

theorem within_calls (n lo hi : Int) (w : World) :
  Calls Try.prog 41 #[.int .i64 n, .int .i64 lo, .int .i64 hi] w fun e w' => e = .returned (.bool (withinB n lo hi)) ∧ Below w.heap.size w w' := by
 refine (walk_within.calls n lo hi (withinB n lo hi) w ?_).mono ?_
 ·unfold walk_within.f withinB
  by_cases h : lo ≤ n <;> simp [h]
 ·rintro e w' ⟨h1, h2⟩
  exact ⟨h1, h2.below⟩

def insideB (lo hi a b : Int) : Bool := decide (a ≤ lo) && (decide (lo ≤ hi) && decide (hi ≤ b))

theorem inside_calls (lo hi a b : Int) (w : World) :
  Calls Try.prog 104 #[.agg #[.int .i64 lo, .int .i64 hi], .int .i64 a, .int .i64 b] w fun e w' => e = .returned (.bool (insideB lo hi a b)) ∧ Below w.heap.size w w' := by
 refine walk_Range_inside.calls lo hi a b (insideB lo hi a b) w ?_
 unfold walk_Range_inside.f insideB
 by_cases h : a ≤ lo <;> by_cases h' : lo ≤ hi <;> simp [h, h']

/-! ### the road between two places -/
def joinsB (r : S94) (a b : Int) : Bool := r.f0 == a && r.f1 == b || r.f0 == b && r.f1 == a
def encRd (x : S94) : Value := .agg #[.int .i64 x.f0, .int .i64 x.f1, .int .i64 x.f2.f0, .int .i64 x.f2.f1]

set_option maxHeartbeats 400000 in
theorem joins_calls (ra rb lo hi a b : Int) (w : World) :
  Calls Try.prog 119 #[.agg #[.int .i64 ra, .int .i64 rb, .int .i64 lo, .int .i64 hi], .int .i64 a, .int .i64 b] w fun e w' => e = .returned (.bool (ra == a && rb == b || ra == b && rb == a)) ∧ Below w.heap.size w w' := by
 cases h1 : ra == a <;> cases h2 : rb == b <;> cases h3 : ra == b <;> cases h4 : rb == a
 all_goals
  go_enter Try.func119, Try.ntmps119
  go_wp2
  go_ret
  exact ⟨by simp, (Below.refl _ _).alloc (Nat.le_refl _) _⟩

set_option maxHeartbeats 400000 in
theorem road1_calls (x : S94) (a b : Int) (ga gb : Nat) (w : World) (ha : w.cell? ⟨ga, 0, none⟩ = some (.int .i64 a)) (hb : w.cell? ⟨gb, 0, none⟩ = some (.int .i64 b)) :
  Calls Try.prog 118 #[encRd x, .pointer (some ⟨ga, 0, none⟩), .pointer (some ⟨gb, 0, none⟩)] w fun e w' => e = .returned (.bool (joinsB x a b)) ∧ Below w.heap.size w w' := by
 unfold encRd
 have hga : ga < w.heap.size := World.block_lt_of_cell? w _ ha
 have hgb : gb < w.heap.size := World.block_lt_of_cell? w _ hb
 go_enter Try.func118, Try.ntmps118
 go_wp2_with fail
 refine (joins_calls _ _ _ _ _ _ _).mono ?_
 rintro e w' ⟨rfl, hb'⟩
 go_wp2
 go_ret
 exact ⟨rfl, below_seq ((Below.refl _ _).alloc (Nat.le_refl _) _) hb'⟩
end Go.Proofs.Ytiddkceahbnolaa

namespace Go.Proofs.Ytiddkceahbnolaa
open Go.RowKit Go.Proofs.Ytiddkceahbnolaa.PWalkOrder Go.Proofs.YtiddkceahbnolaaW.PrintWords
set_option linter.unusedVariables false
set_option linter.unusedSimpArgs false
def enc_rd_Range (xs : List S77) (k : Nat) : S77 := rd_T77 xs (k : Int)
def enc_rd_Road (xs : List S94) (k : Nat) : S94 := rd_T94 xs (k : Int)
def enc_rd_Num (xs : List Int) (k : Nat) : Int := rd xs (k : Int)

/-! ### slices.IndexFunc, ContainsFunc, all at walk.Range -/
def enc_Range (x : S77) : Value := .agg #[.int .i64 x.f0, .int .i64 x.f1]
/-- A function value that answers p of each element, in whatever world that keeps what is there. -/
def Pred_Range (g : Nat) (first cap : Array Value) (p : S77 → Bool) (w : World) : Prop :=
 ∀ (W : World) (x : S77), Below w.heap.size w W → Calls Try.prog g (first.push (enc_Range x) ++ cap) W fun e w' => e = .returned (.bool (p x)) ∧ Below W.heap.size W w'
theorem Pred_Range.later {g : Nat} {first cap : Array Value} {p : S77 → Bool} {w W : World} (h : Pred_Range g first cap p w) (hb : Below w.heap.size w W) : Pred_Range g first cap p W :=
 fun W' x hb' => h W' x (hb.trans (hb'.mono hb.size))

set_option maxHeartbeats 1000000 in
theorem index_Range (g : Nat) (cap : Array Value) (hg : ∀ args w, (callFunc g args).run Try.prog w = .ok (.enter g args) w) (p : S77 → Bool) (A : Option Addr) (c : Nat) (xs : List S77) (w : World)
  (hr : Kd.C k77 w A xs.length xs) (hlen : xs.length ≤ 9223372036854775807) (hp : Pred_Range g #[] cap p w) :
  Calls Try.prog 121 #[.slice A xs.length c, .func (.func g) #[] cap] w fun e w' => e = .returned (.int .i64 (fi p xs 0)) ∧ Below w.heap.size w w' := by
 have HR := Aside0.mk hr
 have HP := Aside0.mk hp
 clear hr hp
 go_enter Try.func121, Try.ntmps121
 go_wp2
 go_loopw [8] (fun v wr => ∃ k : Nat, k ≤ xs.length ∧ v = .int .i64 k ∧ Aside0 (Below w.heap.size w wr) ∧ Aside0 (fi p xs 0 = fi p (xs.drop k) k)) (fun v _ => xs.length - (intOf v).toNat)
 case atStart => exact ⟨0, Nat.zero_le _, rfl, ⟨Below.refl _ _⟩, ⟨rfl⟩⟩
 case round =>
  obtain ⟨k, hk, rfl, HB, HF⟩ := hrel
  by_cases hlt : k < xs.length
  ·obtain ⟨ad, e, h0, h1⟩ := at_T77 HR.out k (by omega) (by omega)
   cases e
   have hb := HB.out
   replace h0 := (hb.cell (World.block_lt_of_cell? w _ h0)).trans h0
   replace h1 := (hb.cell (World.block_lt_of_cell? w _ h1)).trans h1
   simp only [Int.toNat_natCast] at h0 h1
   clear hb HR
   go_wp2_with fail
   have hc := HP.out wr (enc_rd_Range xs k) HB.out
   simp only [enc_Range, enc_rd_Range, List.push_toArray, List.nil_append] at hc
   have hfs := Aside0.mk (fi_step p xs k z77 hlt)
   rw [show xs.getD k z77 = enc_rd_Range xs k from by simp [enc_rd_Range, rd_T77, Int.toNat_natCast]] at hfs
   have HX : Aside0 (∃ y, y = enc_rd_Range xs k) := ⟨⟨_, rfl⟩⟩
   refine (hc).mono ?_
   rintro e w' ⟨rfl, hb'⟩
   have HB' := Aside0.mk (below_seq HB.out hb')
   clear hb' h0 h1 hc HB
   cases hpx : p (enc_rd_Range xs k)
   ·simp only [enc_rd_Range] at hpx
    have HPX := Aside0.mk hpx
    clear hpx
    simp only [HPX.out]
    go_wp2
    go_roundw
    case rel => exact ⟨k + 1, by omega, by go_num, HB', ⟨by rw [HF.out, hfs.out, if_neg (by simp [enc_rd_Range, HPX.out])]⟩⟩
    case measure => simp [intOf]; omega
   ·simp only [enc_rd_Range] at hpx
    have HPX := Aside0.mk hpx
    clear hpx
    simp only [HPX.out]
    go_wp2
    go_ret
    exact ⟨ret_int (by rw [HF.out, hfs.out, if_pos (by simp [enc_rd_Range, HPX.out])]), HB'.out⟩
  ·have hk' : k = xs.length := by omega
   subst hk'
   go_wp2
   go_ret
   exact ⟨ret_int (by rw [HF.out, List.drop_length]; rfl), HB.out⟩

/-! ### slices.IndexFunc, ContainsFunc, all at walk.Road -/
def enc_Road (x : S94) : Value := .agg #[.int .i64 x.f0, .int .i64 x.f1, .int .i64 x.f2.f0, .int .i64 x.f2.f1]
/-- A function value that answers p of each element, in whatever world that keeps what is there. -/
def Pred_Road (g : Nat) (first cap : Array Value) (p : S94 → Bool) (w : World) : Prop :=
 ∀ (W : World) (x : S94), Below w.heap.size w W → Calls Try.prog g (first.push (enc_Road x) ++ cap) W fun e w' => e = .returned (.bool (p x)) ∧ Below W.heap.size W w'
theorem Pred_Road.later {g : Nat} {first cap : Array Value} {p : S94 → Bool} {w W : World} (h : Pred_Road g first cap p w) (hb : Below w.heap.size w W) : Pred_Road g first cap p W :=
 fun W' x hb' => h W' x (hb.trans (hb'.mono hb.size))

set_option maxHeartbeats 1000000 in
theorem index_Road (g : Nat) (cap : Array Value) (hg : ∀ args w, (callFunc g args).run Try.prog w = .ok (.enter g args) w) (p : S94 → Bool) (A : Option Addr) (c : Nat) (xs : List S94) (w : World)
  (hr : Kd.C k94 w A xs.length xs) (hlen : xs.length ≤ 9223372036854775807) (hp : Pred_Road g #[] cap p w) :
  Calls Try.prog 117 #[.slice A xs.length c, .func (.func g) #[] cap] w fun e w' => e = .returned (.int .i64 (fi p xs 0)) ∧ Below w.heap.size w w' := by
 have HR := Aside0.mk hr
 have HP := Aside0.mk hp
 clear hr hp
 go_enter Try.func117, Try.ntmps117
 go_wp2
 go_loopw [8] (fun v wr => ∃ k : Nat, k ≤ xs.length ∧ v = .int .i64 k ∧ Aside0 (Below w.heap.size w wr) ∧ Aside0 (fi p xs 0 = fi p (xs.drop k) k)) (fun v _ => xs.length - (intOf v).toNat)
 case atStart => exact ⟨0, Nat.zero_le _, rfl, ⟨Below.refl _ _⟩, ⟨rfl⟩⟩
 case round =>
  obtain ⟨k, hk, rfl, HB, HF⟩ := hrel
  by_cases hlt : k < xs.length
  ·obtain ⟨ad, e, h0, h1, h2, h3⟩ := at_T94 HR.out k (by omega) (by omega)
   cases e
   have hb := HB.out
   replace h0 := (hb.cell (World.block_lt_of_cell? w _ h0)).trans h0
   replace h1 := (hb.cell (World.block_lt_of_cell? w _ h1)).trans h1
   replace h2 := (hb.cell (World.block_lt_of_cell? w _ h2)).trans h2
   replace h3 := (hb.cell (World.block_lt_of_cell? w _ h3)).trans h3
   simp only [Int.toNat_natCast] at h0 h1 h2 h3
   clear hb HR
   go_wp2_with fail
   have hc := HP.out wr (enc_rd_Road xs k) HB.out
   simp only [enc_Road, enc_rd_Road, List.push_toArray, List.nil_append] at hc
   have hfs := Aside0.mk (fi_step p xs k z94 hlt)
   rw [show xs.getD k z94 = enc_rd_Road xs k from by simp [enc_rd_Road, rd_T94, Int.toNat_natCast]] at hfs
   have HX : Aside0 (∃ y, y = enc_rd_Road xs k) := ⟨⟨_, rfl⟩⟩
   refine (hc).mono ?_
   rintro e w' ⟨rfl, hb'⟩
   have HB' := Aside0.mk (below_seq HB.out hb')
   clear hb' h0 h1 h2 h3 hc HB
   cases hpx : p (enc_rd_Road xs k)
   ·simp only [enc_rd_Road] at hpx
    have HPX := Aside0.mk hpx
    clear hpx
    simp only [HPX.out]
    go_wp2
    go_roundw
    case rel => exact ⟨k + 1, by omega, by go_num, HB', ⟨by rw [HF.out, hfs.out, if_neg (by simp [enc_rd_Road, HPX.out])]⟩⟩
    case measure => simp [intOf]; omega
   ·simp only [enc_rd_Road] at hpx
    have HPX := Aside0.mk hpx
    clear hpx
    simp only [HPX.out]
    go_wp2
    go_ret
    exact ⟨ret_int (by rw [HF.out, hfs.out, if_pos (by simp [enc_rd_Road, HPX.out])]), HB'.out⟩
  ·have hk' : k = xs.length := by omega
   subst hk'
   go_wp2
   go_ret
   exact ⟨ret_int (by rw [HF.out, List.drop_length]; rfl), HB.out⟩

/-! ### slices.IndexFunc, ContainsFunc, all at int -/
def enc_Num (x : Int) : Value := .int .i64 x
/-- A function value that answers p of each element, in whatever world that keeps what is there. -/
def Pred_Num (g : Nat) (first cap : Array Value) (p : Int → Bool) (w : World) : Prop :=
 ∀ (W : World) (x : Int), Below w.heap.size w W → Calls Try.prog g (first.push (enc_Num x) ++ cap) W fun e w' => e = .returned (.bool (p x)) ∧ Below W.heap.size W w'
theorem Pred_Num.later {g : Nat} {first cap : Array Value} {p : Int → Bool} {w W : World} (h : Pred_Num g first cap p w) (hb : Below w.heap.size w W) : Pred_Num g first cap p W :=
 fun W' x hb' => h W' x (hb.trans (hb'.mono hb.size))

set_option maxHeartbeats 1000000 in
theorem index_Num (g : Nat) (cap : Array Value) (hg : ∀ args w, (callFunc g args).run Try.prog w = .ok (.enter g args) w) (p : Int → Bool) (A : Option Addr) (c : Nat) (xs : List Int) (w : World)
  (hr : Kd.C (Kd.int .i64) w A xs.length xs) (hlen : xs.length ≤ 9223372036854775807) (hp : Pred_Num g #[] cap p w) :
  Calls Try.prog 106 #[.slice A xs.length c, .func (.func g) #[] cap] w fun e w' => e = .returned (.int .i64 (fi p xs 0)) ∧ Below w.heap.size w w' := by
 have HR := Aside0.mk hr
 have HP := Aside0.mk hp
 clear hr hp
 go_enter Try.func106, Try.ntmps106
 go_wp2
 go_loopw [8] (fun v wr => ∃ k : Nat, k ≤ xs.length ∧ v = .int .i64 k ∧ Aside0 (Below w.heap.size w wr) ∧ Aside0 (fi p xs 0 = fi p (xs.drop k) k)) (fun v _ => xs.length - (intOf v).toNat)
 case atStart => exact ⟨0, Nat.zero_le _, rfl, ⟨Below.refl _ _⟩, ⟨rfl⟩⟩
 case round =>
  obtain ⟨k, hk, rfl, HB, HF⟩ := hrel
  by_cases hlt : k < xs.length
  ·obtain ⟨ad, e, h0⟩ := Kd.at_int HR.out k (by omega) (by omega)
   cases e
   have hb := HB.out
   replace h0 := (hb.cell (World.block_lt_of_cell? w _ h0)).trans h0
   simp only [Int.toNat_natCast] at h0
   clear hb HR
   go_wp2_with fail
   have hc := HP.out wr (enc_rd_Num xs k) HB.out
   simp only [enc_Num, enc_rd_Num, List.push_toArray, List.nil_append] at hc
   have hfs := Aside0.mk (fi_step p xs k 0 hlt)
   rw [show xs.getD k 0 = enc_rd_Num xs k from by simp [enc_rd_Num, rd, Int.toNat_natCast]] at hfs
   have HX : Aside0 (∃ y, y = enc_rd_Num xs k) := ⟨⟨_, rfl⟩⟩
   refine (hc).mono ?_
   rintro e w' ⟨rfl, hb'⟩
   have HB' := Aside0.mk (below_seq HB.out hb')
   clear hb' h0 hc HB
   cases hpx : p (enc_rd_Num xs k)
   ·simp only [enc_rd_Num] at hpx
    have HPX := Aside0.mk hpx
    clear hpx
    simp only [HPX.out]
    go_wp2
    go_roundw
    case rel => exact ⟨k + 1, by omega, by go_num, HB', ⟨by rw [HF.out, hfs.out, if_neg (by simp [enc_rd_Num, HPX.out])]⟩⟩
    case measure => simp [intOf]; omega
   ·simp only [enc_rd_Num] at hpx
    have HPX := Aside0.mk hpx
    clear hpx
    simp only [HPX.out]
    go_wp2
    go_ret
    exact ⟨ret_int (by rw [HF.out, hfs.out, if_pos (by simp [enc_rd_Num, HPX.out])]), HB'.out⟩
  ·have hk' : k = xs.length := by omega
   subst hk'
   go_wp2
   go_ret
   exact ⟨ret_int (by rw [HF.out, List.drop_length]; rfl), HB.out⟩

theorem contains_Range (g : Nat) (cap : Array Value) (hg : ∀ args w, (callFunc g args).run Try.prog w = .ok (.enter g args) w) (p : S77 → Bool) (A : Option Addr) (c : Nat) (xs : List S77) (w : World)
  (hr : Kd.C k77 w A xs.length xs) (hlen : xs.length ≤ 9223372036854775807) (hp : Pred_Range g #[] cap p w) :
  Calls Try.prog 102 #[.slice A xs.length c, .func (.func g) #[] cap] w fun e w' => e = .returned (.bool (xs.any p)) ∧ Below w.heap.size w w' := by
 go_enter Try.func102, Try.ntmps102
 go_wp2_with fail
 refine (index_Range g cap hg p A c xs w hr hlen hp).mono ?_
 rintro e w' ⟨rfl, hb⟩
 obtain ⟨j, hj⟩ : ∃ j, fi p xs 0 = j := ⟨_, rfl⟩
 have hn := Aside0.mk (fi_nonneg p xs 0)
 rw [hj] at hn ⊢
 clear hj
 go_wp2
 go_ret
 exact ⟨ret_bool (by rw [← hn.out]), hb⟩

theorem contains_Num (g : Nat) (cap : Array Value) (hg : ∀ args w, (callFunc g args).run Try.prog w = .ok (.enter g args) w) (p : Int → Bool) (A : Option Addr) (c : Nat) (xs : List Int) (w : World)
  (hr : Kd.C (Kd.int .i64) w A xs.length xs) (hlen : xs.length ≤ 9223372036854775807) (hp : Pred_Num g #[] cap p w) :
  Calls Try.prog 74 #[.slice A xs.length c, .func (.func g) #[] cap] w fun e w' => e = .returned (.bool (xs.any p)) ∧ Below w.heap.size w w' := by
 go_enter Try.func74, Try.ntmps74
 go_wp2_with fail
 refine (index_Num g cap hg p A c xs w hr hlen hp).mono ?_
 rintro e w' ⟨rfl, hb⟩
 obtain ⟨j, hj⟩ : ∃ j, fi p xs 0 = j := ⟨_, rfl⟩
 have hn := Aside0.mk (fi_nonneg p xs 0)
 rw [hj] at hn ⊢
 clear hj
 go_wp2
 go_ret
 exact ⟨ret_bool (by rw [← hn.out]), hb⟩

theorem all1_Range (g : Nat) (first cap : Array Value) (hg : ∀ args w, (callFunc g args).run Try.prog w = .ok (.enter g args) w) (p : S77 → Bool) (x : S77) (gp : Nat) (w : World)
  (hc : w.cell? ⟨gp, 0, none⟩ = some (.func (.func g) first cap)) (hp : Pred_Range g first cap p w) :
  Calls Try.prog 103 ((#[] : Array Value).push (enc_Range x) ++ #[.pointer (some ⟨gp, 0, none⟩)]) w fun e w' => e = .returned (.bool (!p x)) ∧ Below w.heap.size w w' := by
 simp only [Array.empty_append, List.push_toArray, List.append_toArray, List.nil_append, List.cons_append, enc_Range]
 have hgp : gp < w.heap.size := World.block_lt_of_cell? w _ hc
 have HP := Aside0.mk hp
 clear hp
 go_enter Try.func103, Try.ntmps103
 go_wp2_with fail
 have hc := HP.out _ x ((Below.refl w.heap.size w).alloc (Nat.le_refl _) (.cells #[.int .i64 x.f0, .int .i64 x.f1] 77))
 simp only [enc_Range] at hc
 refine hc.mono ?_
 rintro e w' ⟨rfl, hb⟩
 obtain ⟨b, hb1⟩ : ∃ b, p x = b := ⟨_, rfl⟩
 rw [hb1]
 go_wp2
 go_ret
 exact ⟨ret_bool (by rw [hb1]), below_seq ((Below.refl w.heap.size w).alloc (Nat.le_refl _) (.cells #[.int .i64 x.f0, .int .i64 x.f1] 77)) hb⟩

theorem all_Range (g : Nat) (first cap : Array Value) (hg : ∀ args w, (callFunc g args).run Try.prog w = .ok (.enter g args) w) (p : S77 → Bool) (A : Option Addr) (c : Nat) (xs : List S77) (w : World)
  (hr : Kd.C k77 w A xs.length xs) (hlen : xs.length ≤ 9223372036854775807) (hp : Pred_Range g first cap p w) :
  Calls Try.prog 70 #[.slice A xs.length c, .func (.func g) first cap] w fun e w' => e = .returned (.bool (xs.all p)) ∧ Below w.heap.size w w' := by
 go_enter Try.func70, Try.ntmps70
 have HR := Aside0.mk hr
 have HP := Aside0.mk hp
 clear hr hp
 go_wp2_with fail
 have hB : Below w.heap.size w (w.alloc (.cells #[.func (.func g) first cap] 147)) := (Below.refl _ _).alloc (Nat.le_refl _) _
 refine (contains_Range 103 #[.pointer (some ⟨w.heap.size, 0, none⟩)] (enters Try.func103 (by kernel_rfl) rfl) (fun x => !p x) A c xs _ (Kd.C_below HR.out hB) hlen ?_).mono ?_
 ·intro W x hW
  refine all1_Range g first cap hg p x w.heap.size W ?_ (HP.out.later (hB.trans (hW.mono hB.size)))
  rw [hW.cell (p := ⟨w.heap.size, 0, none⟩) (by simp)]
  simp
 rintro e w' ⟨rfl, hb⟩
 have hn := Aside0.mk (List.any_eq_not_all_not (l := xs) (p := fun x => !p x))
 obtain ⟨j, hj⟩ : ∃ j, (xs.any fun x => !p x) = j := ⟨_, rfl⟩
 rw [hj] at hn ⊢
 clear hj
 go_wp2
 go_ret
 exact ⟨ret_bool (by rw [hn.out]; simp), below_seq hB hb⟩

theorem all1_Num (g : Nat) (first cap : Array Value) (hg : ∀ args w, (callFunc g args).run Try.prog w = .ok (.enter g args) w) (p : Int → Bool) (x : Int) (gp : Nat) (w : World)
  (hc : w.cell? ⟨gp, 0, none⟩ = some (.func (.func g) first cap)) (hp : Pred_Num g first cap p w) :
  Calls Try.prog 75 ((#[] : Array Value).push (enc_Num x) ++ #[.pointer (some ⟨gp, 0, none⟩)]) w fun e w' => e = .returned (.bool (!p x)) ∧ Below w.heap.size w w' := by
 simp only [Array.empty_append, List.push_toArray, List.append_toArray, List.nil_append, List.cons_append, enc_Num]
 have hgp : gp < w.heap.size := World.block_lt_of_cell? w _ hc
 have HP := Aside0.mk hp
 clear hp
 go_enter Try.func75, Try.ntmps75
 go_wp2_with fail
 have hc := HP.out _ x (Below.refl _ _)
 simp only [enc_Num] at hc
 refine hc.mono ?_
 rintro e w' ⟨rfl, hb⟩
 obtain ⟨b, hb1⟩ : ∃ b, p x = b := ⟨_, rfl⟩
 rw [hb1]
 go_wp2
 go_ret
 exact ⟨ret_bool (by rw [hb1]), below_seq (Below.refl _ _) hb⟩

theorem all_Num (g : Nat) (first cap : Array Value) (hg : ∀ args w, (callFunc g args).run Try.prog w = .ok (.enter g args) w) (p : Int → Bool) (A : Option Addr) (c : Nat) (xs : List Int) (w : World)
  (hr : Kd.C (Kd.int .i64) w A xs.length xs) (hlen : xs.length ≤ 9223372036854775807) (hp : Pred_Num g first cap p w) :
  Calls Try.prog 36 #[.slice A xs.length c, .func (.func g) first cap] w fun e w' => e = .returned (.bool (xs.all p)) ∧ Below w.heap.size w w' := by
 go_enter Try.func36, Try.ntmps36
 have HR := Aside0.mk hr
 have HP := Aside0.mk hp
 clear hr hp
 go_wp2_with fail
 have hB : Below w.heap.size w (w.alloc (.cells #[.func (.func g) first cap] 83)) := (Below.refl _ _).alloc (Nat.le_refl _) _
 refine (contains_Num 75 #[.pointer (some ⟨w.heap.size, 0, none⟩)] (enters Try.func75 (by kernel_rfl) rfl) (fun x => !p x) A c xs _ (Kd.C_below HR.out hB) hlen ?_).mono ?_
 ·intro W x hW
  refine all1_Num g first cap hg p x w.heap.size W ?_ (HP.out.later (hB.trans (hW.mono hB.size)))
  rw [hW.cell (p := ⟨w.heap.size, 0, none⟩) (by simp)]
  simp
 rintro e w' ⟨rfl, hb⟩
 have hn := Aside0.mk (List.any_eq_not_all_not (l := xs) (p := fun x => !p x))
 obtain ⟨j, hj⟩ : ∃ j, (xs.any fun x => !p x) = j := ⟨_, rfl⟩
 rw [hj] at hn ⊢
 clear hj
 go_wp2
 go_ret
 exact ⟨ret_bool (by rw [hn.out]; simp), below_seq hB hb⟩
end Go.Proofs.Ytiddkceahbnolaa

namespace Go.Proofs.Ytiddkceahbnolaa
open Go.RowKit Go.Proofs.Ytiddkceahbnolaa.PWalkOrder Go.Proofs.YtiddkceahbnolaaW.PrintWords
set_option linter.unusedVariables false
set_option linter.unusedSimpArgs false

/-- A map in memory: its value, its ranges of work, its roads. -/
structure IsMap (w : World) (A0 : Option Addr) (c0 : Nat) (W : List S77) (A1 : Option Addr) (c1 : Nat) (R : List S94) : Prop where
 work : Kd.C k77 w A0 W.length W
 lw : W.length ≤ c0
 roads : Kd.C k94 w A1 R.length R
 lr : R.length ≤ c1
 bw : W.length ≤ 281474976710656
 br : R.length ≤ 281474976710656
theorem IsMap.below {w w1 : World} {A0 : Option Addr} {c0 : Nat} {W : List S77} {A1 : Option Addr} {c1 : Nat} {R : List S94} (h : IsMap w A0 c0 W A1 c1 R) (hb : Below w.heap.size w w1) : IsMap w1 A0 c0 W A1 c1 R :=
 ⟨Kd.C_below h.work hb, h.lw, Kd.C_below h.roads hb, h.lr, h.bw, h.br⟩

def roadI (R : List S94) (a b : Int) : Int := fi (fun r => joinsB r a b) R 0

set_option maxHeartbeats 800000 in
theorem road_calls {A0 : Option Addr} {c0 : Nat} {W : List S77} {A1 : Option Addr} {c1 : Nat} {R : List S94} (a b : Int) {w : World} (h : IsMap w A0 c0 W A1 c1 R) :
  Calls Try.prog 98 #[.agg #[.slice A0 W.length c0, .slice A1 R.length c1], .int .i64 a, .int .i64 b] w fun e w' => e = .returned (.int .i64 (roadI R a b)) ∧ Below w.heap.size w w' := by
 have H := Aside0.mk h
 clear h
 go_enter Try.func98, Try.ntmps98
 go_wp2_with fail
 have hB : Below w.heap.size w (((w.alloc (.cells #[.slice A0 W.length c0, .slice A1 R.length c1] 41)).alloc (.cells #[.int .i64 a] 3)).alloc (.cells #[.int .i64 b] 3)) := below_alloc (below_alloc (below_alloc (Below.refl _ _) _) _) _
 refine (index_Road 118 _ (enters Try.func118 (by kernel_rfl) rfl) (fun r => joinsB r a b) A1 c1 R _ (H.out.below hB).roads (by have := H.out.br; omega) ?_).mono ?_
 ·intro W' x hW
  have := road1_calls x a b (w.heap.size + 1) (w.heap.size + 2) W' (by rw [hW.cell (p := ⟨w.heap.size + 1, 0, none⟩) (by simp)]; simp [go_sem]) (by rw [hW.cell (p := ⟨w.heap.size + 2, 0, none⟩) (by simp)]; simp [go_sem])
  exact this
 rintro e w' ⟨rfl, hb⟩
 have hres : fi (fun r => joinsB r a b) R 0 = roadI R a b := rfl
 rw [hres]
 clear hres
 obtain ⟨j, hj⟩ : ∃ j, roadI R a b = j := ⟨_, rfl⟩
 rw [hj]
 have HJ := Aside0.mk hj
 clear hj
 go_wp2
 go_ret
 exact ⟨ret_int HJ.out.symm, below_seq hB hb⟩

def placeB (n : Nat) (x : Int) : Bool := withinB x 0 ((n : Int) - 1)
theorem place_calls {A0 : Option Addr} {c0 : Nat} {W : List S77} {A1 : Option Addr} {c1 : Nat} {R : List S94} (a : Int) {w : World} (h : IsMap w A0 c0 W A1 c1 R) :
  Calls Try.prog 31 #[.agg #[.slice A0 W.length c0, .slice A1 R.length c1], .int .i64 a] w fun e w' => e = .returned (.bool (placeB W.length a)) ∧ Below w.heap.size w w' := by
 refine walk_Map_place.calls A0 c0 W A1 c1 R a (placeB W.length a) w h.work h.lw h.roads h.lr ?_
 have hb := h.bw
 have e : wrap64 ((W.length : Int) - 1) = (W.length : Int) - 1 := by unfold wrap64; omega
 unfold walk_Map_place.f walk_within.f placeB withinB
 rw [e]
 by_cases h : 0 ≤ a <;> simp [h]

def okRoad (W : List S77) (R : List S94) (k : Nat) : Bool :=
 placeB W.length (enc_rd_Road R k).f0 && (placeB W.length (enc_rd_Road R k).f1 && (!((enc_rd_Road R k).f0 == (enc_rd_Road R k).f1) && (insideB (enc_rd_Road R k).f2.f0 (enc_rd_Road R k).f2.f1 1 50 && (roadI R (enc_rd_Road R k).f0 (enc_rd_Road R k).f1 == (k : Int)))))
def roadsB (W : List S77) (R : List S94) : Bool := (List.range R.length).all (okRoad W R)
theorem roadsB_false {W : List S77} {R : List S94} (k : Nat) (hk : k < R.length) (h : okRoad W R k = false) : roadsB W R = false := by
 unfold roadsB
 rw [List.all_eq_false]
 exact ⟨k, by simpa using hk, by simp [h]⟩
theorem roadsB_true {W : List S77} {R : List S94} (h : ∀ j, j < R.length → okRoad W R j = true) : roadsB W R = true := by
 unfold roadsB
 rw [List.all_eq_true]
 intro x hx
 exact h x (by simpa using hx)

theorem bcell {W w1 : World} (hb : Below W.heap.size W w1) : (∀ b o, b < W.heap.size → w1.cell? ⟨b, o, none⟩ = W.cell? ⟨b, o, none⟩) ∧ (∀ b o, b < W.heap.size → w1.frozen? ⟨b, o, none⟩ = W.frozen? ⟨b, o, none⟩) :=
 ⟨fun b o h => hb.cell (p := ⟨b, o, none⟩) h, fun b o h => hb.frozen (p := ⟨b, o, none⟩) h⟩
/-- A block of cells that nothing freezes. -/
def Blk (w : World) (g : Nat) (cs : List Value) (t : TypeId) : Prop := w.heap[g]? = some (.cells cs.toArray t (0, 0))
theorem Blk.below {w w1 : World} {g : Nat} {cs : List Value} {t : TypeId} (h : Blk w g cs t) (hb : Below w.heap.size w w1) : Blk w1 g cs t := blk_below h hb
theorem Blk.cell {w : World} {g : Nat} {cs : List Value} {t : TypeId} (h : Blk w g cs t) (i : Nat) : w.cell? ⟨g, i, none⟩ = cs[i]? := (blk_cell h i).trans (by simp)
theorem Blk.frozen {w : World} {g : Nat} {cs : List Value} {t : TypeId} (h : Blk w g cs t) (i : Nat) : w.frozen? ⟨g, i, none⟩ = false := blk_frozen h i
theorem Blk.lt {w : World} {g : Nat} {cs : List Value} {t : TypeId} (h : Blk w g cs t) : g < w.heap.size := blk_lt h
theorem Blk.new (w : World) (cs : List Value) (t : TypeId) : Blk (w.alloc (.cells cs.toArray t)) w.heap.size cs t := heap_alloc_new w _
theorem Blk.alloc {w : World} {g : Nat} {cs : List Value} {t : TypeId} (h : Blk w g cs t) (o : Obj) : Blk (w.alloc o) g cs t := blk_alloc h o

set_option maxHeartbeats 4000000 in
theorem roads_calls {A0 : Option Addr} {c0 : Nat} {W : List S77} {A1 : Option Addr} {c1 : Nat} {R : List S94} {w : World} (h : IsMap w A0 c0 W A1 c1 R) :
  Calls Try.prog 72 #[.agg #[.slice A0 W.length c0, .slice A1 R.length c1]] w fun e w' => e = .returned (.bool (roadsB W R)) ∧ Below w.heap.size w w' := by
 have H := Aside0.mk h
 have hbr := h.br
 have hbw := h.bw
 clear h
 go_enter Try.func72, Try.ntmps72
 go_wp2_with fail
 go_loopw [11] (fun v wr => ∃ k : Nat, k ≤ R.length ∧ v = .int .i64 k ∧ Aside0 (Below w.heap.size w wr) ∧ Aside0 (Blk wr w.heap.size [.slice A0 W.length c0, .slice A1 R.length c1] 41) ∧ Aside0 (∀ j, j < k → okRoad W R j = true)) (fun v _ => R.length - (intOf v).toNat)
 case atStart => exact ⟨0, Nat.zero_le _, rfl, ⟨below_alloc (Below.refl _ _) _⟩, ⟨Blk.new _ _ _⟩, ⟨fun j hj => absurd hj (Nat.not_lt_zero _)⟩⟩
 case round =>
  obtain ⟨k, hk, rfl, HB, BK, HF⟩ := hrel
  by_cases hlt : k < R.length
  ·have HM := Aside0.mk (H.out.below HB.out)
   obtain ⟨ad, e, h0, h1, h2, h3⟩ := at_T94 HM.out.roads k (by omega) (by omega)
   cases e
   simp only [Int.toNat_natCast] at h0 h1 h2 h3
   obtain ⟨r, hr⟩ : ∃ r, rd_T94 R (k : Int) = r := ⟨_, rfl⟩
   rw [hr] at h0 h1 h2 h3
   have HR := Aside0.mk hr
   clear hr
   have HO : Aside0 (okRoad W R k = (placeB W.length r.f0 && (placeB W.length r.f1 && (!(r.f0 == r.f1) && (insideB r.f2.f0 r.f2.f1 1 50 && (roadI R r.f0 r.f1 == (k : Int))))))) := ⟨by unfold okRoad enc_rd_Road; rw [HR.out]⟩
   have hbk := BK.out.lt
   have hz0 := BK.out.cell 0
   have hz1 := BK.out.cell 1
   simp only [sb3, sb4] at hz0 hz1
   --BEGINR
   go_wp2_with fail
   have HB0 := Aside0.mk (below_alloc HB.out (.cells #[.int .i64 r.f0, .int .i64 r.f1, .int .i64 r.f2.f0, .int .i64 r.f2.f1] 94))
   have HM0 := Aside0.mk (H.out.below HB0.out)
   have BK0 := Aside0.mk (BK.out.alloc (.cells #[.int .i64 r.f0, .int .i64 r.f1, .int .i64 r.f2.f0, .int .i64 r.f2.f1] 94))
   have BR0 := Aside0.mk (Blk.new wr [.int .i64 r.f0, .int .i64 r.f1, .int .i64 r.f2.f0, .int .i64 r.f2.f1] 94)
   have hx0 := True.intro
   have hx1 := True.intro
   have hx2 := True.intro
   have hx3 := True.intro
   have hgr := True.intro
   have hgm := True.intro
   refine (place_calls r.f0 HM0.out).mono ?_
   rintro e w1 ⟨rfl, hb1⟩
   have HB1 := Aside0.mk (below_seq HB0.out hb1)
   have HM1 := Aside0.mk (HM0.out.below hb1)
   have BK1 := Aside0.mk (BK0.out.below hb1)
   have BR1 := Aside0.mk (BR0.out.below hb1)
   clear hb1 HB0 HM0 BK0 BR0 hz0 hz1 hx0 hx1 hx2 hx3 hgr hgm
   have hgm := BK1.out.lt
   have hgr := BR1.out.lt
   have hz0 := BK1.out.cell 0
   have hz1 := BK1.out.cell 1
   have hx0 := BR1.out.cell 0
   have hx1 := BR1.out.cell 1
   have hx2 := BR1.out.cell 2
   have hx3 := BR1.out.cell 3
   simp only [sb3, sb4] at hz0 hz1 hx0 hx1 hx2 hx3
   obtain ⟨b1, b1e⟩ : ∃ b, placeB W.length r.f0 = b := ⟨_, rfl⟩
   rw [b1e]
   have b1E := Aside0.mk b1e
   clear b1e
   cases b1
   ·go_wp2
    go_ret
    exact ⟨ret_bool (roadsB_false k hlt (by rw [HO.out, b1E.out]; simp)).symm, HB1.out⟩
   ·go_wp2_with fail
    refine (place_calls r.f1 HM1.out).mono ?_
    rintro e w2 ⟨rfl, hb2⟩
    have HB2 := Aside0.mk (below_seq HB1.out hb2)
    have HM2 := Aside0.mk (HM1.out.below hb2)
    have BK2 := Aside0.mk (BK1.out.below hb2)
    have BR2 := Aside0.mk (BR1.out.below hb2)
    clear hb2 HB1 HM1 BK1 BR1 hz0 hz1 hx0 hx1 hx2 hx3 hgr hgm
    have hgm := BK2.out.lt
    have hgr := BR2.out.lt
    have hz0 := BK2.out.cell 0
    have hz1 := BK2.out.cell 1
    have hx0 := BR2.out.cell 0
    have hx1 := BR2.out.cell 1
    have hx2 := BR2.out.cell 2
    have hx3 := BR2.out.cell 3
    simp only [sb3, sb4] at hz0 hz1 hx0 hx1 hx2 hx3
    obtain ⟨b2, b2e⟩ : ∃ b, placeB W.length r.f1 = b := ⟨_, rfl⟩
    rw [b2e]
    have b2E := Aside0.mk b2e
    clear b2e
    cases b2
    ·go_wp2
     go_ret
     exact ⟨ret_bool (roadsB_false k hlt (by rw [HO.out, b1E.out, b2E.out]; simp)).symm, HB2.out⟩
    ·cases b3e : (r.f0 == r.f1)
     ·have b3E := Aside0.mk b3e
      go_wp2_with fail
      refine (inside_calls _ _ _ _ _).mono ?_
      rintro e w3 ⟨rfl, hb3⟩
      have HB3 := Aside0.mk (below_seq HB2.out hb3)
      have HM3 := Aside0.mk (HM2.out.below hb3)
      have BK3 := Aside0.mk (BK2.out.below hb3)
      have BR3 := Aside0.mk (BR2.out.below hb3)
      clear hb3 HB2 HM2 BK2 BR2 hz0 hz1 hx0 hx1 hx2 hx3 hgr hgm
      have hgm := BK3.out.lt
      have hgr := BR3.out.lt
      have hz0 := BK3.out.cell 0
      have hz1 := BK3.out.cell 1
      have hx0 := BR3.out.cell 0
      have hx1 := BR3.out.cell 1
      have hx2 := BR3.out.cell 2
      have hx3 := BR3.out.cell 3
      simp only [sb3, sb4] at hz0 hz1 hx0 hx1 hx2 hx3
      obtain ⟨b4, b4e⟩ : ∃ b, insideB r.f2.f0 r.f2.f1 1 50 = b := ⟨_, rfl⟩
      rw [b4e]
      have b4E := Aside0.mk b4e
      clear b4e
      cases b4
      ·go_wp2
       go_ret
       exact ⟨ret_bool (roadsB_false k hlt (by rw [HO.out, b1E.out, b2E.out, b3E.out, b4E.out]; simp)).symm, HB3.out⟩
      ·go_wp2_with fail
       refine (road_calls r.f0 r.f1 HM3.out).mono ?_
       rintro e w4 ⟨rfl, hb4⟩
       have HB4 := Aside0.mk (below_seq HB3.out hb4)
       have HM4 := Aside0.mk (HM3.out.below hb4)
       have BK4 := Aside0.mk (BK3.out.below hb4)
       have BR4 := Aside0.mk (BR3.out.below hb4)
       clear hb4 HB3 HM3 BK3 BR3 hz0 hz1 hx0 hx1 hx2 hx3 hgr hgm
       have hgm := BK4.out.lt
       have hgr := BR4.out.lt
       have hz0 := BK4.out.cell 0
       have hz1 := BK4.out.cell 1
       have hx0 := BR4.out.cell 0
       have hx1 := BR4.out.cell 1
       have hx2 := BR4.out.cell 2
       have hx3 := BR4.out.cell 3
       simp only [sb3, sb4] at hz0 hz1 hx0 hx1 hx2 hx3
       obtain ⟨j5, j5e⟩ : ∃ j, roadI R r.f0 r.f1 = j := ⟨_, rfl⟩
       rw [j5e]
       have J5E := Aside0.mk j5e
       clear j5e
       by_cases hj : j5 = (k : Int)
       ·have hjb : (j5 != (k : Int)) = false := by rw [hj]; simp
        have HJ := Aside0.mk hj
        clear hj
        go_wp2
        go_roundw
        case rel => exact ⟨k + 1, by omega, by go_num, HB4, BK4, ⟨fun j hj' => by
         rcases Nat.lt_succ_iff_lt_or_eq.1 hj' with h' | h'
         ·exact HF.out j h'
         ·subst h'
          rw [HO.out, b1E.out, b2E.out, b3E.out, b4E.out, J5E.out, HJ.out]
          simp⟩⟩
        case measure => simp [intOf]; omega
       ·have hjb : (j5 != (k : Int)) = true := by rw [bne_iff_ne]; exact hj
        have HJ := Aside0.mk hj
        clear hj
        go_wp2
        go_ret
        exact ⟨ret_bool (roadsB_false k hlt (by rw [HO.out, b1E.out, b2E.out, b3E.out, b4E.out, J5E.out]; simp [HJ.out])).symm, HB4.out⟩
     ·have b3E := Aside0.mk b3e
      go_wp2
      go_ret
      exact ⟨ret_bool (roadsB_false k hlt (by rw [HO.out, b1E.out, b2E.out, b3E.out]; simp)).symm, HB2.out⟩
  ·have hk' : k = R.length := by omega
   subst hk'
   go_wp2
   go_ret
   exact ⟨ret_bool (roadsB_true HF.out).symm, HB.out⟩

def workB (x : S77) : Bool := insideB x.f0 x.f1 0 50
theorem work_pred (w : World) : Pred_Range 71 #[] #[] workB w := by
 intro W x hW
 simp only [List.push_toArray, List.nil_append, Array.append_empty, enc_Range]
 refine walk_work.calls x.f0 x.f1 (workB x) W ?_
 unfold walk_work.f walk_Range_inside.f workB insideB
 by_cases h : 0 ≤ x.f0 <;> by_cases h' : x.f0 ≤ x.f1 <;> simp [h, h']

/-- The error of a map. -/
def chkMap (W : List S77) (R : List S94) : Int :=
 if W.length ≤ 8 ∧ R.length ≤ 20 then (if W.length = 0 then 1 else if W.all workB then (if roadsB W R then 0 else 1) else 1) else 3

set_option maxHeartbeats 4000000 in
theorem CheckMap_calls {A0 : Option Addr} {c0 : Nat} {W : List S77} {A1 : Option Addr} {c1 : Nat} {R : List S94} {w : World} (h : IsMap w A0 c0 W A1 c1 R) :
  Calls Try.prog 30 #[.agg #[.slice A0 W.length c0, .slice A1 R.length c1]] w fun e w' => e = .returned (.int .i64 (chkMap W R)) ∧ Below w.heap.size w w' := by
 have H := Aside0.mk h
 have hbr := h.br
 have hbw := h.bw
 clear h
 have HB0 := Aside0.mk (below_alloc (Below.refl w.heap.size w) (.cells #[.slice A0 W.length c0, .slice A1 R.length c1] 41))
 have HM0 := Aside0.mk (H.out.below HB0.out)
 have BK0 := Aside0.mk (Blk.new w [.slice A0 W.length c0, .slice A1 R.length c1] 41)
 by_cases h1 : W.length ≤ 8
 ·by_cases h2 : R.length ≤ 20
  ·by_cases h3 : W.length = 0
   ·have hres : chkMap W R = 1 := by unfold chkMap; rw [if_pos ⟨h1, h2⟩, if_pos h3]
    have HRES := Aside0.mk hres
    clear hres
    have h3b : ((W.length : Int) == 0) = true := by simp [h3]
    have H3 := Aside0.mk h3
    clear h3
    go_enter Try.func30, Try.ntmps30
    go_wp2_with fail
    go_ret
    exact ⟨ret_int HRES.out.symm, HB0.out⟩
   ·have h3b : ((W.length : Int) == 0) = false := beq_eq_false_iff_ne.2 (by omega)
    obtain ⟨b, hb⟩ : ∃ b, W.all workB = b := ⟨_, rfl⟩
    have HWB := Aside0.mk hb
    clear hb
    go_enter Try.func30, Try.ntmps30
    go_wp2_with fail
    refine (all_Range 71 #[] #[] (enters Try.func71 (by kernel_rfl) rfl) workB A0 c0 W _ HM0.out.work (by omega) (work_pred _)).mono ?_
    rintro e w1 ⟨rfl, hb1⟩
    have HB1 := Aside0.mk (below_seq HB0.out hb1)
    have HM1 := Aside0.mk (HM0.out.below hb1)
    have BK1 := Aside0.mk (BK0.out.below hb1)
    clear hb1
    have hgm := BK1.out.lt
    have hz0 := BK1.out.cell 0
    have hz1 := BK1.out.cell 1
    simp only [sb3, sb4] at hz0 hz1
    rw [HWB.out]
    cases b
    ·have hres : chkMap W R = 1 := by unfold chkMap; rw [if_pos ⟨h1, h2⟩, if_neg h3, HWB.out]; rfl
     have HRES := Aside0.mk hres
     clear hres h3
     go_wp2_with fail
     go_ret
     exact ⟨ret_int HRES.out.symm, HB1.out⟩
    ·go_wp2_with fail
     refine (roads_calls HM1.out).mono ?_
     rintro e w2 ⟨rfl, hb2⟩
     have HB2 := Aside0.mk (below_seq HB1.out hb2)
     clear hb2 hz0 hz1 hgm
     obtain ⟨b2, hb2⟩ : ∃ b, roadsB W R = b := ⟨_, rfl⟩
     have HRB := Aside0.mk hb2
     clear hb2
     rw [HRB.out]
     have hres : chkMap W R = if b2 then 0 else 1 := by unfold chkMap; rw [if_pos ⟨h1, h2⟩, if_neg h3, HWB.out, HRB.out]; rfl
     have HRES := Aside0.mk hres
     clear hres h3
     cases b2
     all_goals
      go_wp2_with fail
      go_ret
      exact ⟨ret_int (by rw [HRES.out]; rfl), HB2.out⟩
  ·have hres : chkMap W R = 3 := by unfold chkMap; rw [if_neg (fun h => h2 h.2)]
   have HRES := Aside0.mk hres
   clear hres
   have h2' : 20 < R.length := by omega
   clear h2
   go_enter Try.func30, Try.ntmps30
   go_wp2_with fail
   go_ret
   exact ⟨ret_int HRES.out.symm, HB0.out⟩
 ·have hres : chkMap W R = 3 := by unfold chkMap; rw [if_neg (fun h => h1 h.1)]
  have HRES := Aside0.mk hres
  clear hres
  have h1' : 8 < W.length := by omega
  clear h1
  go_enter Try.func30, Try.ntmps30
  go_wp2_with fail
  go_ret
  exact ⟨ret_int HRES.out.symm, HB0.out⟩
end Go.Proofs.Ytiddkceahbnolaa
