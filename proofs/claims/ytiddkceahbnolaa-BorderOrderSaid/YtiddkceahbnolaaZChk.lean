/- border's street and join: what they answer of a map. -/
import Derived.Test.YtiddkceahbnolaaPBorderOrderx3
import Derived.TacticsInMore
import Derived.Laws.EntriesVeiled
import Derived.RangeFuncNested
import Derived.RangeFuncBound
import Derived.RangeFuncCalls
import Derived.RangeFuncLeaves
import Derived.Shelf.Abstract
import Derived.Shelf.RegionOpen
import Derived.OwnWalkIn
import Derived.LoopNIn
import Derived.LoopIn
namespace Go.Proofs.Ytiddkceahbnolaa
open Go.RowKit Go.Proofs.Ytiddkceahbnolaa.PBorderOrder Go.Proofs.YtiddkceahbnolaaW.PrintWords Go.Proofs.YtiddkceahbnolaaW.PrintLast
set_option linter.all false
abbrev I : Bool := true
abbrev O : Bool := false
theorem sb0 {α : Type} {l : List α} {i : Nat} {a : α} : l.toArray.setIfInBounds i a = (l.set i a).toArray := by simp
theorem sb1 {α : Type} {x a : α} {l : List α} : (x :: l).set 0 a = a :: l := rfl
theorem sb2 {α : Type} {x a : α} {l : List α} {n : Nat} : (x :: l).set (n + 1) a = x :: l.set n a := rfl
theorem sb3 {α : Type} {x : α} {l : List α} : (x :: l)[0]? = some x := rfl
theorem sb4 {α : Type} {x : α} {l : List α} {n : Nat} : (x :: l)[n + 1]? = l[n]? := rfl
theorem pu_ {P : Program} {md : Region.Mode} {ops : Array Oper} {Q : Exit → Act → World → Prop} {S : World → Prop} {ds : List Nat} {fuel : Nat} {l : Array Bool} {a a' : Act} {w : World} {oi : Oper} {v : Value} {T : Bool × List (List Nat × List Nat)} (i N : Nat) (l' : Array Bool)
  (hT : Aside0 (rtab md ops = T)) (hi : ops[i]? = some oi := by exact rfl) (hN : oi.dst = some N := by exact rfl) (hc : anyT T l.toList l'.toList i = true := by kernel_rfl) (hQ : ∀ c a w, Q (.panic c) (a.put oi.dst v) w → Q (.panic c) a w := by exact fun _ _ _ h => h)
  (hw : Region.wanted oi (yielded ops a.tmps) = true := by rfl) (hy : ∀ w, (execOp a.eval oi).run P w = .ok (.value v) w := by (intro w'; go_simp; with_reducible rfl))
  (ha : a.put (some N) v = a' := by (simp only [Act.put, sb0, sb1, sb2, i64_w, i32_w]; rfl))
  (h : wpAnyLast P md ops Q S ds fuel l' a' w) : wpAnyLast P md ops Q S ds (fuel + 1) l a w :=
 pure_ l' hi hN (any_of hT.out hc) hQ (Or.inl ⟨hw, hy⟩) ha h
theorem ta_ {P : Program} {md : Region.Mode} {ops : Array Oper} {Q : Exit → Act → World → Prop} {S : World → Prop} {ds : List Nat} {fuel : Nat} {l : Array Bool} {a a' : Act} {w : World} {oi : Oper} {v : Value} {T : Bool × List (List Nat × List Nat)} {B : List Nat} (i N : Nat) (l' : Array Bool)
  (hT : Aside0 (rtab md ops = T)) (hB : Aside0 (waitsOk T.2 B = true)) (hS : S w) (hi : ops[i]? = some oi := by exact rfl) (hN : oi.dst = some N := by exact rfl) (hc : takeW T B ds l.toList l'.toList i = true := by kernel_rfl) (hQ : ∀ c a w, Q (.panic c) (a.put oi.dst v) w → Q (.panic c) a w := by exact fun _ _ _ h => h)
  (hw : Region.wanted oi (yielded ops a.tmps) = true := by rfl) (hy : ∀ w, S w → (execOp a.eval oi).run P w = .ok (.value v) w)
  (ha : a.put (some N) v = a' := by (simp only [Act.put, sb0, sb1, sb2, i64_w, i32_w]; rfl))
  (h : wpAnyLast P md ops Q S ds fuel l' a' w) : wpAnyLast P md ops Q S ds (fuel + 1) l a w :=
 take_ l' hi hN (take_ofW hT.out hB.out hc) hQ (Or.inl ⟨hw, hy⟩) hS ha h
end Go.Proofs.Ytiddkceahbnolaa
namespace Go.Proofs.Ytiddkceahbnolaa
open Go.RowKit Go.Shelf Go.Proofs.Ytiddkceahbnolaa.PBorderOrder Go.Proofs.YtiddkceahbnolaaW.PrintWords Go.Proofs.YtiddkceahbnolaaW.PrintLast
set_option linter.unusedVariables false
set_option linter.unusedSimpArgs false
/-- A call of function g behind which all that was there is as it was, and which answers the bool b. -/
def Bcall (g : Nat) (args : Array Value) (b : Bool) (w : World) : Prop :=
 ∀ (W : World), Below w.heap.size w W → Calls Try.prog g args W fun e w' => e = .returned (.bool b) ∧ Below W.heap.size W w'
theorem Bcall.later {g : Nat} {args : Array Value} {b : Bool} {w W : World} (h : Bcall g args b w) (hb : Below w.heap.size w W) : Bcall g args b W :=
 fun W' hb' => h W' (hb.trans (hb'.mono hb.size))
/-- The first index of a list at which p holds, counted from i; or -1. -/
def fi {α : Type} (p : α → Bool) : List α → Nat → Int
 | [], _ => -1
 | x :: xs, i => if p x then (i : Int) else fi p xs (i + 1)
theorem fi_nonneg {α : Type} (p : α → Bool) (xs : List α) (i : Nat) : decide (0 ≤ fi p xs i) = xs.any p := by
 induction xs generalizing i with
 | nil => simp [fi]
 | cons x xs ih =>
  unfold fi
  by_cases h : p x = true
  ·simp [h]
  ·simp [h, ih]
theorem getD_drop {α : Type} (xs : List α) (k : Nat) (d : α) (h : k < xs.length) : xs.drop k = xs.getD k d :: xs.drop (k + 1) := by
 rw [List.drop_eq_getElem_cons h]
 simp [List.getD, h]
theorem fi_step {α : Type} (p : α → Bool) (xs : List α) (k : Nat) (d : α) (h : k < xs.length) : fi p (xs.drop k) k = if p (xs.getD k d) then (k : Int) else fi p (xs.drop (k + 1)) (k + 1) := by
 rw [getD_drop xs k d h]
 rfl
theorem below_seq {w a b : World} (h : Below w.heap.size w a) (k : Below a.heap.size a b) : Below w.heap.size w b := h.trans (k.mono h.size)
theorem ret_bool {a b : Bool} (h : a = b) : Ending.returned (.bool a) = .returned (.bool b) := by rw [h]
theorem ret_int {k : IntKind} {a b : Int} (h : a = b) : Ending.returned (.int k a) = .returned (.int k b) := by rw [h]
theorem enters {g : Nat} {fn : Func} {c : Code} (hf : Try.prog.funcs[g]? = some fn) (hname : (fn.name == "runtime.NumGoroutine") = false) (hb : fn.body = some c) :
  ∀ args w, (callFunc g args).run Try.prog w = .ok (.enter g args) w := by
 intro args w
 have h1 : fn.name ≠ "runtime.NumGoroutine" := by simpa using hname
 simp [callFunc, hf, h1, hb, mark]
def enc_rd_Street (xs : List S115) (k : Nat) : S115 := rd_T115 xs (k : Int)
def enc_rd_Join (xs : List S119) (k : Nat) : S119 := rd_T119 xs (k : Int)
def enc_rd_Num (xs : List Int) (k : Nat) : Int := rd xs (k : Int)
def enc_Street (x : S115) : Value := .agg #[.int .i64 x.f0, .int .i64 x.f1, .int .i64 x.f2, .int .i64 x.f3.f0, .int .i64 x.f3.f1]
/-- A function value that answers p of each element, in whatever world that keeps what is there. -/
def Pred_Street (g : Nat) (first cap : Array Value) (p : S115 → Bool) (w : World) : Prop :=
 ∀ (W : World) (x : S115), Below w.heap.size w W → Calls Try.prog g (first.push (enc_Street x) ++ cap) W fun e w' => e = .returned (.bool (p x)) ∧ Below W.heap.size W w'
theorem Pred_Street.later {g : Nat} {first cap : Array Value} {p : S115 → Bool} {w W : World} (h : Pred_Street g first cap p w) (hb : Below w.heap.size w W) : Pred_Street g first cap p W :=
 fun W' x hb' => h W' x (hb.trans (hb'.mono hb.size))
set_option maxHeartbeats 1000000 in
theorem index_Street (g : Nat) (cap : Array Value) (hg : ∀ args w, (callFunc g args).run Try.prog w = .ok (.enter g args) w) (p : S115 → Bool) (A : Option Addr) (c : Nat) (xs : List S115) (w : World)
  (hr : Kd.C k115 w A xs.length xs) (hlen : xs.length ≤ 9223372036854775807) (hp : Pred_Street g #[] cap p w) :
  Calls Try.prog 129 #[.slice A xs.length c, .func (.func g) #[] cap] w fun e w' => e = .returned (.int .i64 (fi p xs 0)) ∧ Below w.heap.size w w' := by
 have HR := Aside0.mk hr
 have HP := Aside0.mk hp
 clear hr hp
 go_enter Try.func129, Try.ntmps129
 go_wp2
 go_loopw [8] (fun v wr => ∃ k : Nat, k ≤ xs.length ∧ v = .int .i64 k ∧ Aside0 (Below w.heap.size w wr) ∧ Aside0 (fi p xs 0 = fi p (xs.drop k) k)) (fun v _ => xs.length - (intOf v).toNat)
 case atStart => exact ⟨0, Nat.zero_le _, rfl, ⟨Below.refl _ _⟩, ⟨rfl⟩⟩
 case round =>
  obtain ⟨k, hk, rfl, HB, HF⟩ := hrel
  by_cases hlt : k < xs.length
  ·obtain ⟨ad, e, h0, h1, h2, h3, h4⟩ := at_T115 HR.out k (by omega) (by omega)
   cases e
   have hb := HB.out
   replace h0 := (hb.cell (World.block_lt_of_cell? w _ h0)).trans h0
   replace h1 := (hb.cell (World.block_lt_of_cell? w _ h1)).trans h1
   replace h2 := (hb.cell (World.block_lt_of_cell? w _ h2)).trans h2
   replace h3 := (hb.cell (World.block_lt_of_cell? w _ h3)).trans h3
   replace h4 := (hb.cell (World.block_lt_of_cell? w _ h4)).trans h4
   simp only [Int.toNat_natCast] at h0 h1 h2 h3 h4
   clear hb HR
   go_wp2_with fail
   have hc := HP.out wr (enc_rd_Street xs k) HB.out
   simp only [enc_Street, enc_rd_Street, List.push_toArray, List.nil_append] at hc
   have hfs := Aside0.mk (fi_step p xs k z115 hlt)
   rw [show xs.getD k z115 = enc_rd_Street xs k from by simp [enc_rd_Street, rd_T115, Int.toNat_natCast]] at hfs
   have HX : Aside0 (∃ y, y = enc_rd_Street xs k) := ⟨⟨_, rfl⟩⟩
   refine (hc).mono ?_
   rintro e w' ⟨rfl, hb'⟩
   have HB' := Aside0.mk (below_seq HB.out hb')
   clear hb' h0 h1 h2 h3 h4 hc HB
   cases hpx : p (enc_rd_Street xs k)
   ·simp only [enc_rd_Street] at hpx
    have HPX := Aside0.mk hpx
    clear hpx
    simp only [HPX.out]
    go_wp2
    go_roundw
    case rel => exact ⟨k + 1, by omega, by go_num, HB', ⟨by rw [HF.out, hfs.out, if_neg (by simp [enc_rd_Street, HPX.out])]⟩⟩
    case measure => simp [intOf]; omega
   ·simp only [enc_rd_Street] at hpx
    have HPX := Aside0.mk hpx
    clear hpx
    simp only [HPX.out]
    go_wp2
    go_ret
    exact ⟨ret_int (by rw [HF.out, hfs.out, if_pos (by simp [enc_rd_Street, HPX.out])]), HB'.out⟩
  ·have hk' : k = xs.length := by omega
   subst hk'
   go_wp2
   go_ret
   exact ⟨ret_int (by rw [HF.out, List.drop_length]; rfl), HB.out⟩
theorem contains_Street (g : Nat) (cap : Array Value) (hg : ∀ args w, (callFunc g args).run Try.prog w = .ok (.enter g args) w) (p : S115 → Bool) (A : Option Addr) (c : Nat) (xs : List S115) (w : World)
  (hr : Kd.C k115 w A xs.length xs) (hlen : xs.length ≤ 9223372036854775807) (hp : Pred_Street g #[] cap p w) :
  Calls Try.prog 113 #[.slice A xs.length c, .func (.func g) #[] cap] w fun e w' => e = .returned (.bool (xs.any p)) ∧ Below w.heap.size w w' := by
 go_enter Try.func113, Try.ntmps113
 go_wp2_with fail
 refine (index_Street g cap hg p A c xs w hr hlen hp).mono ?_
 rintro e w' ⟨rfl, hb⟩
 obtain ⟨j, hj⟩ : ∃ j, fi p xs 0 = j := ⟨_, rfl⟩
 have hn := Aside0.mk (fi_nonneg p xs 0)
 rw [hj] at hn ⊢
 clear hj
 go_wp2
 go_ret
 exact ⟨ret_bool (by rw [← hn.out]), hb⟩
theorem all1_Street (g : Nat) (first cap : Array Value) (hg : ∀ args w, (callFunc g args).run Try.prog w = .ok (.enter g args) w) (p : S115 → Bool) (x : S115) (gp : Nat) (w : World)
  (hc : w.cell? ⟨gp, 0, none⟩ = some (.func (.func g) first cap)) (hp : Pred_Street g first cap p w) :
  Calls Try.prog 114 ((#[] : Array Value).push (enc_Street x) ++ #[.pointer (some ⟨gp, 0, none⟩)]) w fun e w' => e = .returned (.bool (!p x)) ∧ Below w.heap.size w w' := by
 simp only [Array.empty_append, List.push_toArray, List.append_toArray, List.nil_append, List.cons_append, enc_Street]
 have hgp : gp < w.heap.size := World.block_lt_of_cell? w _ hc
 have HP := Aside0.mk hp
 clear hp
 go_enter Try.func114, Try.ntmps114
 go_wp2_with fail
 have hc := HP.out _ x ((Below.refl w.heap.size w).alloc (Nat.le_refl _) (.cells #[.int .i64 x.f0, .int .i64 x.f1, .int .i64 x.f2, .int .i64 x.f3.f0, .int .i64 x.f3.f1] 115))
 simp only [enc_Street] at hc
 refine hc.mono ?_
 rintro e w' ⟨rfl, hb⟩
 obtain ⟨b, hb1⟩ : ∃ b, p x = b := ⟨_, rfl⟩
 rw [hb1]
 go_wp2
 go_ret
 exact ⟨ret_bool (by rw [hb1]), below_seq ((Below.refl w.heap.size w).alloc (Nat.le_refl _) (.cells #[.int .i64 x.f0, .int .i64 x.f1, .int .i64 x.f2, .int .i64 x.f3.f0, .int .i64 x.f3.f1] 115)) hb⟩
theorem all_Street (g : Nat) (first cap : Array Value) (hg : ∀ args w, (callFunc g args).run Try.prog w = .ok (.enter g args) w) (p : S115 → Bool) (A : Option Addr) (c : Nat) (xs : List S115) (w : World)
  (hr : Kd.C k115 w A xs.length xs) (hlen : xs.length ≤ 9223372036854775807) (hp : Pred_Street g first cap p w) :
  Calls Try.prog 93 #[.slice A xs.length c, .func (.func g) first cap] w fun e w' => e = .returned (.bool (xs.all p)) ∧ Below w.heap.size w w' := by
 go_enter Try.func93, Try.ntmps93
 have HR := Aside0.mk hr
 have HP := Aside0.mk hp
 clear hr hp
 go_wp2_with fail
 have hB : Below w.heap.size w (w.alloc (.cells #[.func (.func g) first cap] 171)) := (Below.refl _ _).alloc (Nat.le_refl _) _
 refine (contains_Street 114 #[.pointer (some ⟨w.heap.size, 0, none⟩)] (enters Try.func114 (by kernel_rfl) rfl) (fun x => !p x) A c xs _ (Kd.C_below HR.out hB) hlen ?_).mono ?_
 ·intro W x hW
  refine all1_Street g first cap hg p x w.heap.size W ?_ (HP.out.later (hB.trans (hW.mono hB.size)))
  rw [hW.cell (p := ⟨w.heap.size, 0, none⟩) (by simp)]
  simp
 rintro e w' ⟨rfl, hb⟩
 have hn := Aside0.mk (List.any_eq_not_all_not (l := xs) (p := fun x => !p x))
 obtain ⟨j, hj⟩ : ∃ j, (xs.any fun x => !p x) = j := ⟨_, rfl⟩
 rw [hj] at hn ⊢
 clear hj
 go_wp2
 go_ret
 exact ⟨ret_bool (by rw [hn.out]; simp), below_seq hB hb⟩
def enc_Join (x : S119) : Value := .agg #[.int .i64 x.f0, .int .i64 x.f1]
/-- A function value that answers p of each element, in whatever world that keeps what is there. -/
def Pred_Join (g : Nat) (first cap : Array Value) (p : S119 → Bool) (w : World) : Prop :=
 ∀ (W : World) (x : S119), Below w.heap.size w W → Calls Try.prog g (first.push (enc_Join x) ++ cap) W fun e w' => e = .returned (.bool (p x)) ∧ Below W.heap.size W w'
theorem Pred_Join.later {g : Nat} {first cap : Array Value} {p : S119 → Bool} {w W : World} (h : Pred_Join g first cap p w) (hb : Below w.heap.size w W) : Pred_Join g first cap p W :=
 fun W' x hb' => h W' x (hb.trans (hb'.mono hb.size))
set_option maxHeartbeats 1000000 in
theorem index_Join (g : Nat) (cap : Array Value) (hg : ∀ args w, (callFunc g args).run Try.prog w = .ok (.enter g args) w) (p : S119 → Bool) (A : Option Addr) (c : Nat) (xs : List S119) (w : World)
  (hr : Kd.C k119 w A xs.length xs) (hlen : xs.length ≤ 9223372036854775807) (hp : Pred_Join g #[] cap p w) :
  Calls Try.prog 130 #[.slice A xs.length c, .func (.func g) #[] cap] w fun e w' => e = .returned (.int .i64 (fi p xs 0)) ∧ Below w.heap.size w w' := by
 have HR := Aside0.mk hr
 have HP := Aside0.mk hp
 clear hr hp
 go_enter Try.func130, Try.ntmps130
 go_wp2
 go_loopw [8] (fun v wr => ∃ k : Nat, k ≤ xs.length ∧ v = .int .i64 k ∧ Aside0 (Below w.heap.size w wr) ∧ Aside0 (fi p xs 0 = fi p (xs.drop k) k)) (fun v _ => xs.length - (intOf v).toNat)
 case atStart => exact ⟨0, Nat.zero_le _, rfl, ⟨Below.refl _ _⟩, ⟨rfl⟩⟩
 case round =>
  obtain ⟨k, hk, rfl, HB, HF⟩ := hrel
  by_cases hlt : k < xs.length
  ·obtain ⟨ad, e, h0, h1⟩ := at_T119 HR.out k (by omega) (by omega)
   cases e
   have hb := HB.out
   replace h0 := (hb.cell (World.block_lt_of_cell? w _ h0)).trans h0
   replace h1 := (hb.cell (World.block_lt_of_cell? w _ h1)).trans h1
   simp only [Int.toNat_natCast] at h0 h1
   clear hb HR
   go_wp2_with fail
   have hc := HP.out wr (enc_rd_Join xs k) HB.out
   simp only [enc_Join, enc_rd_Join, List.push_toArray, List.nil_append] at hc
   have hfs := Aside0.mk (fi_step p xs k z119 hlt)
   rw [show xs.getD k z119 = enc_rd_Join xs k from by simp [enc_rd_Join, rd_T119, Int.toNat_natCast]] at hfs
   have HX : Aside0 (∃ y, y = enc_rd_Join xs k) := ⟨⟨_, rfl⟩⟩
   refine (hc).mono ?_
   rintro e w' ⟨rfl, hb'⟩
   have HB' := Aside0.mk (below_seq HB.out hb')
   clear hb' h0 h1 hc HB
   cases hpx : p (enc_rd_Join xs k)
   ·simp only [enc_rd_Join] at hpx
    have HPX := Aside0.mk hpx
    clear hpx
    simp only [HPX.out]
    go_wp2
    go_roundw
    case rel => exact ⟨k + 1, by omega, by go_num, HB', ⟨by rw [HF.out, hfs.out, if_neg (by simp [enc_rd_Join, HPX.out])]⟩⟩
    case measure => simp [intOf]; omega
   ·simp only [enc_rd_Join] at hpx
    have HPX := Aside0.mk hpx
    clear hpx
    simp only [HPX.out]
    go_wp2
    go_ret
    exact ⟨ret_int (by rw [HF.out, hfs.out, if_pos (by simp [enc_rd_Join, HPX.out])]), HB'.out⟩
  ·have hk' : k = xs.length := by omega
   subst hk'
   go_wp2
   go_ret
   exact ⟨ret_int (by rw [HF.out, List.drop_length]; rfl), HB.out⟩
theorem contains_Join (g : Nat) (cap : Array Value) (hg : ∀ args w, (callFunc g args).run Try.prog w = .ok (.enter g args) w) (p : S119 → Bool) (A : Option Addr) (c : Nat) (xs : List S119) (w : World)
  (hr : Kd.C k119 w A xs.length xs) (hlen : xs.length ≤ 9223372036854775807) (hp : Pred_Join g #[] cap p w) :
  Calls Try.prog 115 #[.slice A xs.length c, .func (.func g) #[] cap] w fun e w' => e = .returned (.bool (xs.any p)) ∧ Below w.heap.size w w' := by
 go_enter Try.func115, Try.ntmps115
 go_wp2_with fail
 refine (index_Join g cap hg p A c xs w hr hlen hp).mono ?_
 rintro e w' ⟨rfl, hb⟩
 obtain ⟨j, hj⟩ : ∃ j, fi p xs 0 = j := ⟨_, rfl⟩
 have hn := Aside0.mk (fi_nonneg p xs 0)
 rw [hj] at hn ⊢
 clear hj
 go_wp2
 go_ret
 exact ⟨ret_bool (by rw [← hn.out]), hb⟩
theorem all1_Join (g : Nat) (first cap : Array Value) (hg : ∀ args w, (callFunc g args).run Try.prog w = .ok (.enter g args) w) (p : S119 → Bool) (x : S119) (gp : Nat) (w : World)
  (hc : w.cell? ⟨gp, 0, none⟩ = some (.func (.func g) first cap)) (hp : Pred_Join g first cap p w) :
  Calls Try.prog 116 ((#[] : Array Value).push (enc_Join x) ++ #[.pointer (some ⟨gp, 0, none⟩)]) w fun e w' => e = .returned (.bool (!p x)) ∧ Below w.heap.size w w' := by
 simp only [Array.empty_append, List.push_toArray, List.append_toArray, List.nil_append, List.cons_append, enc_Join]
 have hgp : gp < w.heap.size := World.block_lt_of_cell? w _ hc
 have HP := Aside0.mk hp
 clear hp
 go_enter Try.func116, Try.ntmps116
 go_wp2_with fail
 have hc := HP.out _ x ((Below.refl w.heap.size w).alloc (Nat.le_refl _) (.cells #[.int .i64 x.f0, .int .i64 x.f1] 119))
 simp only [enc_Join] at hc
 refine hc.mono ?_
 rintro e w' ⟨rfl, hb⟩
 obtain ⟨b, hb1⟩ : ∃ b, p x = b := ⟨_, rfl⟩
 rw [hb1]
 go_wp2
 go_ret
 exact ⟨ret_bool (by rw [hb1]), below_seq ((Below.refl w.heap.size w).alloc (Nat.le_refl _) (.cells #[.int .i64 x.f0, .int .i64 x.f1] 119)) hb⟩
theorem all_Join (g : Nat) (first cap : Array Value) (hg : ∀ args w, (callFunc g args).run Try.prog w = .ok (.enter g args) w) (p : S119 → Bool) (A : Option Addr) (c : Nat) (xs : List S119) (w : World)
  (hr : Kd.C k119 w A xs.length xs) (hlen : xs.length ≤ 9223372036854775807) (hp : Pred_Join g first cap p w) :
  Calls Try.prog 95 #[.slice A xs.length c, .func (.func g) first cap] w fun e w' => e = .returned (.bool (xs.all p)) ∧ Below w.heap.size w w' := by
 go_enter Try.func95, Try.ntmps95
 have HR := Aside0.mk hr
 have HP := Aside0.mk hp
 clear hr hp
 go_wp2_with fail
 have hB : Below w.heap.size w (w.alloc (.cells #[.func (.func g) first cap] 172)) := (Below.refl _ _).alloc (Nat.le_refl _) _
 refine (contains_Join 116 #[.pointer (some ⟨w.heap.size, 0, none⟩)] (enters Try.func116 (by kernel_rfl) rfl) (fun x => !p x) A c xs _ (Kd.C_below HR.out hB) hlen ?_).mono ?_
 ·intro W x hW
  refine all1_Join g first cap hg p x w.heap.size W ?_ (HP.out.later (hB.trans (hW.mono hB.size)))
  rw [hW.cell (p := ⟨w.heap.size, 0, none⟩) (by simp)]
  simp
 rintro e w' ⟨rfl, hb⟩
 have hn := Aside0.mk (List.any_eq_not_all_not (l := xs) (p := fun x => !p x))
 obtain ⟨j, hj⟩ : ∃ j, (xs.any fun x => !p x) = j := ⟨_, rfl⟩
 rw [hj] at hn ⊢
 clear hj
 go_wp2
 go_ret
 exact ⟨ret_bool (by rw [hn.out]; simp), below_seq hB hb⟩
def enc_Num (x : Int) : Value := .int .i64 x
/-- A function value that answers p of each element, in whatever world that keeps what is there. -/
def Pred_Num (g : Nat) (first cap : Array Value) (p : Int → Bool) (w : World) : Prop :=
 ∀ (W : World) (x : Int), Below w.heap.size w W → Calls Try.prog g (first.push (enc_Num x) ++ cap) W fun e w' => e = .returned (.bool (p x)) ∧ Below W.heap.size W w'
theorem Pred_Num.later {g : Nat} {first cap : Array Value} {p : Int → Bool} {w W : World} (h : Pred_Num g first cap p w) (hb : Below w.heap.size w W) : Pred_Num g first cap p W :=
 fun W' x hb' => h W' x (hb.trans (hb'.mono hb.size))
set_option maxHeartbeats 1000000 in
theorem index_Num (g : Nat) (cap : Array Value) (hg : ∀ args w, (callFunc g args).run Try.prog w = .ok (.enter g args) w) (p : Int → Bool) (A : Option Addr) (c : Nat) (xs : List Int) (w : World)
  (hr : Kd.C (Kd.int .i64) w A xs.length xs) (hlen : xs.length ≤ 9223372036854775807) (hp : Pred_Num g #[] cap p w) :
  Calls Try.prog 106 #[.slice A xs.length c, .func (.func g) #[] cap] w fun e w' => e = .returned (.int .i64 (fi p xs 0)) ∧ Below w.heap.size w w' := by
 have HR := Aside0.mk hr
 have HP := Aside0.mk hp
 clear hr hp
 go_enter Try.func106, Try.ntmps106
 go_wp2
 go_loopw [8] (fun v wr => ∃ k : Nat, k ≤ xs.length ∧ v = .int .i64 k ∧ Aside0 (Below w.heap.size w wr) ∧ Aside0 (fi p xs 0 = fi p (xs.drop k) k)) (fun v _ => xs.length - (intOf v).toNat)
 case atStart => exact ⟨0, Nat.zero_le _, rfl, ⟨Below.refl _ _⟩, ⟨rfl⟩⟩
 case round =>
  obtain ⟨k, hk, rfl, HB, HF⟩ := hrel
  by_cases hlt : k < xs.length
  ·obtain ⟨ad, e, h0⟩ := Kd.at_int HR.out k (by omega) (by omega)
   cases e
   have hb := HB.out
   replace h0 := (hb.cell (World.block_lt_of_cell? w _ h0)).trans h0
   simp only [Int.toNat_natCast] at h0
   clear hb HR
   go_wp2_with fail
   have hc := HP.out wr (enc_rd_Num xs k) HB.out
   simp only [enc_Num, enc_rd_Num, List.push_toArray, List.nil_append] at hc
   have hfs := Aside0.mk (fi_step p xs k 0 hlt)
   rw [show xs.getD k 0 = enc_rd_Num xs k from by simp [enc_rd_Num, rd, Int.toNat_natCast]] at hfs
   have HX : Aside0 (∃ y, y = enc_rd_Num xs k) := ⟨⟨_, rfl⟩⟩
   refine (hc).mono ?_
   rintro e w' ⟨rfl, hb'⟩
   have HB' := Aside0.mk (below_seq HB.out hb')
   clear hb' h0 hc HB
   cases hpx : p (enc_rd_Num xs k)
   ·simp only [enc_rd_Num] at hpx
    have HPX := Aside0.mk hpx
    clear hpx
    simp only [HPX.out]
    go_wp2
    go_roundw
    case rel => exact ⟨k + 1, by omega, by go_num, HB', ⟨by rw [HF.out, hfs.out, if_neg (by simp [enc_rd_Num, HPX.out])]⟩⟩
    case measure => simp [intOf]; omega
   ·simp only [enc_rd_Num] at hpx
    have HPX := Aside0.mk hpx
    clear hpx
    simp only [HPX.out]
    go_wp2
    go_ret
    exact ⟨ret_int (by rw [HF.out, hfs.out, if_pos (by simp [enc_rd_Num, HPX.out])]), HB'.out⟩
  ·have hk' : k = xs.length := by omega
   subst hk'
   go_wp2
   go_ret
   exact ⟨ret_int (by rw [HF.out, List.drop_length]; rfl), HB.out⟩
theorem contains_Num (g : Nat) (cap : Array Value) (hg : ∀ args w, (callFunc g args).run Try.prog w = .ok (.enter g args) w) (p : Int → Bool) (A : Option Addr) (c : Nat) (xs : List Int) (w : World)
  (hr : Kd.C (Kd.int .i64) w A xs.length xs) (hlen : xs.length ≤ 9223372036854775807) (hp : Pred_Num g #[] cap p w) :
  Calls Try.prog 74 #[.slice A xs.length c, .func (.func g) #[] cap] w fun e w' => e = .returned (.bool (xs.any p)) ∧ Below w.heap.size w w' := by
 go_enter Try.func74, Try.ntmps74
 go_wp2_with fail
 refine (index_Num g cap hg p A c xs w hr hlen hp).mono ?_
 rintro e w' ⟨rfl, hb⟩
 obtain ⟨j, hj⟩ : ∃ j, fi p xs 0 = j := ⟨_, rfl⟩
 have hn := Aside0.mk (fi_nonneg p xs 0)
 rw [hj] at hn ⊢
 clear hj
 go_wp2
 go_ret
 exact ⟨ret_bool (by rw [← hn.out]), hb⟩
theorem all1_Num (g : Nat) (first cap : Array Value) (hg : ∀ args w, (callFunc g args).run Try.prog w = .ok (.enter g args) w) (p : Int → Bool) (x : Int) (gp : Nat) (w : World)
  (hc : w.cell? ⟨gp, 0, none⟩ = some (.func (.func g) first cap)) (hp : Pred_Num g first cap p w) :
  Calls Try.prog 112 ((#[] : Array Value).push (enc_Num x) ++ #[.pointer (some ⟨gp, 0, none⟩)]) w fun e w' => e = .returned (.bool (!p x)) ∧ Below w.heap.size w w' := by
 simp only [Array.empty_append, List.push_toArray, List.append_toArray, List.nil_append, List.cons_append, enc_Num]
 have hgp : gp < w.heap.size := World.block_lt_of_cell? w _ hc
 have HP := Aside0.mk hp
 clear hp
 go_enter Try.func112, Try.ntmps112
 go_wp2_with fail
 have hc := HP.out _ x (Below.refl _ _)
 simp only [enc_Num] at hc
 refine hc.mono ?_
 rintro e w' ⟨rfl, hb⟩
 obtain ⟨b, hb1⟩ : ∃ b, p x = b := ⟨_, rfl⟩
 rw [hb1]
 go_wp2
 go_ret
 exact ⟨ret_bool (by rw [hb1]), below_seq (Below.refl _ _) hb⟩
theorem all_Num (g : Nat) (first cap : Array Value) (hg : ∀ args w, (callFunc g args).run Try.prog w = .ok (.enter g args) w) (p : Int → Bool) (A : Option Addr) (c : Nat) (xs : List Int) (w : World)
  (hr : Kd.C (Kd.int .i64) w A xs.length xs) (hlen : xs.length ≤ 9223372036854775807) (hp : Pred_Num g first cap p w) :
  Calls Try.prog 91 #[.slice A xs.length c, .func (.func g) first cap] w fun e w' => e = .returned (.bool (xs.all p)) ∧ Below w.heap.size w w' := by
 go_enter Try.func91, Try.ntmps91
 have HR := Aside0.mk hr
 have HP := Aside0.mk hp
 clear hr hp
 go_wp2_with fail
 have hB : Below w.heap.size w (w.alloc (.cells #[.func (.func g) first cap] 83)) := (Below.refl _ _).alloc (Nat.le_refl _) _
 refine (contains_Num 112 #[.pointer (some ⟨w.heap.size, 0, none⟩)] (enters Try.func112 (by kernel_rfl) rfl) (fun x => !p x) A c xs _ (Kd.C_below HR.out hB) hlen ?_).mono ?_
 ·intro W x hW
  refine all1_Num g first cap hg p x w.heap.size W ?_ (HP.out.later (hB.trans (hW.mono hB.size)))
  rw [hW.cell (p := ⟨w.heap.size, 0, none⟩) (by simp)]
  simp
 rintro e w' ⟨rfl, hb⟩
 have hn := Aside0.mk (List.any_eq_not_all_not (l := xs) (p := fun x => !p x))
 obtain ⟨j, hj⟩ : ∃ j, (xs.any fun x => !p x) = j := ⟨_, rfl⟩
 rw [hj] at hn ⊢
 clear hj
 go_wp2
 go_ret
 exact ⟨ret_bool (by rw [hn.out]; simp), below_seq hB hb⟩
theorem bcell {W w1 : World} (hb : Below W.heap.size W w1) : (∀ b o, b < W.heap.size → w1.cell? ⟨b, o, none⟩ = W.cell? ⟨b, o, none⟩) ∧ (∀ b o, b < W.heap.size → w1.frozen? ⟨b, o, none⟩ = W.frozen? ⟨b, o, none⟩) :=
 ⟨fun b o h => hb.cell (p := ⟨b, o, none⟩) h, fun b o h => hb.frozen (p := ⟨b, o, none⟩) h⟩
/-- A block of cells that nothing freezes. -/
def Blk (w : World) (g : Nat) (cs : List Value) (t : TypeId) : Prop := w.heap[g]? = some (.cells cs.toArray t (0, 0))
theorem Blk.below {w w1 : World} {g : Nat} {cs : List Value} {t : TypeId} (h : Blk w g cs t) (hb : Below w.heap.size w w1) : Blk w1 g cs t := blk_below h hb
theorem Blk.cell {w : World} {g : Nat} {cs : List Value} {t : TypeId} (h : Blk w g cs t) (i : Nat) : w.cell? ⟨g, i, none⟩ = cs[i]? := (blk_cell h i).trans (by simp)
theorem Blk.frozen {w : World} {g : Nat} {cs : List Value} {t : TypeId} (h : Blk w g cs t) (i : Nat) : w.frozen? ⟨g, i, none⟩ = false := blk_frozen h i
theorem Blk.lt {w : World} {g : Nat} {cs : List Value} {t : TypeId} (h : Blk w g cs t) : g < w.heap.size := blk_lt h
theorem Blk.new (w : World) (cs : List Value) (t : TypeId) : Blk (w.alloc (.cells cs.toArray t)) w.heap.size cs t := heap_alloc_new w _
theorem Blk.alloc {w : World} {g : Nat} {cs : List Value} {t : TypeId} (h : Blk w g cs t) (o : Obj) : Blk (w.alloc o) g cs t := blk_alloc h o
/-- Below n₀ all is as it was, but for the blocks of S; the streams are as they were. -/
structure Keep (n₀ : Nat) (S : Nat → Prop) (w w' : World) : Prop where
 os : w'.os = w.os
 tape : w'.tape = w.tape
 output : w'.output = w.output
 size : w.heap.size ≤ w'.heap.size
 block : ∀ k, k < n₀ → ¬ S k → w'.heap[k]? = w.heap[k]?
theorem Keep.refl (n₀ : Nat) (S : Nat → Prop) (w : World) : Keep n₀ S w w := ⟨rfl, rfl, rfl, Nat.le_refl _, fun _ _ _ => rfl⟩
theorem Keep.trans {n₀ : Nat} {S : Nat → Prop} {a b c : World} (h : Keep n₀ S a b) (k : Keep n₀ S b c) : Keep n₀ S a c :=
 ⟨k.os.trans h.os, k.tape.trans h.tape, k.output.trans h.output, Nat.le_trans h.size k.size, fun i hi hs => (k.block i hi hs).trans (h.block i hi hs)⟩
theorem Keep.of_below {n₀ B : Nat} {S : Nat → Prop} {a b : World} (h : Below B a b) (hB : n₀ ≤ B) : Keep n₀ S a b := ⟨h.os, h.tape, h.output, h.size, fun k hk _ => h.block k (by omega)⟩
theorem Keep.mono {n₀ n₁ : Nat} {S T : Nat → Prop} {a b : World} (h : Keep n₀ S a b) (hn : n₁ ≤ n₀) (hS : ∀ k, k < n₁ → S k → T k) : Keep n₁ T a b := ⟨h.os, h.tape, h.output, h.size, fun k hk hs => h.block k (by omega) (fun x => hs (hS k hk x))⟩
theorem Keep.alloc {n₀ : Nat} {S : Nat → Prop} {a b : World} (h : Keep n₀ S a b) (hB : n₀ ≤ b.heap.size) (o : Obj) : Keep n₀ S a (b.alloc o) :=
 h.trans (Keep.of_below ((Below.refl b.heap.size b).alloc (Nat.le_refl _) o) hB)
theorem Keep.setCell {n₀ : Nat} {S : Nat → Prop} {a b : World} (h : Keep n₀ S a b) {p : Addr} (hp : S p.block ∨ n₀ ≤ p.block) (u : Value) : Keep n₀ S a (b.setCell p u) :=
 h.trans ⟨rfl, rfl, rfl, by simp [World.setCell], fun k hk hs => Below.heap_setCell _ _ _ _ (by
  rintro rfl
  rcases hp with hp | hp
  ·exact hs hp
  ·omega)⟩
theorem Keep.drewN {n₀ : Nat} {S : Nat → Prop} {a b : World} (h : Keep n₀ S a b) (n : Nat) : Keep n₀ S a (b.drewN n) := ⟨h.os, h.tape, h.output, h.size, h.block⟩
theorem Keep.drew {n₀ : Nat} {S : Nat → Prop} {a b : World} (h : Keep n₀ S a b) : Keep n₀ S a b.drew := ⟨h.os, h.tape, h.output, h.size, h.block⟩
theorem Keep.put {n₀ : Nat} {S : Nat → Prop} {a b : World} (h : Keep n₀ S a b) {l : Nat} (hl : S l ∨ n₀ ≤ l) (o : Obj) : Keep n₀ S a (b.putObj l o) :=
 h.trans ⟨rfl, rfl, rfl, by simp [World.putObj], fun k hk hs => World.putObj_heap_other (by
  rintro rfl
  rcases hl with hl | hl
  ·exact hs hl
  ·omega)⟩
theorem Keep.cell {n₀ : Nat} {S : Nat → Prop} {w w' : World} (h : Keep n₀ S w w') {p : Addr} (hp : p.block < n₀) (hs : ¬ S p.block) : w'.cell? p = w.cell? p := World.cell?_of_block (w := w) (h.block p.block hp hs)
theorem Keep.frozen {n₀ : Nat} {S : Nat → Prop} {w w' : World} (h : Keep n₀ S w w') {p : Addr} (hp : p.block < n₀) (hs : ¬ S p.block) : w'.frozen? p = w.frozen? p := World.frozen?_of_block (w := w) (h.block p.block hp hs)
theorem keepK_b {n₀ : Nat} {S : Nat → Prop} {w : World} (hn : n₀ ≤ w.heap.size) (W : World) (l : Nat) (o o' : Obj) (hl : w.heap.size ≤ l) (h : W.heap[l]? = some o) (_ : o.isCells = false) (_ : o.isWalk = false) : Keep n₀ S W (W.putObj l o') :=
 Keep.of_below ((Below.refl n₀ W).grown (grownBy_putObj' W l o') (by have := (Array.getElem?_eq_some_iff.1 h).1; omega) (fun k e => by cases e; omega)) (Nat.le_refl _)
theorem Blk.move {w w' : World} {g : Nat} {cs : List Value} {t : TypeId} (h : Blk w g cs t) (e : w'.heap[g]? = w.heap[g]?) : Blk w' g cs t := e.trans h
theorem Blk.set2 {w : World} {g : Nat} {a b : Value} {t : TypeId} (h : Blk w g [a, b] t) (u v : Value) : Blk ((w.setCell ⟨g, 0, none⟩ u).setCell ⟨g, 1, none⟩ v) g [u, v] t := by
 have := blk_set (blk_set h 0 u) 1 v
 exact this
theorem rd_get (l : List Int) (k : Nat) (h : k < l.length) : rd l (k : Int) = l[k] := by simp [rd, List.getD, h]
theorem wrap_small {a : Int} (h0 : 0 ≤ a) (h1 : a < 1000000000) : wrap64 a = a := by unfold wrap64; omega
theorem slice_of {α : Type} {d : Kd α} {e : Nat} {w : World} {base : Nat} {ok : Nat → Prop} {v : Value} {xs : List α} (h : d.R e w base ok v xs) : ∃ A n c, v = .slice A n c := by
 obtain ⟨a_, b_, e_, _, _⟩ := Kd.R_reads h
 exact ⟨_, _, _, e_⟩
theorem size_set (w : World) (p : Addr) (u : Value) : (w.setCell p u).heap.size = w.heap.size := by simp [World.setCell]
theorem size_alloc (w : World) (o : Obj) : w.heap.size < (w.alloc o).heap.size := by simp
/-! ### within, isCount, inside -/
def withinB (n lo hi : Int) : Bool := decide (lo ≤ n) && decide (n ≤ hi)
theorem within_calls (n lo hi : Int) (w : World) :
  Calls Try.prog 85 #[.int .i64 n, .int .i64 lo, .int .i64 hi] w fun e w' => e = .returned (.bool (withinB n lo hi)) ∧ Below w.heap.size w w' := by
 refine (border_within.calls n lo hi (withinB n lo hi) w ?_).mono ?_
 ·unfold border_within.f withinB
  by_cases h : lo ≤ n <;> simp [h]
 ·rintro e w' ⟨h1, h2⟩
  exact ⟨h1, h2.below⟩
theorem isCount_calls (n : Int) (w : World) : Calls Try.prog 92 #[.int .i64 n] w fun e w' => e = .returned (.bool (withinB n 0 10000)) ∧ Below w.heap.size w w' := by
 refine (border_isCount.calls n (withinB n 0 10000) w ?_).mono ?_
 ·unfold border_isCount.f border_within.f withinB
  by_cases h : 0 ≤ n <;> simp [h]
 ·rintro e w' ⟨h1, h2⟩
  exact ⟨h1, h2.below⟩
def insideB (lo hi b : Int) : Bool := decide (0 ≤ lo) && (decide (lo ≤ hi) && decide (hi ≤ b))
theorem inside_calls (lo hi b : Int) (w : World) :
  Calls Try.prog 96 #[.agg #[.int .i64 lo, .int .i64 hi], .int .i64 b] w fun e w' => e = .returned (.bool (insideB lo hi b)) ∧ Below w.heap.size w w' := by
 refine border_Range_inside.calls lo hi b (insideB lo hi b) w ?_
 unfold border_Range_inside.f insideB
 by_cases h : 0 ≤ lo <;> by_cases h' : lo ≤ hi <;> simp [h, h']
end Go.Proofs.Ytiddkceahbnolaa
namespace Go.Proofs.Ytiddkceahbnolaa
open Go.RowKit Go.Shelf Go.Proofs.Ytiddkceahbnolaa.PBorderOrder Go.Proofs.YtiddkceahbnolaaW.PrintWords Go.Proofs.YtiddkceahbnolaaW.PrintLast
set_option linter.all false
/-- A map of border in memory: its three rows. -/
structure IsB (w : World) (A0 : Option Addr) (c0 : Nat) (old : List Int) (A2 : Option Addr) (c2 : Nat) (ss : List S115) (A3 : Option Addr) (c3 : Nat) (js : List S119) : Prop where
 kold : Kd.C (Kd.int .i64) w A0 old.length old
 l0 : old.length ≤ c0
 kst : Kd.C k115 w A2 ss.length ss
 l2 : ss.length ≤ c2
 kjo : Kd.C k119 w A3 js.length js
 l3 : js.length ≤ c3
 b0 : old.length ≤ 281474976710656
 b2 : ss.length ≤ 281474976710656
 b3 : js.length ≤ 281474976710656
theorem IsB.below {w w1 : World} {A0 : Option Addr} {c0 : Nat} {old : List Int} {A2 : Option Addr} {c2 : Nat} {ss : List S115} {A3 : Option Addr} {c3 : Nat} {js : List S119} (h : IsB w A0 c0 old A2 c2 ss A3 c3 js) (hb : Below w.heap.size w w1) : IsB w1 A0 c0 old A2 c2 ss A3 c3 js :=
 ⟨Kd.C_below h.kold hb, h.l0, Kd.C_below h.kst hb, h.l2, Kd.C_below h.kjo hb, h.l3, h.b0, h.b2, h.b3⟩
def streetB (no : Nat) (nw : Int) (x : S115) : Bool := withinB x.f0 0 ((no : Int) - 1) && (withinB x.f1 0 (nw - 1) && (withinB x.f2 0 1000 && insideB x.f3.f0 x.f3.f1 10000))
def joinB (ns : Nat) (x : S119) : Bool := withinB x.f0 0 ((ns : Int) - 1) && (withinB x.f1 0 ((ns : Int) - 1) && (x.f0 != x.f1))
set_option maxHeartbeats 4000000 in
theorem street_calls {A0 : Option Addr} {c0 no : Nat} {nw : Int} {A2 : Option Addr} {c2 ns : Nat} {A3 : Option Addr} {c3 nj : Nat} (x : S115) (w : World) (hno : no ≤ 281474976710656) (hnw : 0 ≤ nw ∧ nw ≤ 1000) :
  Calls Try.prog 89 #[.agg #[.slice A0 no c0, .int .i64 nw, .slice A2 ns c2, .slice A3 nj c3], .agg #[.int .i64 x.f0, .int .i64 x.f1, .int .i64 x.f2, .int .i64 x.f3.f0, .int .i64 x.f3.f1]] w fun e w' => e = .returned (.bool (streetB no nw x)) ∧ Below w.heap.size w w' := by
 obtain ⟨y0, y1, y2, y3, y4⟩ := x
 have hw0 : wrap64 ((no : Int) - 1) = (no : Int) - 1 := by unfold wrap64; omega
 have hw1 : wrap64 (nw - 1) = nw - 1 := by unfold wrap64; omega
 unfold streetB
 simp only
 go_enter Try.func89, Try.ntmps89
 go_wp2_with fail
 have HB := Aside0.mk (below_alloc (below_alloc (Below.refl w.heap.size w) (.cells #[.slice A0 no c0, .int .i64 nw, .slice A2 ns c2, .slice A3 nj c3] 69)) (.cells #[.int .i64 y0, .int .i64 y1, .int .i64 y2, .int .i64 y3, .int .i64 y4] 115))
 have B2 := Aside0.mk ((Blk.new w [.slice A0 no c0, .int .i64 nw, .slice A2 ns c2, .slice A3 nj c3] 69).alloc (.cells #[.int .i64 y0, .int .i64 y1, .int .i64 y2, .int .i64 y3, .int .i64 y4] 115))
 have B3 := Aside0.mk (show Blk _ (w.heap.size + 1) _ _ by simpa using Blk.new (w.alloc (.cells #[.slice A0 no c0, .int .i64 nw, .slice A2 ns c2, .slice A3 nj c3] 69)) [.int .i64 y0, .int .i64 y1, .int .i64 y2, .int .i64 y3, .int .i64 y4] 115)
 generalize (w.alloc (.cells #[.slice A0 no c0, .int .i64 nw, .slice A2 ns c2, .slice A3 nj c3] 69)).alloc (.cells #[.int .i64 y0, .int .i64 y1, .int .i64 y2, .int .i64 y3, .int .i64 y4] 115) = w0 at HB B2 B3 ⊢
 refine (within_calls y0 0 ((no : Int) - 1) w0).mono ?_
 rintro e w1 ⟨rfl, hb1⟩
 have HB1 := Aside0.mk (HB.out.trans (hb1.mono HB.out.size))
 have B21 := Aside0.mk (B2.out.below hb1)
 have B31 := Aside0.mk (B3.out.below hb1)
 clear hb1 HB B2 B3
 cases h1 : withinB y0 0 ((no : Int) - 1)
 ·go_wp2
  go_ret
  exact ⟨ret_bool (by simp [h1]), HB1.out⟩
 have h20 := B21.out.cell 0
 have h21 := B21.out.cell 1
 have h30 := B31.out.cell 0
 have h31 := B31.out.cell 1
 have h32 := B31.out.cell 2
 simp only [List.getElem?_cons_zero, List.getElem?_cons_succ] at h20 h21 h30 h31 h32
 go_wp2_with fail
 refine (within_calls y1 0 (nw - 1) w1).mono ?_
 rintro e w2 ⟨rfl, hb2⟩
 have HB2 := Aside0.mk (HB1.out.trans (hb2.mono HB1.out.size))
 have B32 := Aside0.mk (B31.out.below hb2)
 clear hb2 HB1 B21 B31 h20 h21 h30 h31 h32
 cases h2 : withinB y1 0 (nw - 1)
 ·go_wp2
  go_ret
  exact ⟨ret_bool (by simp [h1, h2]), HB2.out⟩
 have h32 := B32.out.cell 2
 simp only [List.getElem?_cons_zero, List.getElem?_cons_succ] at h32
 go_wp2_with fail
 refine (within_calls y2 0 1000 w2).mono ?_
 rintro e w3 ⟨rfl, hb3⟩
 have HB3 := Aside0.mk (HB2.out.trans (hb3.mono HB2.out.size))
 have B33 := Aside0.mk (B32.out.below hb3)
 clear hb3 HB2 B32 h32
 cases h3 : withinB y2 0 1000
 ·go_wp2
  go_ret
  exact ⟨ret_bool (by simp [h1, h2, h3]), HB3.out⟩
 have h33 := B33.out.cell 3
 have h34 := B33.out.cell 4
 simp only [List.getElem?_cons_zero, List.getElem?_cons_succ] at h33 h34
 go_wp2_with fail
 refine (inside_calls y3 y4 10000 w3).mono ?_
 rintro e w4 ⟨rfl, hb4⟩
 have HB4 := Aside0.mk (HB3.out.trans (hb4.mono HB3.out.size))
 clear hb4
 cases h4 : insideB y3 y4 10000
 ·go_wp2
  go_ret
  exact ⟨ret_bool (by simp [h1, h2, h3, h4]), HB4.out⟩
 ·go_wp2
  go_ret
  exact ⟨ret_bool (by simp [h1, h2, h3, h4]), HB4.out⟩
set_option maxHeartbeats 4000000 in
theorem join_calls {A0 : Option Addr} {c0 no : Nat} {nw : Int} {A2 : Option Addr} {c2 ns : Nat} {A3 : Option Addr} {c3 nj : Nat} (x : S119) (w : World) (hns : ns ≤ 281474976710656) :
  Calls Try.prog 90 #[.agg #[.slice A0 no c0, .int .i64 nw, .slice A2 ns c2, .slice A3 nj c3], .agg #[.int .i64 x.f0, .int .i64 x.f1]] w fun e w' => e = .returned (.bool (joinB ns x)) ∧ Below w.heap.size w w' := by
 obtain ⟨y0, y1⟩ := x
 have hw0 : wrap64 ((ns : Int) - 1) = (ns : Int) - 1 := by unfold wrap64; omega
 unfold joinB
 simp only
 go_enter Try.func90, Try.ntmps90
 go_wp2_with fail
 have HB := Aside0.mk (below_alloc (below_alloc (Below.refl w.heap.size w) (.cells #[.slice A0 no c0, .int .i64 nw, .slice A2 ns c2, .slice A3 nj c3] 69)) (.cells #[.int .i64 y0, .int .i64 y1] 119))
 have B2 := Aside0.mk ((Blk.new w [.slice A0 no c0, .int .i64 nw, .slice A2 ns c2, .slice A3 nj c3] 69).alloc (.cells #[.int .i64 y0, .int .i64 y1] 119))
 have B3 := Aside0.mk (show Blk _ (w.heap.size + 1) _ _ by simpa using Blk.new (w.alloc (.cells #[.slice A0 no c0, .int .i64 nw, .slice A2 ns c2, .slice A3 nj c3] 69)) [.int .i64 y0, .int .i64 y1] 119)
 generalize (w.alloc (.cells #[.slice A0 no c0, .int .i64 nw, .slice A2 ns c2, .slice A3 nj c3] 69)).alloc (.cells #[.int .i64 y0, .int .i64 y1] 119) = w0 at HB B2 B3 ⊢
 refine (within_calls y0 0 ((ns : Int) - 1) w0).mono ?_
 rintro e w1 ⟨rfl, hb1⟩
 have HB1 := Aside0.mk (HB.out.trans (hb1.mono HB.out.size))
 have B21 := Aside0.mk (B2.out.below hb1)
 have B31 := Aside0.mk (B3.out.below hb1)
 clear hb1 HB B2 B3
 cases h1 : withinB y0 0 ((ns : Int) - 1)
 ·go_wp2
  go_ret
  exact ⟨ret_bool (by simp [h1]), HB1.out⟩
 have h22 := B21.out.cell 2
 have h31 := B31.out.cell 1
 simp only [List.getElem?_cons_zero, List.getElem?_cons_succ] at h22 h31
 go_wp2_with fail
 refine (within_calls y1 0 ((ns : Int) - 1) w1).mono ?_
 rintro e w2 ⟨rfl, hb2⟩
 have HB2 := Aside0.mk (HB1.out.trans (hb2.mono HB1.out.size))
 have B32 := Aside0.mk (B31.out.below hb2)
 clear hb2 HB1 B21 B31 h22 h31
 cases h2 : withinB y1 0 ((ns : Int) - 1)
 ·go_wp2
  go_ret
  exact ⟨ret_bool (by simp [h1, h2]), HB2.out⟩
 have h30 := B32.out.cell 0
 have h31 := B32.out.cell 1
 simp only [List.getElem?_cons_zero, List.getElem?_cons_succ] at h30 h31
 cases h3 : (y0 != y1)
 ·go_wp2
  go_ret
  exact ⟨ret_bool (by simp only [h1, h2, h3, Bool.and_self, Bool.and_false]), HB2.out⟩
 ·go_wp2
  go_ret
  exact ⟨ret_bool (by simp only [h1, h2, h3, Bool.and_self, Bool.and_false]), HB2.out⟩
end Go.Proofs.Ytiddkceahbnolaa
