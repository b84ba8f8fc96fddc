/- slices.Index, slices.Contains at int; walk's inner test of a walk. -/
import Derived.Test.YtiddkceahbnolaaRest
namespace Go.Proofs.Ytiddkceahbnolaa
open Go.RowKit Go.Shelf Go.Proofs.Ytiddkceahbnolaa.PWalkOrder Go.Proofs.YtiddkceahbnolaaW.PrintWords
set_option linter.unusedVariables false
set_option linter.unusedSimpArgs false

def risesB (l : List Int) : Bool := (walk_rises.f (l.length + 1) l).getD false
theorem rises_some (l : List Int) (hl : l.length < 1000000) : ∀ (d : Nat) (i : Nat), 1 ≤ i → l.length + 1 - i ≤ d → ∃ r, walk_rises.l0 (d + 1) l i = some r := by
 intro d
 induction d with
 | zero =>
  intro i h1 h2
  unfold walk_rises.l0
  rw [if_neg (by omega)]
  exact ⟨_, rfl⟩
 | succ d ih =>
  intro i h1 h2
  unfold walk_rises.l0
  by_cases h : (i : Int) < l.length
  ·have e1 : wrap64 ((i : Int) - 1) = (i : Int) - 1 := by unfold wrap64; omega
   have e2 : wrap64 ((i : Int) + 1) = ((i + 1 : Nat) : Int) := by unfold wrap64; omega
   rw [if_pos h, if_pos (by omega), e1, if_pos (by omega), if_pos (by omega), e2]
   by_cases h3 : rd l (i : Int) ≤ rd l ((i : Int) - 1)
   ·rw [if_pos h3]; exact ⟨_, rfl⟩
   ·rw [if_neg h3]; exact ih (i + 1) (by omega) (by omega)
  ·rw [if_neg h]
   exact ⟨_, rfl⟩
theorem rises_ok (l : List Int) (hl : l.length < 1000000) : walk_rises.f (l.length + 1) l = some (risesB l) := by
 obtain ⟨r, h⟩ := rises_some l hl l.length 1 (by omega) (by omega)
 have h' : walk_rises.f (l.length + 1) l = some r := h
 unfold risesB
 rw [h']
 rfl

set_option maxHeartbeats 1000000 in
theorem Index_calls (v : Int) (A : Option Addr) (c : Nat) (xs : List Int) (w : World)
  (hr : Kd.C (Kd.int .i64) w A xs.length xs) (hlen : xs.length ≤ 9223372036854775807) :
  Calls Try.prog 120 #[.slice A xs.length c, .int .i64 v] w fun e w' => e = .returned (.int .i64 (fi (fun y => v == y) xs 0)) ∧ Below w.heap.size w w' := by
 have HR := Aside0.mk hr
 clear hr
 go_enter Try.func120, Try.ntmps120
 go_wp2
 go_loopw [8] (fun v8 wr => ∃ k : Nat, k ≤ xs.length ∧ v8 = .int .i64 k ∧ Aside0 (Below w.heap.size w wr) ∧ Aside0 (fi (fun y => v == y) xs 0 = fi (fun y => v == y) (xs.drop k) k)) (fun v8 _ => xs.length - (intOf v8).toNat)
 case atStart => exact ⟨0, Nat.zero_le _, rfl, ⟨Below.refl _ _⟩, ⟨rfl⟩⟩
 case round =>
  obtain ⟨k, hk, rfl, HB, HF⟩ := hrel
  by_cases hlt : k < xs.length
  ·obtain ⟨ad, e, h0⟩ := Kd.at_int HR.out k (by omega) (by omega)
   cases e
   have hb := HB.out
   replace h0 := (hb.cell (World.block_lt_of_cell? w _ h0)).trans h0
   simp only [Int.toNat_natCast] at h0
   have hfs := Aside0.mk (fi_step (fun y => v == y) xs k 0 hlt)
   rw [show xs.getD k 0 = rd xs k from by simp [rd, Int.toNat_natCast]] at hfs
   obtain ⟨y, hy⟩ : ∃ y, rd xs k = y := ⟨_, rfl⟩
   rw [hy] at h0 hfs
   clear hb HR hy
   cases hv : (v == y)
   ·go_wp2_with fail
    go_roundw
    case rel => exact ⟨k + 1, by omega, by go_num, HB, ⟨by rw [HF.out, hfs.out, if_neg (by simp [hv])]⟩⟩
    case measure => simp [intOf]; omega
   ·go_wp2_with fail
    go_ret
    exact ⟨ret_int (by rw [HF.out, hfs.out, if_pos (by simp [hv])]), HB.out⟩
  ·have hk' : k = xs.length := by omega
   subst hk'
   go_wp2
   go_ret
   exact ⟨ret_int (by rw [HF.out, List.drop_length]; rfl), HB.out⟩
theorem Contains_calls (v : Int) (A : Option Addr) (c : Nat) (xs : List Int) (w : World)
  (hr : Kd.C (Kd.int .i64) w A xs.length xs) (hlen : xs.length ≤ 9223372036854775807) :
  Calls Try.prog 100 #[.slice A xs.length c, .int .i64 v] w fun e w' => e = .returned (.bool (xs.any (fun y => v == y))) ∧ Below w.heap.size w w' := by
 go_enter Try.func100, Try.ntmps100
 go_wp2_with fail
 refine (Index_calls v A c xs w hr hlen).mono ?_
 rintro e w' ⟨rfl, hb⟩
 have hf := Aside0.mk (fi_nonneg (fun y => v == y) xs 0)
 obtain ⟨j, hj⟩ : ∃ j, fi (fun y => v == y) xs 0 = j := ⟨_, rfl⟩
 rw [hj] at hf ⊢
 clear hj
 go_wp2
 go_ret
 exact ⟨ret_bool hf.out, hb⟩
/-- Whether a place is one of a walk's stops: the function value that walk makes over its parameter's box. -/
theorem visited_calls (g : Nat) (v : Int) (A : Option Addr) (c : Nat) (xs : List Int) (u : Value) (w : World)
  (hB : Blk w g [.slice A xs.length c, u] 44) (hr : Kd.C (Kd.int .i64) w A xs.length xs) (hlen : xs.length ≤ 9223372036854775807) :
  Calls Try.prog 99 #[.int .i64 v, .pointer (some ⟨g, 0, none⟩)] w fun e w' => e = .returned (.bool (xs.any (fun y => v == y))) ∧ Below w.heap.size w w' := by
 have h0 := hB.cell 0
 simp only [List.getElem?_cons_zero] at h0
 have hg := hB.lt
 go_enter Try.func99, Try.ntmps99
 go_wp2_with fail
 refine (Contains_calls v A c xs w hr hlen).mono ?_
 rintro e w' ⟨rfl, hb⟩
 obtain ⟨b, hb1⟩ : ∃ b, xs.any (fun y => v == y) = b := ⟨_, rfl⟩
 rw [hb1]
 have HX := Aside0.mk hb1
 clear hb1
 go_wp2
 go_ret
 exact ⟨ret_bool HX.out.symm, hb⟩
end Go.Proofs.Ytiddkceahbnolaa
