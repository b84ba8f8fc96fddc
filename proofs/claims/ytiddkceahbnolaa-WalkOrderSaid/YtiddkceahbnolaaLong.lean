/- walk's longest: the walk through its code. -/
import Derived.Test.YtiddkceahbnolaaRest
import Derived.Test.YtiddkceahbnolaaAtlW
namespace Go.Proofs.Ytiddkceahbnolaa
open Go.RowKit Go.Shelf Go.Proofs.Ytiddkceahbnolaa.PWalkOrder Go.Proofs.YtiddkceahbnolaaW.PrintWords Go.Proofs.YtiddkceahbnolaaW.PrintLast
attribute [local go_sem] legField0 legField1
set_option linter.unusedVariables false
set_option linter.unusedSimpArgs false

/-- What CheckMap says of the work. -/
def WorkOk (Wk : List S77) : Prop := ∀ r ∈ Wk, 0 ≤ r.f0 ∧ r.f0 ≤ r.f1 ∧ r.f1 ≤ 50
/-- An atlas of a map that lay in world w0, in world w. -/
structure AtlS (w0 w : World) (A0 : Option Addr) (c0 : Nat) (Wk : List S77) (A1 : Option Addr) (c1 : Nat) (R : List S94) (ga mb : Nat) (T F : Nat → Nat → Int) : Prop where
 map : IsMap w0 A0 c0 Wk A1 c1 R
 below : Below w0.heap.size w0 w
 lo : w0.heap.size ≤ mb
 atl : AtlM w ga (.slice A0 Wk.length c0) (.slice A1 R.length c1) T F mb
section
variable {w0 w w' : World} {A0 : Option Addr} {c0 : Nat} {Wk : List S77} {A1 : Option Addr} {c1 : Nat} {R : List S94} {ga mb : Nat} {T F : Nat → Nat → Int}
theorem AtlS.keep (h : AtlS w0 w A0 c0 Wk A1 c1 R ga mb T F) {n : Nat} (hn : w0.heap.size ≤ n) (k : Keep n (fun b => b = mb) w w') (ha : AtlM w' ga (.slice A0 Wk.length c0) (.slice A1 R.length c1) T F mb) : AtlS w0 w' A0 c0 Wk A1 c1 R ga mb T F :=
 ⟨h.map, h.below.trans ⟨k.os, k.tape, k.output, k.size, fun i hi => k.block i (by omega) (by have := h.lo; omega)⟩, h.lo, ha⟩
theorem AtlS.now (h : AtlS w0 w A0 c0 Wk A1 c1 R ga mb T F) : IsMap w A0 c0 Wk A1 c1 R := h.map.below h.below
theorem AtlS.later (h : AtlS w0 w A0 c0 Wk A1 c1 R ga mb T F) (hb : Below w.heap.size w w') : AtlS w0 w' A0 c0 Wk A1 c1 R ga mb T F :=
 ⟨h.map, h.below.trans (hb.mono h.below.size), h.lo, h.atl.keep hb⟩
theorem AtlS.drew (h : AtlS w0 w A0 c0 Wk A1 c1 R ga mb T F) : AtlS w0 w.drew A0 c0 Wk A1 c1 R ga mb T F := ⟨h.map, below_drew h.below, h.lo, h.atl.drew⟩
theorem AtlS.drewN (h : AtlS w0 w A0 c0 Wk A1 c1 R ga mb T F) (n : Nat) : AtlS w0 (w.drewN n) A0 c0 Wk A1 c1 R ga mb T F := ⟨h.map, pw_below_drewN h.below n, h.lo, h.atl.drewN n⟩
theorem AtlS.gt (h : AtlS w0 w A0 c0 Wk A1 c1 R ga mb T F) : w0.heap.size ≤ w.heap.size := h.below.size
end

/-- The time of the work at the first k places of a set. -/
def workSum (Wk : List S77) (s k : Nat) : Int := (((places s).take k).map fun p => (enc_rd_Range Wk p).f1).sum
def longF (T : Nat → Nat → Int) (Wk : List S77) (s : Nat) : Int := (rest T 0 s).1 + workSum Wk s (places s).length
theorem workSum_zero (Wk : List S77) (s : Nat) : workSum Wk s 0 = 0 := rfl
theorem workSum_succ (Wk : List S77) (s k : Nat) (h : k < (places s).length) : workSum Wk s (k + 1) = workSum Wk s k + (enc_rd_Range Wk ((places s)[k])).f1 := by
 unfold workSum
 rw [List.take_succ_eq_append_getElem h, List.map_append, List.sum_append]
 simp
theorem rdR_mem (Wk : List S77) (k : Nat) (h : k < Wk.length) : enc_rd_Range Wk k ∈ Wk := by
 have : enc_rd_Range Wk k = Wk[k] := by simp [enc_rd_Range, rd_T77, List.getD, h]
 rw [this]
 exact List.getElem_mem h
theorem workSum_bound {Wk : List S77} (hW : WorkOk Wk) (s : Nat) (hp : ∀ p ∈ places s, p < Wk.length) : ∀ k, k ≤ (places s).length → 0 ≤ workSum Wk s k ∧ workSum Wk s k ≤ 50 * k
 | 0, _ => by simp [workSum_zero]
 | k + 1, h => by
  rw [workSum_succ Wk s k (by omega)]
  have := workSum_bound hW s hp k (by omega)
  have h2 := hW _ (rdR_mem Wk _ (hp _ (List.getElem_mem (show k < (places s).length by omega))))
  omega

set_option maxRecDepth 100000 in
set_option maxHeartbeats 40000000 in
theorem longest_calls {w0 w : World} {A0 : Option Addr} {c0 : Nat} {Wk : List S77} {A1 : Option Addr} {c1 : Nat} {R : List S94} {ga mb : Nat} {T F : Nat → Nat → Int} (hT : Bounded2 T) (hW : WorkOk Wk) (s : Nat) (hs : s < 256) (hp : ∀ p ∈ places s, p < Wk.length) (h : AtlS w0 w A0 c0 Wk A1 c1 R ga mb T F) :
  Calls Try.prog 37 #[.pointer (some ⟨ga, 0, none⟩), .int .i64 s] w fun e w' => e = .returned (.int .i64 (longF T Wk s)) ∧ AtlS w0 w' A0 c0 Wk A1 c1 R ga mb T F ∧ Keep w.heap.size (fun b => b = mb) w w' := by
 have HT := Aside0.mk hT
 have HW := Aside0.mk hW
 have HP := Aside0.mk hp
 have HA := Aside0.mk h
 have hbw := h.map.bw
 clear hT hW hp h
 go_enter Try.func37, Try.ntmps37
 go_wp2_with fail
 refine (rest_calls HT.out s hs 0 (by omega) w HA.out.atl).mono ?_
 rintro e w1 ⟨rfl, hA1, hK1⟩
 have HA1 := Aside0.mk (HA.out.keep HA.out.gt hK1 hA1)
 have HK1 := Aside0.mk hK1
 obtain ⟨⟨r0, r1⟩, hr⟩ : ∃ x, rest T 0 s = x := ⟨_, rfl⟩
 have hrb := rest_bound HT.out 0 s
 rw [hr] at hrb ⊢
 simp only at hrb
 have HR := Aside0.mk hr
 unfold encLeg
 clear hA1 hK1 hr HA
 go_wp2_with fail
 refine (walk_set_list.calls 9 s _ w1 (list_ok hs)).mono ?_
 rintro e wl ⟨v_, rfl, hRl, hbl⟩
 obtain ⟨Al, cl, rfl, hcl, hil⟩ := ints_of_R hRl
 rw [List.length_map] at hcl ⊢
 have HIL := Aside0.mk hil
 have HAl := Aside0.mk (HA1.out.later hbl)
 have HKl := Aside0.mk (HK1.out.trans (Keep.of_below (S := fun b => b = mb) hbl HK1.out.size))
 have hpl := places_len s
 clear hRl hil hbl HA1 HK1
 go_wp2_with fail
 go_loopw [5, 16] (fun v5 v16 wr => ∃ k : Nat, k ≤ (places s).length ∧ v16 = .int .i64 k ∧ v5 = .int .i64 (r0 + workSum Wk s k) ∧ wr = wl) (fun _ v16 _ => (places s).length - (intOf v16).toNat)
 case atStart => exact ⟨0, Nat.zero_le _, rfl, by rw [workSum_zero]; simp, rfl⟩
 case round =>
  obtain ⟨k, hk, rfl, rfl, rfl⟩ := hrel
  by_cases hkl : k < (places s).length
  ·obtain ⟨n, hn⟩ : ∃ n, (places s)[k] = n := ⟨_, rfl⟩
   have hnm : n ∈ places s := by rw [← hn]; exact List.getElem_mem hkl
   have hnl := HP.out n hnm
   have hnli : (n : Int) < Wk.length := by omega
   obtain ⟨gl, hgl, hgl1, hgl2, hgl3⟩ := HIL.out k (by rw [List.length_map]; exact hkl)
   subst hgl
   have hgd : ((places s).map (fun n : Nat => (n : Int))).getD k 0 = (n : Int) := by simp [List.getD, hkl, hn]
   rw [hgd] at hgl3
   clear hgd
   have hM0 := HAl.out.atl.atl.map.1
   obtain ⟨ad, rfl, hc0, hc1⟩ := at_T77 HAl.out.now.work n (by omega) hnli
   simp only [Int.toNat_natCast] at hc0 hc1
   have hwb := workSum_bound HW.out s HP.out k hk
   have hws := workSum_succ Wk s k hkl
   rw [hn] at hws
   have hwr := HW.out _ (rdR_mem Wk n hnl)
   unfold enc_rd_Range at hws hwr
   obtain ⟨r, hrr⟩ : ∃ r, rd_T77 Wk (n : Int) = r := ⟨_, rfl⟩
   rw [hrr] at hc0 hc1 hws hwr
   have HWS := Aside0.mk hws
   clear hrr hws
   obtain ⟨sm, hsm⟩ : ∃ x, workSum Wk s k = x := ⟨_, rfl⟩
   rw [hsm] at hwb HWS
   rw [hsm]
   have hsum : wrap64 (r0 + sm + r.f1) = r0 + sm + r.f1 := IntWalk.wrap64_in _ (by omega)
   clear hsm hgl2
   go_wp2_with fail
   go_roundw
   case rel => exact ⟨k + 1, by omega, by go_num, by rw [HWS.out, Int.add_assoc], trivial⟩
   case measure => simp [intOf]; omega
  ·obtain rfl : k = (places s).length := by omega
   go_wp2_with fail
   go_ret
   exact ⟨by unfold longF; rw [HR.out]; rfl, HAl.out, HKl.out⟩
end Go.Proofs.Ytiddkceahbnolaa
