/- walk's Tour. -/
import Derived.Test.YtiddkceahbnolaaMin
import Derived.Test.YtiddkceahbnolaaWalkA
import Derived.Laws.EntriesVeiled
namespace Go.Proofs.Ytiddkceahbnolaa
open Go.RowKit Go.Shelf Go.Proofs.Ytiddkceahbnolaa.PWalkOrder Go.Proofs.YtiddkceahbnolaaW.PrintWords Go.Proofs.YtiddkceahbnolaaW.PrintLast
set_option linter.unusedVariables false
set_option linter.unusedSimpArgs false

def setAt (l : List Int) (k : Nat) : Nat := (l.take k).foldl (fun s n => s ||| 2 ^ n.toNat) 0
theorem setAt_zero (l : List Int) : setAt l 0 = 0 := rfl
theorem setAt_succ (l : List Int) (k : Nat) (h : k < l.length) : setAt l (k + 1) = setAt l k ||| 2 ^ (l.getD k 0).toNat := by
 unfold setAt
 rw [List.take_succ_eq_append_getElem h, List.foldl_append]
 simp [List.getD, h]
theorem setAt_bits {l : List Int} {N : Nat} (hN : N ≤ 8) (hl : ∀ x ∈ l, 0 ≤ x ∧ x < N) : ∀ k, k ≤ l.length → ∀ p, (setAt l k).testBit p = true → p < N
 | 0, _, p, h => by simp [setAt_zero] at h
 | k + 1, hk, p, h => by
  rw [setAt_succ l k (by omega), Nat.testBit_or] at h
  rw [Bool.or_eq_true] at h
  rcases h with h | h
  ·exact setAt_bits hN hl k (by omega) p h
  ·have hm := hl (l.getD k 0) (by
    have : l.getD k 0 = l[k] := by simp [List.getD, show k < l.length by omega]
    rw [this]; exact List.getElem_mem _)
   rw [Nat.testBit_two_pow] at h
   have := of_decide_eq_true h
   omega
theorem setAt_lt {l : List Int} {N : Nat} (hN : N ≤ 8) (hl : ∀ x ∈ l, 0 ≤ x ∧ x < N) (k : Nat) (hk : k ≤ l.length) : setAt l k < 256 := by
 have : setAt l k < 2 ^ 8 := Nat.lt_pow_two_of_testBit _ (fun i hi => by
  cases h : (setAt l k).testBit i
  ·rfl
  ·have := setAt_bits hN hl k hk i h
   omega)
 simpa using this
theorem or_all : ∀ a : Fin 256, ∀ n : Fin 8, Go.bits .or .i64 (a.1 : Int) ((2 ^ n.1 : Nat) : Int) = ((a.1 ||| 2 ^ n.1 : Nat) : Int) := by decide +kernel
theorem or_ok {a n : Nat} (ha : a < 256) (hn : n < 8) : Go.bits .or .i64 (a : Int) ((2 ^ n : Nat) : Int) = ((a ||| 2 ^ n : Nat) : Int) := or_all ⟨a, ha⟩ ⟨n, hn⟩

def tourF (W : List S77) (R : List S94) (l : List Int) : Int × Int :=
 if chkMap W R = 0 then (if (risesB l && l.all (placeB W.length)) = true then (if 1048576 ≤ longF (tm R W.length) W (setAt l l.length) then (0, 7) else (longF (tm R W.length) W (setAt l l.length), 0)) else (0, 2)) else (0, chkMap W R)

set_option maxRecDepth 100000 in
set_option maxHeartbeats 40000000 in
theorem Tour_calls {A0 : Option Addr} {c0 : Nat} {Wk : List S77} {A1 : Option Addr} {c1 : Nat} {R : List S94} {w : World} (l : List Int) {Al : Option Addr} {cl : Nat} (hl : Kd.C (Kd.int .i64) w Al l.length l) (hcl : l.length ≤ cl) (hll : l.length < 1000000) (h : IsMap w A0 c0 Wk A1 c1 R) :
  Calls Try.prog 10 #[.agg #[.slice A0 Wk.length c0, .slice A1 R.length c1], .slice Al l.length cl] w fun e w' => (∃ a1 n1 d1 a2 n2 d2, e = .returned (.tuple #[.agg #[.slice a1 n1 d1, .slice a2 n2 d2], .int .i64 (tourF Wk R l).1, .int .i64 (tourF Wk R l).2])) ∧ Below w.heap.size w w' := by
 have H := Aside0.mk h
 have HL := Aside0.mk hl
 clear h hl
 go_enter Try.func10, Try.ntmps10
 go_wp2_with fail
 have hb0 := below_alloc (below_alloc (Below.refl w.heap.size w) (.cells #[.slice A0 Wk.length c0, .slice A1 R.length c1] 41)) (.cells #[.slice none 0 0, .slice none 0 0] 44)
 have B2 := (Blk.new w [.slice A0 Wk.length c0, .slice A1 R.length c1] 41).alloc (.cells #[.slice none 0 0, .slice none 0 0] 44)
 have B4 := Blk.new (w.alloc (.cells #[.slice A0 Wk.length c0, .slice A1 R.length c1] 41)) [.slice none 0 0, .slice none 0 0] 44
 have HB0 := Aside0.mk hb0
 refine (CheckMap_calls (H.out.below hb0)).mono ?_
 rintro e w1 ⟨rfl, hb1⟩
 have B21 := Aside0.mk (B2.below hb1)
 have B41 := Aside0.mk (show Blk w1 (w.heap.size + 1) [.slice none 0 0, .slice none 0 0] 44 by simpa using B4.below hb1)
 have HB1 := Aside0.mk (hb0.trans (hb1.mono (by simp; omega)))
 have hs1 : w.heap.size + 2 ≤ w1.heap.size := by simpa using hb1.size
 have h20 := B21.out.cell 0
 have h21 := B21.out.cell 1
 have h40 := B41.out.cell 0
 have h41 := B41.out.cell 1
 have h40f := B41.out.frozen 0
 have h41f := B41.out.frozen 1
 simp only [sb3, sb4] at h20 h21 h40 h41
 clear hb0 hb1 B2 B4 HB0
 by_cases hc : chkMap Wk R = 0
 ·have hcb : (chkMap Wk R != 0) = false := by simp [hc]
  obtain ⟨hN0, hN, _, hW, hR, _⟩ := chk_ok hc
  have HFW := Aside0.mk (show tourF Wk R l = ((if (risesB l && l.all (placeB Wk.length)) = true then (if 1048576 ≤ longF (tm R Wk.length) Wk (setAt l l.length) then (0, 7) else (longF (tm R Wk.length) Wk (setAt l l.length), 0)) else (0, 2)) : Int × Int) by unfold tourF; rw [if_pos hc])
  rw [hc]
  clear hc
  go_wp2_with fail
  refine (walk_rises.calls (l.length + 1) Al cl l (risesB l) w1 (Kd.C_below HL.out HB1.out) hcl (rises_ok l hll)).mono ?_
  rintro e w2 ⟨rfl, hd2⟩
  have hb2 := hd2.below
  have HB2 := Aside0.mk (HB1.out.trans (hb2.mono HB1.out.size))
  have B22 := Aside0.mk (B21.out.below hb2)
  have B42 := Aside0.mk (B41.out.below hb2)
  have hs2 := Nat.le_trans hs1 hb2.size
  clear hb2 hd2 B21 B41 h20 h21 h40 h41 h40f h41f HB1
  have h20 := B22.out.cell 0
  have h21 := B22.out.cell 1
  have h40 := B42.out.cell 0
  have h41 := B42.out.cell 1
  have h40f := B42.out.frozen 0
  have h41f := B42.out.frozen 1
  simp only [sb3, sb4] at h20 h21 h40 h41
  cases hrs : risesB l
  ·rw [hrs, Bool.false_and, if_neg (by simp)] at HFW
   go_wp2_with fail
   refine bodyPost_ret (results_ctt rfl _ _ (w.heap.size + 1) 44 #[.slice none 0 0, .slice none 0 0] (0, 0) _ rfl (B42.out.set2 _ _) Try.underlying44 rfl (by kernel_rfl)) rfl ?_
   rw [HFW.out]
   exact ⟨⟨_, _, _, _, _, _, rfl⟩, (HB2.out.setCell (p := ⟨w.heap.size + 1, 0, none⟩) (by simp) _).setCell (p := ⟨w.heap.size + 1, 1, none⟩) (by simp) _⟩
  ·rw [hrs, Bool.true_and] at HFW
   clear hrs
   go_wp2_with fail
   refine (all_Num 31 #[.agg #[.slice A0 Wk.length c0, .slice A1 R.length c1]] #[] (enters Try.func31 (by kernel_rfl) rfl) (placeB Wk.length) Al cl l _ (Kd.C_below HL.out HB2.out) (by omega) ?_).mono ?_
   ·intro W x hW
    exact place_calls x (H.out.below (HB2.out.trans (hW.mono HB2.out.size)))
   rintro e w3 ⟨rfl, hb3⟩
   have HB3 := Aside0.mk (HB2.out.trans (hb3.mono HB2.out.size))
   have B23 := Aside0.mk (B22.out.below hb3)
   have B43 := Aside0.mk (B42.out.below hb3)
   have hs3 := Nat.le_trans hs2 hb3.size
   clear hb3 B22 B42 h20 h21 h40 h41 h40f h41f HB2 hs2 hs1
   have h20 := B23.out.cell 0
   have h21 := B23.out.cell 1
   have h40 := B43.out.cell 0
   have h41 := B43.out.cell 1
   have h40f := B43.out.frozen 0
   have h41f := B43.out.frozen 1
   simp only [sb3, sb4] at h20 h21 h40 h41
   cases hal : l.all (placeB Wk.length)
   ·rw [hal, if_neg (by simp)] at HFW
    go_wp2_with fail
    refine bodyPost_ret (results_ctt rfl _ _ (w.heap.size + 1) 44 #[.slice none 0 0, .slice none 0 0] (0, 0) _ rfl (B43.out.set2 _ _) Try.underlying44 rfl (by kernel_rfl)) rfl ?_
    rw [HFW.out]
    exact ⟨⟨_, _, _, _, _, _, rfl⟩, (HB3.out.setCell (p := ⟨w.heap.size + 1, 0, none⟩) (by simp) _).setCell (p := ⟨w.heap.size + 1, 1, none⟩) (by simp) _⟩
   ·rw [hal, if_pos rfl] at HFW
    have HP := Aside0.mk (show ∀ x ∈ l, 0 ≤ x ∧ x < Wk.length from fun x hx => placeB_ok (List.all_eq_true.1 hal x hx))
    clear hal h20 h21 h40 h41 h40f h41f
    go_wp2_with fail
    go_loopw [9, 33] (fun v9 v33 wr => ∃ k : Nat, k ≤ l.length ∧ v33 = .int .i64 k ∧ v9 = .int .i64 (setAt l k : Nat) ∧ wr = w3) (fun _ v33 _ => l.length - (intOf v33).toNat)
    case atStart => exact ⟨0, Nat.zero_le _, rfl, rfl, rfl⟩
    case round =>
     obtain ⟨k, hk, rfl, rfl, rfl⟩ := hrel
     by_cases hkl : k < l.length
     ·obtain ⟨ad, e, hx⟩ := Kd.at_int (Kd.C_below HL.out HB3.out) (k : Int) (by omega) (by omega)
      cases e
      simp only [Int.toNat_natCast] at hx
      have hxm := HP.out (rd l (k : Int)) (by
       have e : rd l (k : Int) = l[k] := by simp [rd, List.getD, hkl]
       rw [e]; exact List.getElem_mem hkl)
      have hst := setAt_succ l k hkl
      rw [show l.getD k 0 = rd l (k : Int) by simp [rd]] at hst
      have hlt := setAt_lt hN HP.out k hk
      obtain ⟨x, hxx⟩ : ∃ x, rd l (k : Int) = x := ⟨_, rfl⟩
      rw [hxx] at hx hxm hst
      obtain ⟨n, rfl⟩ : ∃ n : Nat, x = n := ⟨x.toNat, by omega⟩
      simp only [Int.toNat_natCast] at hst
      have hn8 : n < 8 := by omega
      have ho1 := (one_ok hn8).1
      have hor := or_ok hlt hn8
      rw [show ((2 ^ n : Nat) : Int) = (2 : Int) ^ n by simp] at hor
      have HOR := Aside0.mk hor
      have hnp : (0 : Int) ≤ n := by omega
      have HST := Aside0.mk hst
      obtain ⟨sk, hsk⟩ : ∃ s, setAt l k = s := ⟨_, rfl⟩
      rw [hsk] at hor HST HOR
      rw [hsk]
      clear hst hxx hsk hlt
      go_wp2_with fail
      go_roundw
      case rel => exact ⟨k + 1, by omega, by go_num, by rw [HST.out], trivial⟩
      case measure => simp [intOf]; omega
     ·obtain rfl : k = l.length := by omega
      have h20 := B23.out.cell 0
      have h21 := B23.out.cell 1
      simp only [sb3, sb4] at h20 h21
      go_wp2_with fail
      refine (atlas_calls (H.out.below HB3.out) hN hR).mono ?_
      rintro e w4 ⟨ga, mb, rfl, hga, hA4, hb4⟩
      have HA4 := Aside0.mk hA4
      have HB4 := Aside0.mk (HB3.out.trans (hb4.mono HB3.out.size))
      have B44 := Aside0.mk (B43.out.below hb4)
      have hs4 := Nat.le_trans hs3 hb4.size
      have hlt := setAt_lt hN HP.out l.length (Nat.le_refl _)
      have HPS := Aside0.mk (show ∀ p ∈ places (setAt l l.length), p < Wk.length from fun p hp => setAt_bits hN HP.out l.length (Nat.le_refl _) p (places_mem.1 hp).2)
      obtain ⟨s, hs⟩ : ∃ s, setAt l l.length = s := ⟨_, rfl⟩
      rw [hs] at HFW HPS hlt ⊢
      clear hs hA4 hb4 h20 h21 B43
      go_wp2_with fail
      refine (longest_calls (tm_bounded hR) hW s hlt HPS.out HA4.out).mono ?_
      rintro e w5 ⟨rfl, hA5, hK5⟩
      have hlo := HA4.out.lo
      have hgt := HA4.out.gt
      have hmb := HA4.out.atl.memo.lt
      have hga4 := HA4.out.atl.atl.lt
      have hw3 := HB3.out.size
      have HB5 := Aside0.mk (HB4.out.trans ⟨hK5.os, hK5.tape, hK5.output, hK5.size, fun i hi => hK5.block i (by omega) (by omega)⟩)
      have B45 := Aside0.mk (B44.out.move (hK5.block (w.heap.size + 1) (by omega) (by omega)))
      have HA5 := Aside0.mk hA5
      have hs5 := Nat.le_trans hs4 hK5.size
      have hws := workSum_bound hW s HPS.out (places s).length (Nat.le_refl _)
      have HLE := Aside0.mk (show (rest (tm R Wk.length) 0 s).1 ≤ longF (tm R Wk.length) Wk s by unfold longF; omega)
      obtain ⟨lg, hlg⟩ : ∃ x, longF (tm R Wk.length) Wk s = x := ⟨_, rfl⟩
      rw [hlg] at HFW HLE
      rw [hlg]
      have h50 := B45.out.cell 0
      have h51 := B45.out.cell 1
      have h50f := B45.out.frozen 0
      have h51f := B45.out.frozen 1
      simp only [sb3, sb4] at h50 h51
      clear hlg hws hA5 hK5 HA4 HB4 B44
      by_cases hfar : 1048576 ≤ lg
      ·have hfb : decide (1048576 ≤ lg) = true := by simpa using hfar
       rw [if_pos hfar] at HFW
       go_wp2_with fail
       refine bodyPost_ret (results_ctt rfl _ _ (w.heap.size + 1) 44 #[.slice none 0 0, .slice none 0 0] (0, 0) _ rfl (B45.out.set2 _ _) Try.underlying44 rfl (by kernel_rfl)) rfl ?_
       rw [HFW.out]
       exact ⟨⟨_, _, _, _, _, _, rfl⟩, (HB5.out.setCell (p := ⟨w.heap.size + 1, 0, none⟩) (by simp) _).setCell (p := ⟨w.heap.size + 1, 1, none⟩) (by simp) _⟩
      ·have hfb : decide (1048576 ≤ lg) = false := by simpa using hfar
       rw [if_neg hfar] at HFW
       go_wp2_with fail
       refine (tour_calls hN hN0 (tm_bounded hR) (wayOk_of hR) s hlt HPS.out (by have := HLE.out; omega) HA5.out).mono ?_
       rintro e w6 ⟨⟨a1, n1, d1, a2, n2, d2, rfl⟩, hA6, hK6⟩
       have hgt5 := HA5.out.gt
       have HB6 := Aside0.mk (HB5.out.trans ⟨hK6.os, hK6.tape, hK6.output, hK6.size, fun i hi => hK6.block i (by omega) (by omega)⟩)
       have B46 := Aside0.mk (B45.out.move (hK6.block (w.heap.size + 1) (by omega) (by omega)))
       clear h50 h51 h50f h51f B45 hA6 HA5 HB5
       have hs6 := Nat.le_trans hs5 hK6.size
       clear hK6
       have h60 := B46.out.cell 0
       have h61 := B46.out.cell 1
       have h60f := B46.out.frozen 0
       have h61f := B46.out.frozen 1
       simp only [sb3, sb4] at h60 h61
       go_wp2_with fail
       refine bodyPost_ret (results_ctt rfl _ _ (w.heap.size + 1) 44 #[.slice a1 n1 d1, .slice a2 n2 d2] (0, 0) _ rfl (B46.out.set2 _ _) Try.underlying44 rfl (by kernel_rfl)) rfl ?_
       rw [HFW.out]
       exact ⟨⟨_, _, _, _, _, _, rfl⟩, (HB6.out.setCell (p := ⟨w.heap.size + 1, 0, none⟩) (by simp) _).setCell (p := ⟨w.heap.size + 1, 1, none⟩) (by simp) _⟩
 ·have hcb : (chkMap Wk R != 0) = true := by simp [hc]
  have HFW := Aside0.mk (show tourF Wk R l = (0, chkMap Wk R) by unfold tourF; rw [if_neg hc])
  go_wp2_with fail
  refine bodyPost_ret (results_ctt rfl _ _ (w.heap.size + 1) 44 #[.slice none 0 0, .slice none 0 0] (0, 0) _ rfl (B41.out.set2 _ _) Try.underlying44 rfl (by kernel_rfl)) rfl ?_
  rw [HFW.out]
  exact ⟨⟨_, _, _, _, _, _, rfl⟩, (HB1.out.setCell (p := ⟨w.heap.size + 1, 0, none⟩) (by simp) _).setCell (p := ⟨w.heap.size + 1, 1, none⟩) (by simp) _⟩
end Go.Proofs.Ytiddkceahbnolaa
