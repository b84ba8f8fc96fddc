/- walk's Least. -/
import Derived.Test.YtiddkceahbnolaaMin
import Derived.WalkMore
namespace Go.Proofs.Ytiddkceahbnolaa
set_option linter.all false
open Go.RowKit Go.Shelf Go.Proofs.Ytiddkceahbnolaa.PWalkOrder Go.Proofs.YtiddkceahbnolaaW.PrintWords Go.Proofs.YtiddkceahbnolaaW.PrintLast
set_option linter.unusedVariables false
set_option linter.unusedSimpArgs false

def lowAt (W : List S77) (R : List S94) : Nat → Int
 | 0 => 0
 | k + 1 => max (lowAt W R k) (longF (tm R W.length) W (2 ^ k))
theorem lowAt_mono (W : List S77) (R : List S94) (k : Nat) : ∀ n, lowAt W R k ≤ lowAt W R (k + n)
 | 0 => Int.le_refl _
 | n + 1 => by
  have := lowAt_mono W R k n
  rw [← Nat.add_assoc, lowAt]
  omega
theorem lowAt_nonneg (W : List S77) (R : List S94) (k : Nat) : 0 ≤ lowAt W R k := by
 have := lowAt_mono W R 0 k
 rw [Nat.zero_add] at this
 exact this
def fitsB (W : List S77) (R : List S94) (many half : Int) : Bool :=
 match split (badF (tm R W.length) W half) (2 ^ W.length - 1) with
 | none => false
 | some k => decide ((k : Int) ≤ many)
def bs (fit : Int → Bool) : Nat → Int → Int → Int
 | 0, low, _ => low
 | f + 1, low, high => if low < high then (if fit ((low + high) / 2) = true then bs fit f low ((low + high) / 2) else bs fit f ((low + high) / 2 + 1) high) else low
theorem bs_fuel (fit : Int → Bool) : ∀ (f g : Nat) (low high : Int), (high - low).toNat ≤ f → (high - low).toNat ≤ g → bs fit f low high = bs fit g low high
 | 0, 0, _, _, _, _ => rfl
 | 0, g + 1, low, high, h, _ => by
  rw [bs, bs, if_neg (by omega)]
 | f + 1, 0, low, high, _, h => by
  rw [bs, bs, if_neg (by omega)]
 | f + 1, g + 1, low, high, h, h' => by
  rw [bs, bs]
  by_cases e : low < high
  ·rw [if_pos e, if_pos e]
   by_cases e2 : fit ((low + high) / 2) = true
   ·rw [if_pos e2, if_pos e2]
    exact bs_fuel fit f g _ _ (by omega) (by omega)
   ·rw [if_neg e2, if_neg e2]
    exact bs_fuel fit f g _ _ (by omega) (by omega)
  ·rw [if_neg e, if_neg e]
theorem bs_step (fit : Int → Bool) (low high : Int) (h0 : 0 ≤ low) (h1 : high ≤ 10000) (h : low < high) : bs fit 10000 low high = if fit ((low + high) / 2) = true then bs fit 10000 low ((low + high) / 2) else bs fit 10000 ((low + high) / 2 + 1) high := by
 rw [show bs fit 10000 low high = bs fit (9999 + 1) low high from rfl, bs, if_pos h]
 by_cases e2 : fit ((low + high) / 2) = true
 ·rw [if_pos e2, if_pos e2]
  exact bs_fuel fit _ _ _ _ (by omega) (by omega)
 ·rw [if_neg e2, if_neg e2]
  exact bs_fuel fit _ _ _ _ (by omega) (by omega)
theorem bs_end (fit : Int → Bool) (low high : Int) (h : ¬ low < high) : bs fit 10000 low high = low := by
 rw [show bs fit 10000 low high = bs fit (9999 + 1) low high from rfl, bs, if_neg h]
def leastF (W : List S77) (R : List S94) (many : Int) : Int × Int :=
 if chkMap W R = 0 then (if withinB many 1 8 = true then (if 1048576 ≤ lowAt W R W.length then (0, 7) else (bs (fitsB W R many) 10000 (lowAt W R W.length) (min (longF (tm R W.length) W (2 ^ W.length - 1)) 10000), 0)) else (0, 2)) else (0, chkMap W R)

theorem within_ok (n a b : Int) (w : World) : Calls Try.prog 41 #[.int .i64 n, .int .i64 a, .int .i64 b] w fun e w' => e = .returned (.bool (withinB n a b)) ∧ Below w.heap.size w w' := within_calls n a b w
set_option maxRecDepth 100000 in
set_option maxHeartbeats 40000000 in
theorem Least_calls {A0 : Option Addr} {c0 : Nat} {Wk : List S77} {A1 : Option Addr} {c1 : Nat} {R : List S94} {w : World} (many : Int) (h : IsMap w A0 c0 Wk A1 c1 R) :
  Calls Try.prog 15 #[.agg #[.slice A0 Wk.length c0, .slice A1 R.length c1], .int .i64 many] w fun e w' => e = .returned (.tuple #[.int .i64 (leastF Wk R many).1, .int .i64 (leastF Wk R many).2]) ∧ Below w.heap.size w w' := by
 have H := Aside0.mk h
 clear h
 go_enter Try.func15, Try.ntmps15
 go_wp2_with fail
 go_step3
 go_wp2_with fail
 have hb0 := below_alloc (Below.refl w.heap.size w) (.cells #[.slice A0 Wk.length c0, .slice A1 R.length c1] 41)
 have B0 := Blk.new w [.slice A0 Wk.length c0, .slice A1 R.length c1] 41
 refine (CheckMap_calls (H.out.below hb0)).mono ?_
 rintro e w1 ⟨rfl, hb1⟩
 have B1 := Aside0.mk (B0.below hb1)
 have HB1 := Aside0.mk (hb0.trans (hb1.mono (by simp)))
 have H1 := Aside0.mk (H.out.below HB1.out)
 have h10 := B1.out.cell 0
 have h11 := B1.out.cell 1
 simp only [sb3, sb4] at h10 h11
 clear hb0 hb1 B0
 by_cases hc : chkMap Wk R = 0
 ·have hcb : (chkMap Wk R != 0) = false := by simp [hc]
  obtain ⟨hN0, hN, _, hW, hR, _⟩ := chk_ok hc
  have HFW := Aside0.mk (show leastF Wk R many = ((if withinB many 1 8 = true then (if 1048576 ≤ lowAt Wk R Wk.length then (0, 7) else (bs (fitsB Wk R many) 10000 (lowAt Wk R Wk.length) (min (longF (tm R Wk.length) Wk (2 ^ Wk.length - 1)) 10000), 0)) else (0, 2)) : Int × Int) by unfold leastF; rw [if_pos hc])
  rw [hc]
  clear hc
  go_wp2_with fail
  refine (within_ok many 1 8 w1).mono ?_
  rintro e w2 ⟨rfl, hb2⟩
  have B2 := Aside0.mk (B1.out.below hb2)
  have HB2 := Aside0.mk (HB1.out.trans (hb2.mono HB1.out.size))
  have H2 := Aside0.mk (H.out.below HB2.out)
  have h20 := B2.out.cell 0
  have h21 := B2.out.cell 1
  simp only [sb3, sb4] at h20 h21
  clear hb2 B1 HB1 H1 h10 h11
  cases hl : withinB many 1 8
  ·rw [hl, if_neg (by simp)] at HFW
   go_wp2_with fail
   rw [Exit.noGoto_ret]
   go_ret2
   rw [HFW.out]
   exact ⟨rfl, HB2.out⟩
  ·rw [hl, if_pos rfl] at HFW
   go_wp2_with fail
   refine (atlas_calls H2.out hN hR).mono ?_
   rintro e w3 ⟨ga, mb, rfl, hga, hA3, hb3⟩
   have HB3 := Aside0.mk (HB2.out.trans (hb3.mono HB2.out.size))
   have B3 := Aside0.mk (B2.out.below hb3)
   have h30 := B3.out.cell 0
   have h31 := B3.out.cell 1
   simp only [sb3, sb4] at h30 h31
   have HA3 := Aside0.mk hA3
   have hsz3 := hb3.size
   have hw2 := HB2.out.size
   have hlo := hA3.lo
   clear h20 h21 hb3 hA3 B2
   go_wp2_with fail
   go_step3
   go_wp2_with fail
   go_loopw [8, 27] (fun v8 v27 wr => ∃ k : Nat, k ≤ Wk.length ∧ v27 = .int .i64 k ∧ v8 = .int .i64 (lowAt Wk R k) ∧ (lowAt Wk R k < 1048576 ∨ k = Wk.length) ∧ Aside0 (AtlS w2 wr A0 c0 Wk A1 c1 R ga mb (tm R Wk.length) (fs R Wk.length)) ∧ Aside0 (Below w.heap.size w wr)) (fun _ v27 _ => Wk.length - (intOf v27).toNat)
   case atStart => exact ⟨0, Nat.zero_le _, rfl, rfl, .inl (by simp [lowAt]), HA3, HB3⟩
   case round =>
    clear HA3 HB3 B3 h30 h31
    obtain ⟨k, hk, rfl, rfl, hlk, HA, HB⟩ := hrel
    by_cases hkl : k < Wk.length
    ·obtain ⟨ho1, ho2, ho3⟩ := one_ok (n := k) (by omega)
     have hll : lowAt Wk R (k + 1) = max (lowAt Wk R k) (longF (tm R Wk.length) Wk (2 ^ k)) := rfl
     have HLL := Aside0.mk hll
     clear hll
     go_wp2_with fail
     refine (longest_calls (tm_bounded hR) hW (2 ^ k) ho3 (by rw [ho2]; simpa using hkl) HA.out).mono ?_
     rintro e w5 ⟨rfl, hA5, hK5⟩
     have HA5 := Aside0.mk hA5
     have HB5 := Aside0.mk (HB.out.trans ⟨hK5.os, hK5.tape, hK5.output, hK5.size, fun i hi => hK5.block i (by have := HB.out.size; omega) (by omega)⟩)
     clear hA5 hK5 HA HB
     obtain ⟨lg, hlg⟩ : ∃ x, longF (tm R Wk.length) Wk (2 ^ k) = x := ⟨_, rfl⟩
     obtain ⟨l0, hl0⟩ : ∃ x, lowAt Wk R k = x := ⟨_, rfl⟩
     obtain ⟨l1, hl1⟩ : ∃ x, lowAt Wk R (k + 1) = x := ⟨_, rfl⟩
     rw [hlg, hl0, hl1] at HLL
     rw [hlg, hl0]
     have hmax : (if l0 < lg then lg else l0) = l1 := by
      rw [HLL.out]
      by_cases h : l0 < lg
      ·rw [if_pos h]; omega
      ·rw [if_neg h]; omega
     have HL1 := Aside0.mk hl1
     clear hlg hl0 hl1
     by_cases hf : 1048576 ≤ l1
     ·have hfb : decide (1048576 ≤ l1) = true := by simpa using hf
      have hfar : 1048576 ≤ lowAt Wk R Wk.length := by
       have := lowAt_mono Wk R (k + 1) (Wk.length - (k + 1))
       rw [HL1.out, show k + 1 + (Wk.length - (k + 1)) = Wk.length by omega] at this
       omega
      rw [if_pos hfar] at HFW
      clear hf
      go_wp2_with fail
      rw [Exit.noGoto_ret]
      go_ret2
      rw [HFW.out]
      exact ⟨rfl, HB5.out⟩
     ·have hfb : decide (1048576 ≤ l1) = false := by simpa using hf
      have HF := Aside0.mk hf
      clear hf
      go_wp2_with fail
      exact ⟨⟨k + 1, by omega, by go_num, by rw [HL1.out], .inl (by rw [HL1.out]; have := HF.out; omega), HA5, HB5⟩, by simp [intOf]; omega⟩
    ·obtain rfl : k = Wk.length := by omega
     obtain ⟨l1, hl1⟩ : ∃ x, lowAt Wk R Wk.length = x := ⟨_, rfl⟩
     rw [hl1] at HFW
     rw [hl1]
     have hl1n := lowAt_nonneg Wk R Wk.length
     rw [hl1] at hl1n
     clear hlk hl1
     by_cases hf : 1048576 ≤ l1
     ·have hfb : decide (1048576 ≤ l1) = true := by simpa using hf
      rw [if_pos hf] at HFW
      clear hf
      go_wp2_with fail
      rw [Exit.noGoto_ret]
      go_ret2
      rw [HFW.out]
      exact ⟨rfl, HB.out⟩
     ·have hfb : decide (1048576 ≤ l1) = false := by simpa using hf
      rw [if_neg hf] at HFW
      have hm0 := HA.out.atl.atl.map.1
      have hm1 := HA.out.atl.atl.map.2.1
      go_wp2_with fail
      refine (whole_calls hN wr).mono ?_
      rintro e w5 ⟨rfl, hb5⟩
      have hfull : 2 ^ Wk.length - 1 < 256 := by
       have := Nat.pow_le_pow_right (n := 2) (by omega) hN
       omega
      have hfp : ∀ p ∈ places (2 ^ Wk.length - 1), p < Wk.length := fun p hp => by
       have h1 := Nat.ge_two_pow_of_testBit (places_mem.1 hp).2
       have h2 := Nat.two_pow_pos Wk.length
       exact (Nat.pow_lt_pow_iff_right (by omega)).1 (Nat.lt_of_le_of_lt h1 (by omega))
      have HA5 := Aside0.mk (HA.out.later hb5)
      have HB5 := Aside0.mk (HB.out.trans (hb5.mono HB.out.size))
      clear hb5 HA HB hm0 hm1
      go_wp2_with fail
      refine (longest_calls (tm_bounded hR) hW (2 ^ Wk.length - 1) hfull hfp HA5.out).mono ?_
      rintro e w6 ⟨rfl, hA6, hK6⟩
      have HA6 := Aside0.mk hA6
      have HB6 := Aside0.mk (HB5.out.trans ⟨hK6.os, hK6.tape, hK6.output, hK6.size, fun i hi => hK6.block i (by have := HB5.out.size; omega) (by omega)⟩)
      clear hA6 hK6 HA5 HB5
      have hib : 0 ≤ longF (tm R Wk.length) Wk (2 ^ Wk.length - 1) := by
       have h1 := (rest_bound (tm_bounded hR) 0 (2 ^ Wk.length - 1)).1
       have h2 := (workSum_bound hW (2 ^ Wk.length - 1) hfp _ (Nat.le_refl _)).1
       unfold longF
       omega
      obtain ⟨hi, hhi⟩ : ∃ x, longF (tm R Wk.length) Wk (2 ^ Wk.length - 1) = x := ⟨_, rfl⟩
      rw [hhi] at HFW hib
      rw [hhi]
      clear hhi
      go_wp2_with fail
      have BM := Blk.new w6 [.int .i64 hi, .int .i64 10000] 3
      have HA7 := Aside0.mk (HA6.out.later (below_alloc (Below.refl _ _) (.cells #[.int .i64 hi, .int .i64 10000] 3)))
      have HB7 := Aside0.mk (below_alloc HB6.out (.cells #[.int .i64 hi, .int .i64 10000] 3))
      refine (smallest_calls w6.heap.size hi 10000 _ (by simpa using BM.cell 0) (by simpa using BM.cell 1)).mono ?_
      rintro e w7 ⟨rfl, rfl⟩
      clear BM HA6 HB6
      generalize w6.alloc (.cells #[.int .i64 hi, .int .i64 10000] 3) = w7 at HA7 HB7 ⊢
      go_wp2_with fail
      go_loopw [8, 10] (fun v8 v10 wr => ∃ low high : Int, v8 = .int .i64 low ∧ v10 = .int .i64 high ∧ 0 ≤ low ∧ low ≤ 1048576 ∧ -10000000 ≤ high ∧ high ≤ 10000 ∧ bs (fitsB Wk R many) 10000 low high = bs (fitsB Wk R many) 10000 l1 (min hi 10000) ∧ Aside0 (AtlS w2 wr A0 c0 Wk A1 c1 R ga mb (tm R Wk.length) (fs R Wk.length)) ∧ Aside0 (Below w.heap.size w wr)) (fun v8 v10 _ => (intOf v10 - intOf v8).toNat)
      case atStart => exact ⟨l1, min hi 10000, rfl, rfl, hl1n, by omega, by omega, by omega, rfl, HA7, HB7⟩
      case round =>
       clear HA7 HB7
       obtain ⟨low, high, rfl, rfl, q0, q1, q2, q3, hbs, HA, HB⟩ := hrel
       have HBS := Aside0.mk hbs
       clear hbs
       by_cases hlh : low < high
       ·have hlhb : decide (low < high) = true := by simpa using hlh
        have hst := bs_step (fitsB Wk R many) low high q0 q3 hlh
        rw [HBS.out] at hst
        have HST := Aside0.mk hst
        clear hst HBS
        obtain ⟨half, hhalf⟩ : ∃ x, (low + high) / 2 = x := ⟨_, rfl⟩
        have hr1 : low ≤ half := by omega
        have hr2 : half < high := by omega
        rw [hhalf] at HST
        have HF0 := Aside0.mk (show fitsB Wk R many half = (match split (badF (tm R Wk.length) Wk half) (2 ^ Wk.length - 1) with | none => false | some k => decide ((k : Int) ≤ many)) from rfl)
        go_wp2_with fail
        refine (divide_calls half hN (tm_bounded hR) hW HA.out).mono ?_
        rintro e w8 ⟨Al, cl, rfl, hA8, hK8⟩
        have HA8 := Aside0.mk hA8
        have HB8 := Aside0.mk (HB.out.trans ⟨hK8.os, hK8.tape, hK8.output, hK8.size, fun i hi => hK8.block i (by have := HB.out.size; omega) (by omega)⟩)
        clear hA8 hK8 HA HB
        cases hsp : split (badF (tm R Wk.length) Wk half) (2 ^ Wk.length - 1) with
        | none =>
         rw [hsp] at HF0
         rw [HF0.out, if_neg (by simp)] at HST
         simp only [Option.getD_none, Option.isSome_none]
         go_wp2_with fail
         exact ⟨⟨half + 1, high, by go_num, rfl, by omega, by omega, by omega, by omega, HST.out.symm, HA8, HB8⟩, by simp [intOf]; omega⟩
        | some k =>
         rw [hsp] at HF0
         simp only [Option.getD_some, Option.isSome_some]
         by_cases hkm : (k : Int) ≤ many
         ·have hkb : decide ((k : Int) ≤ many) = true := by simpa using hkm
          simp only [hkb] at HF0
          rw [HF0.out, if_pos rfl] at HST
          clear hkm
          go_wp2_with fail
          exact ⟨⟨low, half, rfl, by rw [hhalf], by omega, by omega, by omega, by omega, HST.out.symm, HA8, HB8⟩, by simp [intOf]; omega⟩
         ·have hkb : decide ((k : Int) ≤ many) = false := by simpa using hkm
          simp only [hkb] at HF0
          rw [HF0.out, if_neg (by simp)] at HST
          clear hkm
          go_wp2_with fail
          exact ⟨⟨half + 1, high, by go_num, rfl, by omega, by omega, by omega, by omega, HST.out.symm, HA8, HB8⟩, by simp [intOf]; omega⟩
       ·have hlhb : decide (low < high) = false := by simpa using hlh
        go_wp2_with fail
        go_ret2
        rw [HFW.out, ← HBS.out, bs_end _ _ _ (by omega)]
        exact ⟨rfl, HB.out⟩
 ·have hcb : (chkMap Wk R != 0) = true := by simp [hc]
  go_wp2_with fail
  have hfew : leastF Wk R many = (0, chkMap Wk R) := by unfold leastF; rw [if_neg hc]
  rw [Exit.noGoto_ret]
  go_ret2
  rw [hfew]
  exact ⟨rfl, HB1.out⟩
end Go.Proofs.Ytiddkceahbnolaa
