/- walk's divide: the walk through its inner function. -/
import Derived.Test.YtiddkceahbnolaaDivB
import Derived.Test.YtiddkceahbnolaaWTab
import Derived.BigQuiet
import Derived.BigRegion
import Derived.Deep.QuietTactic
namespace Go.Proofs.Ytiddkceahbnolaa
open Go.RowKit Go.Shelf Go.Proofs.Ytiddkceahbnolaa.PWalkOrder Go.Proofs.YtiddkceahbnolaaW.PrintWords Go.Proofs.YtiddkceahbnolaaW.PrintLast
attribute [local go_sem] setsNil setsNe
set_option linter.unusedVariables false
set_option linter.unnecessarySimpa false
set_option linter.unusedSimpArgs false

def dv.T7 : Bool × List (List Nat × List Nat) := (true, [([], []), ([], []), ([0, 1], [0, 1]), ([2], [2]), ([3], [3]), ([4], [4]), ([4], [4]), ([5, 6, 4, 4], [4, 5, 6]), ([4], [4]), ([7, 8, 4], [4, 7, 8]), ([4, 9], [4, 9])])
def dv.B7 : List Nat := [0, 0, 3, 7, 15, 31, 31, 127, 31, 511, 1023]
theorem dv.tab7 : rtab .any (opsOf Try.f79 7) = dv.T7 := by kernel_rfl
theorem dv.bits7 : waitsOk dv.T7.2 dv.B7 = true := by kernel_rfl
def dv.T11 : Bool × List (List Nat × List Nat) := (true, [([], []), ([], []), ([], []), ([2], [2]), ([], []), ([4], [4]), ([3, 5, 3], [3, 5]), ([0, 1, 0, 1, 2, 3, 4, 5, 6], [0, 1]), ([7, 6, 6, 0, 1, 2, 3, 4, 5, 6], [6, 7])])
def dv.B11 : List Nat := [0, 0, 0, 4, 0, 16, 60, 127, 255]
theorem dv.tab11 : rtab .any (opsOf Try.f79 11) = dv.T11 := by kernel_rfl
theorem dv.bits11 : waitsOk dv.T11.2 dv.B11 = true := by kernel_rfl
def badF (T : Nat → Nat → Int) (Wk : List S77) (limit : Int) (part : Nat) : Bool := decide (limit < longF T Wk part)

theorem lit_row {w : World} {g : Nat} {x : Int} (h : w.cell? ⟨g, 0, none⟩ = some (.int .i64 x)) : (Kd.int .i64).C w (some ⟨g, 0, none⟩) 1 [x] := by
 refine ⟨rfl, by omega, fun _ => ⟨_, rfl, fun j p hj => ?_⟩⟩
 obtain rfl : j = 0 := by
  rcases Nat.eq_zero_or_pos j with e | e
  ·exact e
  ·rw [List.getElem?_eq_none (by simp only [List.length_cons, List.length_nil]; omega)] at hj
   cases hj
 obtain rfl : x = p := by simpa using hj
 refine ⟨[.int .i64 x], rfl, rfl, fun i u hu => ?_⟩
 obtain rfl : i = 0 := by
  rcases Nat.eq_zero_or_pos i with e | e
  ·exact e
  ·rw [List.getElem?_eq_none (by simp only [List.length_cons, List.length_nil]; omega)] at hu
   cases hu
 obtain rfl : Value.int .i64 x = u := by simpa using hu
 rw [add_at]
 simpa using h
/-- What slices.Clone is given: nil, or a row of sets. -/
def CL (w : World) (v : Value) (xs : List Int) : Prop := (v = .slice none 0 0 ∧ xs = []) ∨ ∃ ad k c, v = .slice (some ad) k c ∧ xs.length = k ∧ (Kd.int .i64).C w (some ad) k xs ∧ k ≤ 1000
theorem CL.below {w w' : World} {v : Value} {xs : List Int} (h : CL w v xs) (hb : Below w.heap.size w w') : CL w' v xs := by
 rcases h with h | ⟨ad, k, c, h1, h2, h3, h4⟩
 ·exact .inl h
 ·exact .inr ⟨ad, k, c, h1, h2, Kd.C_below h3 hb, h4⟩
theorem clone_any {w : World} {v : Value} {xs : List Int} (h : CL w v xs) : Calls Try.prog 80 #[v] w fun e w' => ∃ v', e = .returned v' ∧ (Kd.int .i64).R 97 w' w.heap.size (fun _ => True) v' xs ∧ Below w.heap.size w w' := by
 rcases h with ⟨rfl, rfl⟩ | ⟨ad, k, c, rfl, rfl, h3, h4⟩
 ·exact (clone_nil w).mono fun e w' ⟨h1, h2⟩ => ⟨_, h1, Kd.R_nil _ _ _ _ _, h2⟩
 ·exact clone_calls w h3 h4

set_option maxRecDepth 100000 in
set_option maxHeartbeats 40000000 in
theorem split_calls {w0 : World} {A0 : Option Addr} {c0 : Nat} {Wk : List S77} {A1 : Option Addr} {c1 : Nat} {R : List S94} {ga mb : Nat} {T F : Nat → Nat → Int} {gt b1 b2 b3 b4 : Nat} {limit : Int} (hN : Wk.length ≤ 8) (hT : Bounded2 T) (hW : WorkOk Wk) :
  ∀ (s : Nat), s < 2 ^ Wk.length → ∀ (w : World) (E : Nat → Option Nat), DC w0 w A0 c0 Wk A1 c1 R ga mb T F gt b1 b2 b3 b4 limit → Tab w mb gt Wk.length E → (∀ t, t ≤ s → E t = none ∨ E t = split (badF T Wk limit) t) →
  Calls Try.prog 79 #[.int .i64 s, .pointer (some ⟨b1, 0, none⟩), .pointer (some ⟨b2, 0, none⟩), .pointer (some ⟨b3, 0, none⟩), .pointer (some ⟨b4, 0, none⟩)] w fun e w' => ∃ v E', e = .returned v ∧ Ent w' (Wr mb gt) v (split (badF T Wk limit) s) ∧ DC w0 w' A0 c0 Wk A1 c1 R ga mb T F gt b1 b2 b3 b4 limit ∧ Tab w' mb gt Wk.length E' ∧ (∀ t, t ≤ s → E' t = none ∨ E' t = split (badF T Wk limit) t) ∧ (∀ t, s < t → E' t = E t) ∧ Keep w.heap.size (Wr mb gt) w w' := by
 intro s
 induction s using Nat.strongRecOn with
 | ind s ih =>
 intro hs w E hD hTb hE
 have IH := Aside0.mk ih
 have HT := Aside0.mk hT
 have HW := Aside0.mk hW
 have HD := Aside0.mk hD
 have HTb := Aside0.mk hTb
 have HE := Aside0.mk hE
 have hs256 : s < 256 := Nat.lt_of_lt_of_le hs (Nat.pow_le_pow_right (by omega) hN)
 have hsi : (s : Int) < (2 ^ Wk.length : Nat) := by omega
 have hsi2 : (s : Int) < 2 ^ Wk.length := by have := Int.ofNat_lt.2 hs; simpa using this
 obtain ⟨hc1, hc2, hc3, hc4⟩ := hD.cells
 obtain ⟨v, hv, hEv⟩ := hTb.cell hs
 have hgt := hTb.lt
 have HEV := Aside0.mk hEv
 clear ih hT hW hD hTb hE hEv
 by_cases h0 : s = 0
 ·subst h0
  have hE0 : E 0 = none := by
   rcases HE.out 0 (Nat.le_refl _) with h | h
   ·exact h
   ·exact h
  go_enter Try.func79, Try.ntmps79
  go_wp2_with fail
  go_ret
  exact ⟨_, E, rfl, by have := HEV.out; rw [hE0] at this; exact this, HD.out, HTb.out, HE.out, fun _ _ => rfl, Keep.refl _ _ _⟩
 ·have h0b : ((s : Int) == 0) = false := by simpa using h0
  by_cases hk : ∃ k, E s = some k
  ·obtain ⟨k, hk⟩ := hk
   have hEs : split (badF T Wk limit) s = some k := by
    rcases HE.out s (Nat.le_refl _) with h | h
    ·rw [hk] at h; cases h
    ·rw [← h, hk]
   have hev := HEV.out
   rw [hk] at hev
   obtain ⟨ad, c, xs, rfl, h2, h3, h4, h5⟩ := hev
   have H3 := Aside0.mk h3
   have H4 := Aside0.mk h4
   clear h3 h4
   go_enter Try.func79, Try.ntmps79
   go_wp2_with fail
   go_ret
   exact ⟨_, E, rfl, by rw [hEs]; exact ⟨ad, c, xs, rfl, h2, H3.out, H4.out, h5⟩, HD.out, HTb.out, HE.out, fun _ _ => rfl, Keep.refl _ _ _⟩
  ·have hn : E s = none := by
    cases h : E s with
    | none => rfl
    | some k => exact absurd ⟨k, h⟩ hk
   have hev := HEV.out
   rw [hn] at hev
   obtain rfl : v = .slice none 0 0 := hev
   have hlow := low_ok hs256
   have hlowlt := low_lt hs256
   obtain ⟨first, hfirst⟩ : ∃ f, lowB s = f := ⟨_, rfl⟩
   rw [hfirst] at hlow hlowlt
   have HNS := Aside0.mk hn
   clear hk hn HEV
   go_enter Try.func79, Try.ntmps79
   go_wp2_with fail
   clear hv
   have hsp := split_pos (badF T Wk limit) s h0
   rw [hfirst] at hsp
   have HSP := Aside0.mk hsp
   have HFI := Aside0.mk hfirst
   clear hlow hsp hfirst
   go_loopw [8] (fun v8 wr => ∃ (part : Nat) (E' : Nat → Option Nat), v8 = .int .i64 part ∧ part ≤ s ∧ part &&& s = part ∧ Aside0 (DC w0 wr A0 c0 Wk A1 c1 R ga mb T F gt b1 b2 b3 b4 limit) ∧ Aside0 (Tab wr mb gt Wk.length E') ∧ Aside0 (∀ t, t < s → E' t = none ∨ E' t = split (badF T Wk limit) t) ∧ Aside0 (∀ t, s < t → E' t = E t) ∧ Aside0 (Keep w.heap.size (Wr mb gt) w wr) ∧ Aside0 (splitLoop (badF T Wk limit) (split (badF T Wk limit)) s first part part (E' s) = split (badF T Wk limit) s)) (fun v8 _ => (intOf v8).toNat)
   case atStart => exact ⟨s, E, rfl, Nat.le_refl _, Nat.and_self s, HD, HTb, ⟨fun t ht => HE.out t (by omega)⟩, ⟨fun _ _ => rfl⟩, ⟨Keep.refl _ _ _⟩, ⟨by rw [HNS.out, HSP.out]⟩⟩
   case round =>
    clear hc1 hc2 hc3 hc4 HD HTb HE hgt
    obtain ⟨part, E', rfl, hps, hpa, HD, HTb, HE, HE2, KW, HSL⟩ := hrel
    obtain ⟨hc1, hc2, hc3, hc4⟩ := HD.out.cells
    have hgt := HTb.out.lt
    by_cases hp0 : part = 0
    ·subst hp0
     have hgr : decide ((0 : Int) < ((0 : Nat) : Int)) = false := by simp
     obtain ⟨v, hv, hEv⟩ := HTb.out.cell hs
     have HEV := Aside0.mk hEv
     clear hEv
     go_wp2_with fail
     go_ret
     have hes : E' s = split (badF T Wk limit) s := by rw [← HSL.out, splitLoop_zero]
     exact ⟨_, E', rfl, by rw [← hes]; exact HEV.out, HD.out, HTb.out, fun t ht => by
      rcases Nat.lt_or_ge t s with h | h
      ·exact HE.out t h
      ·obtain rfl : t = s := by omega
       exact .inr hes, HE2.out, KW.out⟩
    ·have hgr : decide ((0 : Int) < (part : Int)) = true := by simp; omega
     have hp256 : part < 256 := by omega
     have hpn : part < 2 ^ Wk.length := by omega
     have hpl : ∀ p ∈ places part, p < Wk.length := fun p hp => by
      have h1 := Nat.ge_two_pow_of_testBit (places_mem.1 hp).2
      exact (Nat.pow_lt_pow_iff_right (by omega)).1 (Nat.lt_of_le_of_lt h1 hpn)
     have hand1 : Go.bits .and .i64 (part : Int) (first : Int) = ((part &&& first : Nat) : Int) := and_ok hlowlt hp256
     have hand2 : Go.bits .and .i64 ((part : Int) - 1) (s : Int) = (((part - 1) &&& s : Nat) : Int) := by
      have := and_ok hs256 (p := part - 1) (by omega)
      rwa [show ((part - 1 : Nat) : Int) = (part : Int) - 1 by omega] at this
     obtain ⟨hnot, _⟩ := not_ok hs256 hp256 hpa
     have hnext : (part - 1) &&& s ≤ part - 1 := Nat.and_le_left
     have hnexta := sub_and (part - 1) s
     have hstep := splitLoop_step (badF T Wk limit) (split (badF T Wk limit)) s first part (E' s) hp0
     rw [HSL.out] at hstep
     have HST := Aside0.mk hstep
     clear hstep HSL
     obtain ⟨nx, hnx⟩ : ∃ x, (part - 1) &&& s = x := ⟨_, rfl⟩
     rw [hnx] at hand2 hnext hnexta HST
     have HNX := Aside0.mk hnx
     clear hnx
     by_cases hpf : part &&& first = 0
     ·have hpfb : (((part &&& first : Nat) : Int) == 0) = true := by simp [hpf]
      have hss : splitStep (badF T Wk limit) (split (badF T Wk limit)) s first part (E' s) = E' s := by
       unfold splitStep
       rw [if_pos (.inl hpf)]
      rw [hss] at HST
      have HPF := Aside0.mk hpf
      clear hss hpf
      go_wp2_with fail
      go_quiet (fail)
      go_wp2_with fail
      exact ⟨⟨nx, E', rfl, by omega, hnexta, ⟨HD.out.drewN nq⟩, ⟨HTb.out.drewN HD.out.nt.1 nq⟩, HE, HE2, ⟨KW.out.drewN nq⟩, ⟨HST.out.symm⟩⟩, by simp [intOf]; omega⟩
     ·have hpfb : (((part &&& first : Nat) : Int) == 0) = false := by simp [hpf]
      by_cases hbad : limit < longF T Wk part
      ·have hbadb : decide (limit < longF T Wk part) = true := by simp [hbad]
       have hss : splitStep (badF T Wk limit) (split (badF T Wk limit)) s first part (E' s) = E' s := by
        unfold splitStep
        rw [if_pos (.inr hbadb)]
       rw [hss] at HST
       clear hss hbad hpf
       go_wp2_with fail
       refine start_ (n := 11) (S := fun w' => w'.cell? ⟨b2, 0, none⟩ = some (.pointer (some ⟨ga, 0, none⟩)) ∧ w'.cell? ⟨b3, 0, none⟩ = some (.int .i64 limit)) (ds := []) #[false, false, false, false, false, false, false, false, false, false, false] (by kernel_rfl) rfl rfl ⟨hc2, hc3⟩ (fun hHeld => ?_); refine with_tabW dv.tab7 dv.bits7 (fun HT_ HW_ => ?_)
       have HDd := Aside0.mk HD.out.drew
       have HTd := Aside0.mk (HTb.out.drew HD.out.nt.1)
       have KWd := Aside0.mk KW.out.drew
       clear HD HTb KW hc1 hc2 hc3 hc4 hgt
       generalize wr.drew = wd at HDd HTd KWd hHeld ⊢
       refine pure_ (i := 0) (N := some 34) (v := ?_) (a' := ?_) #[true, false, false, false, false, false, false, false, false, false, false] rfl rfl (any_of HT_.out (by kernel_rfl)) (fun _ _ _ h => h) (Or.inl ⟨by rfl, ?_⟩) ?_ ?_
       rotate_left
       ·intro w'
        go_simp
        with_reducible rfl
       rotate_left
       ·simp only [Act.put, sb0, sb1, sb2, i64_w, i32_w]
        rfl
       refine pure_ (i := 1) (N := some 35) (v := ?_) (a' := ?_) #[true, true, false, false, false, false, false, false, false, false, false] rfl rfl (any_of HT_.out (by kernel_rfl)) (fun _ _ _ h => h) (Or.inl ⟨by rfl, ?_⟩) ?_ ?_
       rotate_left
       ·intro w'
        go_simp
        with_reducible rfl
       rotate_left
       ·simp only [Act.put, sb0, sb1, sb2, i64_w, i32_w]
        rfl
       refine pure_ (i := 2) (N := some 36) (v := ?_) (a' := ?_) #[true, true, true, false, false, false, false, false, false, false, false] rfl rfl (any_of HT_.out (by kernel_rfl)) (fun _ _ _ h => h) (Or.inl ⟨by rfl, ?_⟩) ?_ ?_
       rotate_left
       ·intro w'
        go_simp
        with_reducible rfl
       rotate_left
       ·simp only [Act.put, sb0, sb1, sb2, i64_w, i32_w]
        rfl
       refine pure_ (i := 3) (N := some 37) (v := ?_) (a' := ?_) #[true, true, true, true, false, false, false, false, false, false, false] rfl rfl (any_of HT_.out (by kernel_rfl)) (fun _ _ _ h => h) (Or.inl ⟨by rfl, ?_⟩) ?_ ?_
       rotate_left
       ·intro w'
        go_simp
        with_reducible rfl
       rotate_left
       ·simp only [Act.put, sb0, sb1, sb2, i64_w, i32_w]
        rfl
       refine pure_ (i := 4) (N := some 38) (v := ?_) (a' := ?_) #[true, true, true, true, true, false, false, false, false, false, false] rfl rfl (any_of HT_.out (by kernel_rfl)) (fun _ _ _ h => h) (Or.inl ⟨by rfl, ?_⟩) ?_ ?_
       rotate_left
       ·intro w'
        go_simp
        with_reducible rfl
       rotate_left
       ·simp only [Act.put, sb0, sb1, sb2, i64_w, i32_w]
        rfl
       refine take_ (i := 5) (N := some 39) (v := ?_) (a' := ?_) #[true, true, true, true, true, true, false, false, false, false, false] rfl rfl (take_ofW HT_.out HW_.out (by kernel_rfl)) (fun _ _ _ h => h) (Or.inl ⟨by rfl, ?_⟩) hHeld ?_ ?_
       rotate_left
       ·rintro w' ⟨s0, s1⟩
        go_simp
        with_reducible rfl
       rotate_left
       ·simp only [Act.put, sb0, sb1, sb2, i64_w, i32_w]
        rfl
       refine pure_ (i := 6) (N := some 40) (v := ?_) (a' := ?_) #[true, true, true, true, true, true, true, false, false, false, false] rfl rfl (any_of HT_.out (by kernel_rfl)) (fun _ _ _ h => h) (Or.inl ⟨by rfl, ?_⟩) ?_ ?_
       rotate_left
       ·intro w'
        go_simp
        with_reducible rfl
       rotate_left
       ·simp only [Act.put, sb0, sb1, sb2, i64_w, i32_w]
        rfl
       refine take_ (i := 8) (N := some 42) (v := ?_) (a' := ?_) #[true, true, true, true, true, true, true, false, true, false, false] rfl rfl (take_ofW HT_.out HW_.out (by kernel_rfl)) (fun _ _ _ h => h) (Or.inl ⟨by rfl, ?_⟩) hHeld ?_ ?_
       rotate_left
       ·rintro w' ⟨s0, s1⟩
        go_simp
        with_reducible rfl
       rotate_left
       ·simp only [Act.put, sb0, sb1, sb2, i64_w, i32_w]
        rfl
       refine one_ (i := 7) (N := some 41) #[true, true, true, true, true, true, true, true, true, false, false] rfl rfl (one_of HT_.out (by kernel_rfl)) (by decide) (fun K hK => ?_)
       refine goes_ Try.func37 (by kernel_rfl) rfl #[.pointer (some ⟨ga, 0, none⟩), .int .i64 (part : Int)] (by rfl) rfl rfl (by (try simp only [List.map_toArray, List.map_cons, List.map_nil]); rfl) ?_
       refine (longest_calls HT.out HW.out part hp256 hpl HDd.out.atl).mono ?_
       rintro e_ w_ ⟨rfl, hA_, hK_⟩
       refine ⟨_, rfl, hK.out _ _ ⟨(HDd.out.keep (Nat.le_refl _) (hK_.mono (Nat.le_refl _) (fun b _ h => .inl h)) hA_.atl).cells.2.1, (HDd.out.keep (Nat.le_refl _) (hK_.mono (Nat.le_refl _) (fun b _ h => .inl h)) hA_.atl).cells.2.2.1⟩ (fun hHeld => ?_)⟩
       clear hK K
       have HDe := Aside0.mk (HDd.out.keep (Nat.le_refl _) (hK_.mono (Nat.le_refl _) (fun b _ h => .inl h)) hA_.atl)
       have HTe := Aside0.mk (HTd.out.keep hK_ (Nat.le_refl _) (fun _ h => h) HDd.out.nt.1)
       have KWe := Aside0.mk (KWd.out.trans (hK_.mono KWd.out.size (fun b _ h => .inl h)))
       clear hA_ hK_ HDd HTd KWd
       refine norm_ (by simp only [Act.put, sb0, sb1, sb2]; rfl) ?_
       refine pure_ (i := 9) (N := some 43) (v := ?_) (a' := ?_) #[true, true, true, true, true, true, true, true, true, true, false] rfl rfl (any_of HT_.out (by kernel_rfl)) (fun _ _ _ h => h) (Or.inl ⟨by rfl, ?_⟩) ?_ ?_
       rotate_left
       ·intro w'
        go_simp
        with_reducible rfl
       rotate_left
       ·simp only [Act.put, sb0, sb1, sb2, i64_w, i32_w]
        rfl
       refine pure_ (i := 10) (N := some 44) (v := ?_) (a' := ?_) #[true, true, true, true, true, true, true, true, true, true, true] rfl rfl (any_of HT_.out (by kernel_rfl)) (fun _ _ _ h => h) (Or.inl ⟨by rfl, ?_⟩) ?_ ?_
       rotate_left
       ·intro w'
        go_simp
        with_reducible rfl
       rotate_left
       ·simp only [Act.put, sb0, sb1, sb2, i64_w, i32_w]
        rfl
       refine done_ (done_of HT_.out (by kernel_rfl)) ?_
       go_wp2_with fail
       exact ⟨⟨nx, E', rfl, by omega, hnexta, HDe, HTe, HE, HE2, KWe, ⟨HST.out.symm⟩⟩, by simp [intOf]; omega⟩
      ·have hbadb : decide (limit < longF T Wk part) = false := by simpa using hbad
       have HBD := Aside0.mk (show ¬ (part &&& first = 0 ∨ badF T Wk limit part = true) by
        rintro (h | h)
        ·exact hpf h
        ·unfold badF at h
         rw [hbadb] at h
         cases h)
       clear hbad hpf
       go_wp2_with fail
       refine start_ (n := 11) (S := fun w' => w'.cell? ⟨b2, 0, none⟩ = some (.pointer (some ⟨ga, 0, none⟩)) ∧ w'.cell? ⟨b3, 0, none⟩ = some (.int .i64 limit)) (ds := []) #[false, false, false, false, false, false, false, false, false, false, false] (by kernel_rfl) rfl rfl ⟨hc2, hc3⟩ (fun hHeld => ?_); refine with_tabW dv.tab7 dv.bits7 (fun HT_ HW_ => ?_)
       have HDd := Aside0.mk HD.out.drew
       have HTd := Aside0.mk (HTb.out.drew HD.out.nt.1)
       have KWd := Aside0.mk KW.out.drew
       clear HD HTb KW hc1 hc2 hc3 hc4 hgt
       generalize wr.drew = wd at HDd HTd KWd hHeld ⊢
       refine pure_ (i := 0) (N := some 34) (v := ?_) (a' := ?_) #[true, false, false, false, false, false, false, false, false, false, false] rfl rfl (any_of HT_.out (by kernel_rfl)) (fun _ _ _ h => h) (Or.inl ⟨by rfl, ?_⟩) ?_ ?_
       rotate_left
       ·intro w'
        go_simp
        with_reducible rfl
       rotate_left
       ·simp only [Act.put, sb0, sb1, sb2, i64_w, i32_w]
        rfl
       refine pure_ (i := 1) (N := some 35) (v := ?_) (a' := ?_) #[true, true, false, false, false, false, false, false, false, false, false] rfl rfl (any_of HT_.out (by kernel_rfl)) (fun _ _ _ h => h) (Or.inl ⟨by rfl, ?_⟩) ?_ ?_
       rotate_left
       ·intro w'
        go_simp
        with_reducible rfl
       rotate_left
       ·simp only [Act.put, sb0, sb1, sb2, i64_w, i32_w]
        rfl
       refine pure_ (i := 2) (N := some 36) (v := ?_) (a' := ?_) #[true, true, true, false, false, false, false, false, false, false, false] rfl rfl (any_of HT_.out (by kernel_rfl)) (fun _ _ _ h => h) (Or.inl ⟨by rfl, ?_⟩) ?_ ?_
       rotate_left
       ·intro w'
        go_simp
        with_reducible rfl
       rotate_left
       ·simp only [Act.put, sb0, sb1, sb2, i64_w, i32_w]
        rfl
       refine pure_ (i := 3) (N := some 37) (v := ?_) (a' := ?_) #[true, true, true, true, false, false, false, false, false, false, false] rfl rfl (any_of HT_.out (by kernel_rfl)) (fun _ _ _ h => h) (Or.inl ⟨by rfl, ?_⟩) ?_ ?_
       rotate_left
       ·intro w'
        go_simp
        with_reducible rfl
       rotate_left
       ·simp only [Act.put, sb0, sb1, sb2, i64_w, i32_w]
        rfl
       refine pure_ (i := 4) (N := some 38) (v := ?_) (a' := ?_) #[true, true, true, true, true, false, false, false, false, false, false] rfl rfl (any_of HT_.out (by kernel_rfl)) (fun _ _ _ h => h) (Or.inl ⟨by rfl, ?_⟩) ?_ ?_
       rotate_left
       ·intro w'
        go_simp
        with_reducible rfl
       rotate_left
       ·simp only [Act.put, sb0, sb1, sb2, i64_w, i32_w]
        rfl
       refine take_ (i := 5) (N := some 39) (v := ?_) (a' := ?_) #[true, true, true, true, true, true, false, false, false, false, false] rfl rfl (take_ofW HT_.out HW_.out (by kernel_rfl)) (fun _ _ _ h => h) (Or.inl ⟨by rfl, ?_⟩) hHeld ?_ ?_
       rotate_left
       ·rintro w' ⟨s0, s1⟩
        go_simp
        with_reducible rfl
       rotate_left
       ·simp only [Act.put, sb0, sb1, sb2, i64_w, i32_w]
        rfl
       refine pure_ (i := 6) (N := some 40) (v := ?_) (a' := ?_) #[true, true, true, true, true, true, true, false, false, false, false] rfl rfl (any_of HT_.out (by kernel_rfl)) (fun _ _ _ h => h) (Or.inl ⟨by rfl, ?_⟩) ?_ ?_
       rotate_left
       ·intro w'
        go_simp
        with_reducible rfl
       rotate_left
       ·simp only [Act.put, sb0, sb1, sb2, i64_w, i32_w]
        rfl
       refine take_ (i := 8) (N := some 42) (v := ?_) (a' := ?_) #[true, true, true, true, true, true, true, false, true, false, false] rfl rfl (take_ofW HT_.out HW_.out (by kernel_rfl)) (fun _ _ _ h => h) (Or.inl ⟨by rfl, ?_⟩) hHeld ?_ ?_
       rotate_left
       ·rintro w' ⟨s0, s1⟩
        go_simp
        with_reducible rfl
       rotate_left
       ·simp only [Act.put, sb0, sb1, sb2, i64_w, i32_w]
        rfl
       refine one_ (i := 7) (N := some 41) #[true, true, true, true, true, true, true, true, true, false, false] rfl rfl (one_of HT_.out (by kernel_rfl)) (by decide) (fun K hK => ?_)
       refine goes_ Try.func37 (by kernel_rfl) rfl #[.pointer (some ⟨ga, 0, none⟩), .int .i64 (part : Int)] (by rfl) rfl rfl (by (try simp only [List.map_toArray, List.map_cons, List.map_nil]); rfl) ?_
       refine (longest_calls HT.out HW.out part hp256 hpl HDd.out.atl).mono ?_
       rintro e_ w_ ⟨rfl, hA_, hK_⟩
       refine ⟨_, rfl, hK.out _ _ ⟨(HDd.out.keep (Nat.le_refl _) (hK_.mono (Nat.le_refl _) (fun b _ h => .inl h)) hA_.atl).cells.2.1, (HDd.out.keep (Nat.le_refl _) (hK_.mono (Nat.le_refl _) (fun b _ h => .inl h)) hA_.atl).cells.2.2.1⟩ (fun hHeld => ?_)⟩
       clear hK K
       have HDe := Aside0.mk (HDd.out.keep (Nat.le_refl _) (hK_.mono (Nat.le_refl _) (fun b _ h => .inl h)) hA_.atl)
       have HTe := Aside0.mk (HTd.out.keep hK_ (Nat.le_refl _) (fun _ h => h) HDd.out.nt.1)
       have KWe := Aside0.mk (KWd.out.trans (hK_.mono KWd.out.size (fun b _ h => .inl h)))
       clear hA_ hK_ HDd HTd KWd
       refine norm_ (by simp only [Act.put, sb0, sb1, sb2]; rfl) ?_
       refine pure_ (i := 9) (N := some 43) (v := ?_) (a' := ?_) #[true, true, true, true, true, true, true, true, true, true, false] rfl rfl (any_of HT_.out (by kernel_rfl)) (fun _ _ _ h => h) (Or.inl ⟨by rfl, ?_⟩) ?_ ?_
       rotate_left
       ·intro w'
        go_simp
        with_reducible rfl
       rotate_left
       ·simp only [Act.put, sb0, sb1, sb2, i64_w, i32_w]
        rfl
       refine pure_ (i := 10) (N := some 44) (v := ?_) (a' := ?_) #[true, true, true, true, true, true, true, true, true, true, true] rfl rfl (any_of HT_.out (by kernel_rfl)) (fun _ _ _ h => h) (Or.inl ⟨by rfl, ?_⟩) ?_ ?_
       rotate_left
       ·intro w'
        go_simp
        with_reducible rfl
       rotate_left
       ·simp only [Act.put, sb0, sb1, sb2, i64_w, i32_w]
        rfl
       refine done_ (done_of HT_.out (by kernel_rfl)) ?_
       obtain ⟨hc1, hc2, hc3, hc4⟩ := HDe.out.cells
       go_wp2_with fail
       refine (IH.out (s - part) (by omega) (by omega) w_ E' HDe.out HTe.out (fun t ht => HE.out t (by omega))).mono ?_
       rintro e w5 ⟨v5, E5, rfl, hEv5, hD5, hT5, hE5, hE5b, hK5⟩
       have hE5s : E5 s = E' s := hE5b s (by omega)
       have HE5 : Aside0 (∀ t, t < s → E5 t = none ∨ E5 t = split (badF T Wk limit) t) := ⟨fun t ht => by
        rcases Nat.lt_or_ge (s - part) t with h | h
        ·rw [hE5b t h]
         exact HE.out t ht
        ·exact hE5 t h⟩
       have HE52 : Aside0 (∀ t, s < t → E5 t = E t) := ⟨fun t ht => by rw [hE5b t (by omega)]; exact HE2.out t ht⟩
       have HD5 := Aside0.mk hD5
       have HT5 := Aside0.mk hT5
       have KW5 := Aside0.mk (KWe.out.trans (hK5.mono KWe.out.size (fun _ _ h => h)))
       obtain ⟨og, hog⟩ : ∃ o, split (badF T Wk limit) (s - part) = o := ⟨_, rfl⟩
       rw [hog] at hEv5
       have hsl := split_len (badF T Wk limit) (s - part) (s - part) (Nat.le_refl _)
       rw [hog] at hsl
       have hst : splitStep (badF T Wk limit) (split (badF T Wk limit)) s first part (E' s) = if s ≠ part ∧ og = none then E' s else match E' s with | none => some (og.getD 0 + 1) | some n => if og.getD 0 + 1 < n then some (og.getD 0 + 1) else some n := by
        unfold splitStep
        rw [if_neg HBD.out, hog]
        by_cases h : s ≠ part ∧ og = none
        ·rw [if_pos h, if_pos h]
        ·rw [if_neg h, if_neg h]
         cases E' s <;> rfl
       rw [hst] at HST
       have HOG := Aside0.mk hog
       clear hst hog hD5 hT5 hE5 hE5b hK5 HDe HTe KWe hc1 hc2 hc3 hc4 HE HE2
       obtain ⟨hc1, hc2, hc3, hc4⟩ := HD5.out.cells
       obtain ⟨vb, hvb, hEb⟩ := HT5.out.cell hs
       rw [hE5s] at hEb
       have hgt5 := HT5.out.lt
       by_cases hse : s = part
       ·have hseb : ((s : Int) == (part : Int)) = true := by simp [hse]
        have hsne : ((s : Int) != (part : Int)) = false := by simp [hse]
        have hon : og = none := by
         have := HOG.out
         rw [hse, Nat.sub_self, split_zero] at this
         exact this.symm
        subst hon
        obtain rfl : v5 = .slice none 0 0 := hEv5
        rw [if_neg (fun h => h.1 hse)] at HST
        simp only [Option.getD_none] at HST
        have HCL := Aside0.mk (show CL w5 (.slice none 0 0) [] from .inl ⟨rfl, rfl⟩)
        clear hse
        cases hEs : E' s with
        | none =>
         rw [hEs] at hEb HST
         obtain rfl : vb = .slice none 0 0 := hEb
         go_wp2_with fail
         refine start_ (n := 9) (S := fun w' => w'.cell? ⟨b1, 0, none⟩ = some (.slice (some ⟨gt, 0, none⟩) (2 ^ Wk.length) (2 ^ Wk.length))) (ds := [8]) #[false, false, false, false, false, false, false, false, false] (by kernel_rfl) rfl rfl hc1 (fun hHeld => ?_); refine with_tabW dv.tab11 dv.bits11 (fun HT_ HW_ => ?_)
         have HD6 := Aside0.mk HD5.out.drew
         have HT6 := Aside0.mk (HT5.out.drew HD5.out.nt.1)
         have KW6 := Aside0.mk KW5.out.drew
         have HCL6 := Aside0.mk (show CL w5.drew (.slice none 0 0) [] from HCL.out)
         clear HD5 HT5 KW5 HCL hc1 hc2 hc3 hc4 hgt5 hvb
         generalize w5.drew = wd at HD6 HT6 KW6 HCL6 hHeld ⊢
         have hmt := HD6.out.nt.1
         have hmd := HD6.out.atl.atl.memo.lt
         have hgd := HT6.out.lt
         have hbd := HD6.out.c1.lt
         refine take_ (i := 0) (N := some 73) (v := ?_) (a' := ?_) #[true, false, false, false, false, false, false, false, false] rfl rfl (take_ofW HT_.out HW_.out (by kernel_rfl)) (fun _ _ _ h => h) (Or.inl ⟨by rfl, ?_⟩) hHeld ?_ ?_
         rotate_left
         ·rintro w' s0
          go_simp
          with_reducible rfl
         rotate_left
         ·simp only [Act.put, sb0, sb1, sb2, i64_w, i32_w]
          rfl
         refine pure_ (i := 1) (N := some 74) (v := ?_) (a' := ?_) #[true, true, false, false, false, false, false, false, false] rfl rfl (any_of HT_.out (by kernel_rfl)) (fun _ _ _ h => h) (Or.inl ⟨by rfl, ?_⟩) ?_ ?_
         rotate_left
         ·intro w'
          go_simp
          with_reducible rfl
         rotate_left
         ·simp only [Act.put, sb0, sb1, sb2, i64_w, i32_w]
          rfl
         refine pure_ (i := 2) (N := some 75) (v := ?_) (a' := ?_) #[true, true, true, false, false, false, false, false, false] rfl rfl (any_of HT_.out (by kernel_rfl)) (fun _ _ _ h => h) (Or.inl ⟨by rfl, ?_⟩) ?_ ?_
         rotate_left
         ·intro w'
          go_simp
          with_reducible rfl
         rotate_left
         ·simp only [Act.put, sb0, sb1, sb2, i64_w, i32_w]
          rfl
         refine pure_ (i := 4) (N := some 77) (v := ?_) (a' := ?_) #[true, true, true, false, true, false, false, false, false] rfl rfl (any_of HT_.out (by kernel_rfl)) (fun _ _ _ h => h) (Or.inl ⟨by rfl, ?_⟩) ?_ ?_
         rotate_left
         ·intro w'
          go_simp
          with_reducible rfl
         rotate_left
         ·simp only [Act.put, sb0, sb1, sb2, i64_w, i32_w]
          rfl
         refine join_ (σ := Value × Nat) 3 #[true, true, true, true, true, true, false, false, false] (fun x => [(76, x.1), (78, .slice (some ⟨x.2, 0, none⟩) 1 1)]) (fun x w' => (Kd.int .i64).R 97 w' wd.heap.size (fun k => wd.heap.size ≤ k ∧ k ≠ x.2) x.1 [] ∧ wd.heap.size ≤ x.2 ∧ x.2 < w'.heap.size ∧ w'.cell? ⟨x.2, 0, none⟩ = some (.int .i64 (part : Int)) ∧ Below wd.heap.size wd w') ?cont ?orders
         case orders =>
          intro hcont
          refine two_ (i := 3) (j := 5) (Ni := some 76) (Nj := some 78) #[true, true, true, true, true, false, false, false, false] #[true, true, true, false, true, true, false, false, false] rfl rfl rfl rfl (two_of HT_.out (by kernel_rfl)) (by decide) (by decide) (fun K hK => ?_) (fun K hK => ?_)
          ·refine goes_ Try.func80 (by kernel_rfl) rfl #[(.slice none 0 0)] (by rfl) rfl rfl (by (try simp only [List.map_toArray, List.map_cons, List.map_nil]); rfl) ?_
           refine (clone_any HCL6.out).mono ?_
           rintro e_ wc ⟨v6, rfl, hR6, hB6⟩
           refine ⟨_, rfl, hK.out _ _ ((hB6.cell (p := ⟨b1, 0, none⟩) hbd).trans hHeld) (fun hHeld2 => ?_)⟩
           clear hK K
           have hsz6 := hB6.size
           refine norm_ (by simp only [Act.put, sb0, sb1, sb2]; rfl) ?_
           refine one_ (i := 5) (N := some 78) #[true, true, true, true, true, true, false, false, false] rfl rfl (one_of HT_.out (by kernel_rfl)) (by decide) (fun K hK => ?_)
           refine value_ (w1 := ?_) (v := ?_) (by rfl) rfl ?_ ?_
           rotate_left 2
           ·go_simp
            constructor <;> rfl
           refine hK.out _ _ ((Below.cell (below_alloc (Below.refl _ _) _) (p := ⟨b1, 0, none⟩) (by simp only; omega)).trans hHeld2) (fun _ => ?_)
           clear hK K
           have hfin := hcont (v6, wc.heap.size) (wc.alloc (.cells #[.int .i64 (part : Int)] 97)) ⟨Kd.R_alloc (Kd.R_mono (Kd.R_bound hR6) (fun k hk => ⟨hk.2.1, by simp only; have := hk.2.2.1; omega⟩)) _, hsz6, by simp, by simpa using (Blk.new wc [.int .i64 (part : Int)] 97).cell 0, below_alloc hB6 _⟩
           refine norm_ ?_ hfin
           simp only [putAll, Act.put, sb0, sb1, sb2]
          ·refine value_ (w1 := ?_) (v := ?_) (by rfl) rfl ?_ ?_
           rotate_left 2
           ·go_simp
            constructor <;> rfl
           refine hK.out _ _ ((Below.cell (below_alloc (Below.refl _ _) _) (p := ⟨b1, 0, none⟩) hbd).trans hHeld) (fun hHeld2 => ?_)
           clear hK K
           have BL := Aside0.mk (Blk.new wd [.int .i64 (part : Int)] 97)
           have HCLa := Aside0.mk (HCL6.out.below (below_alloc (Below.refl _ _) (.cells #[.int .i64 (part : Int)] 97)))
           have hsa : (wd.alloc (.cells #[.int .i64 (part : Int)] 97)).heap.size = wd.heap.size + 1 := by simp
           refine norm_ (by simp only [Act.put, sb0, sb1, sb2]; rfl) ?_
           have hBa := below_alloc (Below.refl wd.heap.size wd) (.cells #[.int .i64 (part : Int)] 97)
           generalize wd.alloc (.cells #[.int .i64 (part : Int)] 97) = wa at BL HCLa hsa hBa hHeld2 ⊢
           refine one_ (i := 3) (N := some 76) #[true, true, true, true, true, true, false, false, false] rfl rfl (one_of HT_.out (by kernel_rfl)) (by decide) (fun K hK => ?_)
           refine goes_ Try.func80 (by kernel_rfl) rfl #[(.slice none 0 0)] (by rfl) rfl rfl (by (try simp only [List.map_toArray, List.map_cons, List.map_nil]); rfl) ?_
           refine (clone_any HCLa.out).mono ?_
           rintro e_ wc ⟨v6, rfl, hR6, hB6⟩
           refine ⟨_, rfl, hK.out _ _ ((hB6.cell (p := ⟨b1, 0, none⟩) (by simp only; omega)).trans hHeld2) (fun _ => ?_)⟩
           clear hK K
           have hsz6 := hB6.size
           have hfin := hcont (v6, wd.heap.size) wc ⟨Kd.R_mono (Kd.R_lower (Kd.R_bound hR6) (by omega)) (fun k hk => ⟨by have := hk.2.1; omega, by simp only; have := hk.2.1; omega⟩), Nat.le_refl _, by simp only; omega, by simpa using (BL.out.below hB6).cell 0, hBa.trans (hB6.mono (by omega))⟩
           refine norm_ ?_ hfin
           simp only [putAll, Act.put, sb0, sb1, sb2]
         case cont =>
          rintro ⟨v6, gl⟩ w6 ⟨hR6, hgl1, hgl2, hgl3, hB6⟩
          simp only at hR6 hgl1 hgl2 hgl3
          refine norm_ (by simp only [putAll, Act.put, sb0, sb1, sb2]; rfl) ?_
          refine one_ (i := 6) (N := some 79) #[true, true, true, true, true, true, true, false, false] rfl rfl (one_of HT_.out (by kernel_rfl)) (by decide) (fun K hK => ?_)
          refine Kd.R_append_rows_step (Kd.int .i64) (w0 := wd) wd.heap.size (by rfl) (.tmp 76) (.tmp 78) 100 97 (.int .i64 0) 8 rfl Try.underlying100 infoSet rfl (by decide) (by omega) v6 [] [(part : Int)] (some ⟨gl, 0, none⟩) 1 1 (fun k => wd.heap.size ≤ k ∧ k ≠ gl) (fun _ => False) rfl rfl hR6 (lit_row hgl3) (fun x cs h => h) (fun _ hk => hk.elim) (fun k hk => ⟨by have := hB6.size; omega, by omega⟩) hB6 hB6.size (by first | omega | (simp only [List.length_nil]; omega)) ?_
          intro v7 w7 hR7 hB7 hg7 hat7
          obtain ⟨ad7, c7, rfl⟩ := Kd.R_slice1 hR7 (by simp)
          have hlen : ([] ++ [(part : Int)]).length = 0 + 1 := by simp
          have HE7 := Aside0.mk (Ent.ofR (no := Wr mb gt) hR7 (by simp) (fun k hk hno => by rcases hno with e | e <;> omega))
          rw [hlen] at hR7 HE7 ⊢
          have K7 : Keep wd.heap.size (Wr mb gt) wd w7 := Keep.of_below hB7 (Nat.le_refl _)
          have HD7 := Aside0.mk (HD6.out.keep (Nat.le_refl _) K7 (HD6.out.atl.atl.keep hB7))
          have HT7 := Aside0.mk (HT6.out.keep (S := fun b => b = mb) (Keep.of_below hB7 (Nat.le_refl _)) (Nat.le_refl _) (fun _ h => h) hmt)
          have KW7 := Aside0.mk (KW6.out.trans (K7.mono KW6.out.size (fun _ _ h => h)))
          refine hK.out _ _ ((hB7.cell (p := ⟨b1, 0, none⟩) hbd).trans hHeld) (fun _ => ?_)
          clear hK K hR7 hB7 hg7 hat7 K7 hR6 hgl1 hgl2 hgl3 hB6
          refine norm_ (by simp only [Act.put, sb0, sb1, sb2]; rfl) ?_
          refine pure_ (i := 7) (N := some 80) (v := ?_) (a' := ?_) #[true, true, true, true, true, true, true, true, false] rfl rfl (any_of HT_.out (by kernel_rfl)) (fun _ _ _ h => h) (Or.inl ⟨by rfl, ?_⟩) ?_ ?_
          rotate_left
          ·intro w'
           go_simp
           with_reducible rfl
          rotate_left
          ·simp only [Act.put, sb0, sb1, sb2, i64_w, i32_w]
           rfl
          obtain ⟨vo, hvo, _⟩ := HT7.out.cell hs
          refine last_ (i := 8) (N := none) #[true, true, true, true, true, true, true, true, true] rfl rfl (one_of HT_.out (by kernel_rfl)) (by decide) (fun K hK => ?_)
          have hst_ := hvo
          have hfr_ := HT7.out.frozen s
          refine skip_ (w1 := ?_) (by rfl) rfl ?_ ?_
          rotate_left
          ·go_simp
           rfl
          refine hK.out _ _ ?_
          clear hK K hst_ hfr_ 
          have HDz := Aside0.mk (HD7.out.keep (Nat.le_refl _) ((Keep.refl w7.heap.size (Wr mb gt) w7).setCell (p := ⟨gt, s, none⟩) (.inl (.inr rfl)) (.slice (some ad7) (0 + 1) c7)) (HD7.out.atl.atl.other (p := ⟨gt, s, none⟩) HD7.out.nt.2 HD7.out.nt.1 (.slice (some ad7) (0 + 1) c7)))
          have HTz := Aside0.mk (HT7.out.set hs HE7.out)
          have KWz := Aside0.mk (KW7.out.setCell (p := ⟨gt, s, none⟩) (.inl (.inr rfl)) (.slice (some ad7) (0 + 1) c7))
          refine done_ (done_of HT_.out (by kernel_rfl)) ?_
          clear HD7 HT7 KW7 HE7 hvo
          generalize w7.setCell ⟨gt, s, none⟩ (.slice (some ad7) (0 + 1) c7) = wz at HDz HTz KWz ⊢
          go_wp2_with fail
          exact ⟨⟨nx, _, rfl, by omega, hnexta, HDz, HTz, ⟨fun t ht => by rw [upd_other _ _ _ _ (by omega)]; exact HE5.out t ht⟩, ⟨fun t ht => by rw [upd_other _ _ _ _ (by omega)]; exact HE52.out t ht⟩, KWz, ⟨by rw [upd_same]; exact HST.out.symm⟩⟩, by simp [intOf]; omega⟩
        | some n =>
         rw [hEs] at hEb HST
         obtain ⟨adb, cb, xsb, rfl, hxb, hCb, hnob, hltb⟩ := hEb
         clear hCb hnob
         simp only at HST
         by_cases hln : 0 + 1 < n
         ·have hlnb : decide ((0 : Int) + 1 < (n : Int)) = true := by simp; omega
          have hlnb2 : decide ((1 : Int) < (n : Int)) = true := by simp; omega
          have hlnb3 : decide (1 < n) = true := by simp; omega
          rw [if_pos hln] at HST
          clear hln
          go_wp2_with fail
          refine start_ (n := 9) (S := fun w' => w'.cell? ⟨b1, 0, none⟩ = some (.slice (some ⟨gt, 0, none⟩) (2 ^ Wk.length) (2 ^ Wk.length))) (ds := [8]) #[false, false, false, false, false, false, false, false, false] (by kernel_rfl) rfl rfl hc1 (fun hHeld => ?_); refine with_tabW dv.tab11 dv.bits11 (fun HT_ HW_ => ?_)
          have HD6 := Aside0.mk HD5.out.drew
          have HT6 := Aside0.mk (HT5.out.drew HD5.out.nt.1)
          have KW6 := Aside0.mk KW5.out.drew
          have HCL6 := Aside0.mk (show CL w5.drew (.slice none 0 0) [] from HCL.out)
          clear HD5 HT5 KW5 HCL hc1 hc2 hc3 hc4 hgt5 hvb
          generalize w5.drew = wd at HD6 HT6 KW6 HCL6 hHeld ⊢
          have hmt := HD6.out.nt.1
          have hmd := HD6.out.atl.atl.memo.lt
          have hgd := HT6.out.lt
          have hbd := HD6.out.c1.lt
          refine take_ (i := 0) (N := some 73) (v := ?_) (a' := ?_) #[true, false, false, false, false, false, false, false, false] rfl rfl (take_ofW HT_.out HW_.out (by kernel_rfl)) (fun _ _ _ h => h) (Or.inl ⟨by rfl, ?_⟩) hHeld ?_ ?_
          rotate_left
          ·rintro w' s0
           go_simp
           with_reducible rfl
          rotate_left
          ·simp only [Act.put, sb0, sb1, sb2, i64_w, i32_w]
           rfl
          refine pure_ (i := 1) (N := some 74) (v := ?_) (a' := ?_) #[true, true, false, false, false, false, false, false, false] rfl rfl (any_of HT_.out (by kernel_rfl)) (fun _ _ _ h => h) (Or.inl ⟨by rfl, ?_⟩) ?_ ?_
          rotate_left
          ·intro w'
           go_simp
           with_reducible rfl
          rotate_left
          ·simp only [Act.put, sb0, sb1, sb2, i64_w, i32_w]
           rfl
          refine pure_ (i := 2) (N := some 75) (v := ?_) (a' := ?_) #[true, true, true, false, false, false, false, false, false] rfl rfl (any_of HT_.out (by kernel_rfl)) (fun _ _ _ h => h) (Or.inl ⟨by rfl, ?_⟩) ?_ ?_
          rotate_left
          ·intro w'
           go_simp
           with_reducible rfl
          rotate_left
          ·simp only [Act.put, sb0, sb1, sb2, i64_w, i32_w]
           rfl
          refine pure_ (i := 4) (N := some 77) (v := ?_) (a' := ?_) #[true, true, true, false, true, false, false, false, false] rfl rfl (any_of HT_.out (by kernel_rfl)) (fun _ _ _ h => h) (Or.inl ⟨by rfl, ?_⟩) ?_ ?_
          rotate_left
          ·intro w'
           go_simp
           with_reducible rfl
          rotate_left
          ·simp only [Act.put, sb0, sb1, sb2, i64_w, i32_w]
           rfl
          refine join_ (σ := Value × Nat) 3 #[true, true, true, true, true, true, false, false, false] (fun x => [(76, x.1), (78, .slice (some ⟨x.2, 0, none⟩) 1 1)]) (fun x w' => (Kd.int .i64).R 97 w' wd.heap.size (fun k => wd.heap.size ≤ k ∧ k ≠ x.2) x.1 [] ∧ wd.heap.size ≤ x.2 ∧ x.2 < w'.heap.size ∧ w'.cell? ⟨x.2, 0, none⟩ = some (.int .i64 (part : Int)) ∧ Below wd.heap.size wd w') ?cont ?orders
          case orders =>
           intro hcont
           refine two_ (i := 3) (j := 5) (Ni := some 76) (Nj := some 78) #[true, true, true, true, true, false, false, false, false] #[true, true, true, false, true, true, false, false, false] rfl rfl rfl rfl (two_of HT_.out (by kernel_rfl)) (by decide) (by decide) (fun K hK => ?_) (fun K hK => ?_)
           ·refine goes_ Try.func80 (by kernel_rfl) rfl #[(.slice none 0 0)] (by rfl) rfl rfl (by (try simp only [List.map_toArray, List.map_cons, List.map_nil]); rfl) ?_
            refine (clone_any HCL6.out).mono ?_
            rintro e_ wc ⟨v6, rfl, hR6, hB6⟩
            refine ⟨_, rfl, hK.out _ _ ((hB6.cell (p := ⟨b1, 0, none⟩) hbd).trans hHeld) (fun hHeld2 => ?_)⟩
            clear hK K
            have hsz6 := hB6.size
            refine norm_ (by simp only [Act.put, sb0, sb1, sb2]; rfl) ?_
            refine one_ (i := 5) (N := some 78) #[true, true, true, true, true, true, false, false, false] rfl rfl (one_of HT_.out (by kernel_rfl)) (by decide) (fun K hK => ?_)
            refine value_ (w1 := ?_) (v := ?_) (by rfl) rfl ?_ ?_
            rotate_left 2
            ·go_simp
             constructor <;> rfl
            refine hK.out _ _ ((Below.cell (below_alloc (Below.refl _ _) _) (p := ⟨b1, 0, none⟩) (by simp only; omega)).trans hHeld2) (fun _ => ?_)
            clear hK K
            have hfin := hcont (v6, wc.heap.size) (wc.alloc (.cells #[.int .i64 (part : Int)] 97)) ⟨Kd.R_alloc (Kd.R_mono (Kd.R_bound hR6) (fun k hk => ⟨hk.2.1, by simp only; have := hk.2.2.1; omega⟩)) _, hsz6, by simp, by simpa using (Blk.new wc [.int .i64 (part : Int)] 97).cell 0, below_alloc hB6 _⟩
            refine norm_ ?_ hfin
            simp only [putAll, Act.put, sb0, sb1, sb2]
           ·refine value_ (w1 := ?_) (v := ?_) (by rfl) rfl ?_ ?_
            rotate_left 2
            ·go_simp
             constructor <;> rfl
            refine hK.out _ _ ((Below.cell (below_alloc (Below.refl _ _) _) (p := ⟨b1, 0, none⟩) hbd).trans hHeld) (fun hHeld2 => ?_)
            clear hK K
            have BL := Aside0.mk (Blk.new wd [.int .i64 (part : Int)] 97)
            have HCLa := Aside0.mk (HCL6.out.below (below_alloc (Below.refl _ _) (.cells #[.int .i64 (part : Int)] 97)))
            have hsa : (wd.alloc (.cells #[.int .i64 (part : Int)] 97)).heap.size = wd.heap.size + 1 := by simp
            refine norm_ (by simp only [Act.put, sb0, sb1, sb2]; rfl) ?_
            have hBa := below_alloc (Below.refl wd.heap.size wd) (.cells #[.int .i64 (part : Int)] 97)
            generalize wd.alloc (.cells #[.int .i64 (part : Int)] 97) = wa at BL HCLa hsa hBa hHeld2 ⊢
            refine one_ (i := 3) (N := some 76) #[true, true, true, true, true, true, false, false, false] rfl rfl (one_of HT_.out (by kernel_rfl)) (by decide) (fun K hK => ?_)
            refine goes_ Try.func80 (by kernel_rfl) rfl #[(.slice none 0 0)] (by rfl) rfl rfl (by (try simp only [List.map_toArray, List.map_cons, List.map_nil]); rfl) ?_
            refine (clone_any HCLa.out).mono ?_
            rintro e_ wc ⟨v6, rfl, hR6, hB6⟩
            refine ⟨_, rfl, hK.out _ _ ((hB6.cell (p := ⟨b1, 0, none⟩) (by simp only; omega)).trans hHeld2) (fun _ => ?_)⟩
            clear hK K
            have hsz6 := hB6.size
            have hfin := hcont (v6, wd.heap.size) wc ⟨Kd.R_mono (Kd.R_lower (Kd.R_bound hR6) (by omega)) (fun k hk => ⟨by have := hk.2.1; omega, by simp only; have := hk.2.1; omega⟩), Nat.le_refl _, by simp only; omega, by simpa using (BL.out.below hB6).cell 0, hBa.trans (hB6.mono (by omega))⟩
            refine norm_ ?_ hfin
            simp only [putAll, Act.put, sb0, sb1, sb2]
          case cont =>
           rintro ⟨v6, gl⟩ w6 ⟨hR6, hgl1, hgl2, hgl3, hB6⟩
           simp only at hR6 hgl1 hgl2 hgl3
           refine norm_ (by simp only [putAll, Act.put, sb0, sb1, sb2]; rfl) ?_
           refine one_ (i := 6) (N := some 79) #[true, true, true, true, true, true, true, false, false] rfl rfl (one_of HT_.out (by kernel_rfl)) (by decide) (fun K hK => ?_)
           refine Kd.R_append_rows_step (Kd.int .i64) (w0 := wd) wd.heap.size (by rfl) (.tmp 76) (.tmp 78) 100 97 (.int .i64 0) 8 rfl Try.underlying100 infoSet rfl (by decide) (by omega) v6 [] [(part : Int)] (some ⟨gl, 0, none⟩) 1 1 (fun k => wd.heap.size ≤ k ∧ k ≠ gl) (fun _ => False) rfl rfl hR6 (lit_row hgl3) (fun x cs h => h) (fun _ hk => hk.elim) (fun k hk => ⟨by have := hB6.size; omega, by omega⟩) hB6 hB6.size (by first | omega | (simp only [List.length_nil]; omega)) ?_
           intro v7 w7 hR7 hB7 hg7 hat7
           obtain ⟨ad7, c7, rfl⟩ := Kd.R_slice1 hR7 (by simp)
           have hlen : ([] ++ [(part : Int)]).length = 0 + 1 := by simp
           have HE7 := Aside0.mk (Ent.ofR (no := Wr mb gt) hR7 (by simp) (fun k hk hno => by rcases hno with e | e <;> omega))
           rw [hlen] at hR7 HE7 ⊢
           have K7 : Keep wd.heap.size (Wr mb gt) wd w7 := Keep.of_below hB7 (Nat.le_refl _)
           have HD7 := Aside0.mk (HD6.out.keep (Nat.le_refl _) K7 (HD6.out.atl.atl.keep hB7))
           have HT7 := Aside0.mk (HT6.out.keep (S := fun b => b = mb) (Keep.of_below hB7 (Nat.le_refl _)) (Nat.le_refl _) (fun _ h => h) hmt)
           have KW7 := Aside0.mk (KW6.out.trans (K7.mono KW6.out.size (fun _ _ h => h)))
           refine hK.out _ _ ((hB7.cell (p := ⟨b1, 0, none⟩) hbd).trans hHeld) (fun _ => ?_)
           clear hK K hR7 hB7 hg7 hat7 K7 hR6 hgl1 hgl2 hgl3 hB6
           refine norm_ (by simp only [Act.put, sb0, sb1, sb2]; rfl) ?_
           refine pure_ (i := 7) (N := some 80) (v := ?_) (a' := ?_) #[true, true, true, true, true, true, true, true, false] rfl rfl (any_of HT_.out (by kernel_rfl)) (fun _ _ _ h => h) (Or.inl ⟨by rfl, ?_⟩) ?_ ?_
           rotate_left
           ·intro w'
            go_simp
            with_reducible rfl
           rotate_left
           ·simp only [Act.put, sb0, sb1, sb2, i64_w, i32_w]
            rfl
           obtain ⟨vo, hvo, _⟩ := HT7.out.cell hs
           refine last_ (i := 8) (N := none) #[true, true, true, true, true, true, true, true, true] rfl rfl (one_of HT_.out (by kernel_rfl)) (by decide) (fun K hK => ?_)
           have hst_ := hvo
           have hfr_ := HT7.out.frozen s
           refine skip_ (w1 := ?_) (by rfl) rfl ?_ ?_
           rotate_left
           ·go_simp
            rfl
           refine hK.out _ _ ?_
           clear hK K hst_ hfr_ 
           have HDz := Aside0.mk (HD7.out.keep (Nat.le_refl _) ((Keep.refl w7.heap.size (Wr mb gt) w7).setCell (p := ⟨gt, s, none⟩) (.inl (.inr rfl)) (.slice (some ad7) (0 + 1) c7)) (HD7.out.atl.atl.other (p := ⟨gt, s, none⟩) HD7.out.nt.2 HD7.out.nt.1 (.slice (some ad7) (0 + 1) c7)))
           have HTz := Aside0.mk (HT7.out.set hs HE7.out)
           have KWz := Aside0.mk (KW7.out.setCell (p := ⟨gt, s, none⟩) (.inl (.inr rfl)) (.slice (some ad7) (0 + 1) c7))
           refine done_ (done_of HT_.out (by kernel_rfl)) ?_
           clear HD7 HT7 KW7 HE7 hvo
           generalize w7.setCell ⟨gt, s, none⟩ (.slice (some ad7) (0 + 1) c7) = wz at HDz HTz KWz ⊢
           go_wp2_with fail
           exact ⟨⟨nx, _, rfl, by omega, hnexta, HDz, HTz, ⟨fun t ht => by rw [upd_other _ _ _ _ (by omega)]; exact HE5.out t ht⟩, ⟨fun t ht => by rw [upd_other _ _ _ _ (by omega)]; exact HE52.out t ht⟩, KWz, ⟨by rw [upd_same]; exact HST.out.symm⟩⟩, by simp [intOf]; omega⟩
         ·have hlnb : decide ((0 : Int) + 1 < (n : Int)) = false := by simp; omega
          have hlnb2 : decide ((1 : Int) < (n : Int)) = false := by simp; omega
          have hlnb3 : decide (1 < n) = false := by simp; omega
          rw [if_neg hln, ← hEs, ← hE5s] at HST
          clear hln
          go_wp2_with fail
          exact ⟨⟨nx, E5, rfl, by omega, hnexta, HD5, HT5, HE5, HE52, KW5, ⟨HST.out.symm⟩⟩, by simp [intOf]; omega⟩
       ·have hseb : ((s : Int) == (part : Int)) = false := by
         simp only [beq_eq_false_iff_ne, ne_eq]
         omega
        have hsne : ((s : Int) != (part : Int)) = true := by simp only [bne, hseb, Bool.not_false]
        cases og with
        | none =>
         obtain rfl : v5 = .slice none 0 0 := hEv5
         rw [if_pos ⟨hse, rfl⟩] at HST
         rw [← hE5s] at HST
         clear hse
         go_wp2_with fail
         exact ⟨⟨nx, E5, rfl, by omega, hnexta, HD5, HT5, HE5, HE52, KW5, ⟨HST.out.symm⟩⟩, by simp [intOf]; omega⟩
        | some k5 =>
         obtain ⟨ad5, c5, xs5, rfl, hx5, hC5, hno5, hlt5⟩ := hEv5
         have HC5 := Aside0.mk hC5
         have HNO5 := Aside0.mk hno5
         rw [if_neg (fun h => by cases h.2)] at HST
         simp only [Option.getD_some] at HST
         have hk5 := hsl k5 rfl
         clear hC5 hno5 hse
         cases hEs : E' s with
         | none =>
          rw [hEs] at hEb HST
          obtain rfl : vb = .slice none 0 0 := hEb
          have HCL := Aside0.mk (show CL w5 (.slice (some ad5) k5 c5) xs5 from .inr ⟨ad5, k5, c5, rfl, hx5, HC5.out, by omega⟩)
          go_wp2_with fail
          refine start_ (n := 9) (S := fun w' => w'.cell? ⟨b1, 0, none⟩ = some (.slice (some ⟨gt, 0, none⟩) (2 ^ Wk.length) (2 ^ Wk.length))) (ds := [8]) #[false, false, false, false, false, false, false, false, false] (by kernel_rfl) rfl rfl hc1 (fun hHeld => ?_); refine with_tabW dv.tab11 dv.bits11 (fun HT_ HW_ => ?_)
          have HD6 := Aside0.mk HD5.out.drew
          have HT6 := Aside0.mk (HT5.out.drew HD5.out.nt.1)
          have KW6 := Aside0.mk KW5.out.drew
          have HCL6 := Aside0.mk (show CL w5.drew (.slice (some ad5) k5 c5) xs5 from HCL.out)
          clear HD5 HT5 KW5 HCL hc1 hc2 hc3 hc4 hgt5 hvb
          generalize w5.drew = wd at HD6 HT6 KW6 HCL6 hHeld ⊢
          have hmt := HD6.out.nt.1
          have hmd := HD6.out.atl.atl.memo.lt
          have hgd := HT6.out.lt
          have hbd := HD6.out.c1.lt
          refine take_ (i := 0) (N := some 73) (v := ?_) (a' := ?_) #[true, false, false, false, false, false, false, false, false] rfl rfl (take_ofW HT_.out HW_.out (by kernel_rfl)) (fun _ _ _ h => h) (Or.inl ⟨by rfl, ?_⟩) hHeld ?_ ?_
          rotate_left
          ·rintro w' s0
           go_simp
           with_reducible rfl
          rotate_left
          ·simp only [Act.put, sb0, sb1, sb2, i64_w, i32_w]
           rfl
          refine pure_ (i := 1) (N := some 74) (v := ?_) (a' := ?_) #[true, true, false, false, false, false, false, false, false] rfl rfl (any_of HT_.out (by kernel_rfl)) (fun _ _ _ h => h) (Or.inl ⟨by rfl, ?_⟩) ?_ ?_
          rotate_left
          ·intro w'
           go_simp
           with_reducible rfl
          rotate_left
          ·simp only [Act.put, sb0, sb1, sb2, i64_w, i32_w]
           rfl
          refine pure_ (i := 2) (N := some 75) (v := ?_) (a' := ?_) #[true, true, true, false, false, false, false, false, false] rfl rfl (any_of HT_.out (by kernel_rfl)) (fun _ _ _ h => h) (Or.inl ⟨by rfl, ?_⟩) ?_ ?_
          rotate_left
          ·intro w'
           go_simp
           with_reducible rfl
          rotate_left
          ·simp only [Act.put, sb0, sb1, sb2, i64_w, i32_w]
           rfl
          refine pure_ (i := 4) (N := some 77) (v := ?_) (a' := ?_) #[true, true, true, false, true, false, false, false, false] rfl rfl (any_of HT_.out (by kernel_rfl)) (fun _ _ _ h => h) (Or.inl ⟨by rfl, ?_⟩) ?_ ?_
          rotate_left
          ·intro w'
           go_simp
           with_reducible rfl
          rotate_left
          ·simp only [Act.put, sb0, sb1, sb2, i64_w, i32_w]
           rfl
          refine join_ (σ := Value × Nat) 3 #[true, true, true, true, true, true, false, false, false] (fun x => [(76, x.1), (78, .slice (some ⟨x.2, 0, none⟩) 1 1)]) (fun x w' => (Kd.int .i64).R 97 w' wd.heap.size (fun k => wd.heap.size ≤ k ∧ k ≠ x.2) x.1 xs5 ∧ wd.heap.size ≤ x.2 ∧ x.2 < w'.heap.size ∧ w'.cell? ⟨x.2, 0, none⟩ = some (.int .i64 (part : Int)) ∧ Below wd.heap.size wd w') ?cont ?orders
          case orders =>
           intro hcont
           refine two_ (i := 3) (j := 5) (Ni := some 76) (Nj := some 78) #[true, true, true, true, true, false, false, false, false] #[true, true, true, false, true, true, false, false, false] rfl rfl rfl rfl (two_of HT_.out (by kernel_rfl)) (by decide) (by decide) (fun K hK => ?_) (fun K hK => ?_)
           ·refine goes_ Try.func80 (by kernel_rfl) rfl #[(.slice (some ad5) k5 c5)] (by rfl) rfl rfl (by (try simp only [List.map_toArray, List.map_cons, List.map_nil]); rfl) ?_
            refine (clone_any HCL6.out).mono ?_
            rintro e_ wc ⟨v6, rfl, hR6, hB6⟩
            refine ⟨_, rfl, hK.out _ _ ((hB6.cell (p := ⟨b1, 0, none⟩) hbd).trans hHeld) (fun hHeld2 => ?_)⟩
            clear hK K
            have hsz6 := hB6.size
            refine norm_ (by simp only [Act.put, sb0, sb1, sb2]; rfl) ?_
            refine one_ (i := 5) (N := some 78) #[true, true, true, true, true, true, false, false, false] rfl rfl (one_of HT_.out (by kernel_rfl)) (by decide) (fun K hK => ?_)
            refine value_ (w1 := ?_) (v := ?_) (by rfl) rfl ?_ ?_
            rotate_left 2
            ·go_simp
             constructor <;> rfl
            refine hK.out _ _ ((Below.cell (below_alloc (Below.refl _ _) _) (p := ⟨b1, 0, none⟩) (by simp only; omega)).trans hHeld2) (fun _ => ?_)
            clear hK K
            have hfin := hcont (v6, wc.heap.size) (wc.alloc (.cells #[.int .i64 (part : Int)] 97)) ⟨Kd.R_alloc (Kd.R_mono (Kd.R_bound hR6) (fun k hk => ⟨hk.2.1, by simp only; have := hk.2.2.1; omega⟩)) _, hsz6, by simp, by simpa using (Blk.new wc [.int .i64 (part : Int)] 97).cell 0, below_alloc hB6 _⟩
            refine norm_ ?_ hfin
            simp only [putAll, Act.put, sb0, sb1, sb2]
           ·refine value_ (w1 := ?_) (v := ?_) (by rfl) rfl ?_ ?_
            rotate_left 2
            ·go_simp
             constructor <;> rfl
            refine hK.out _ _ ((Below.cell (below_alloc (Below.refl _ _) _) (p := ⟨b1, 0, none⟩) hbd).trans hHeld) (fun hHeld2 => ?_)
            clear hK K
            have BL := Aside0.mk (Blk.new wd [.int .i64 (part : Int)] 97)
            have HCLa := Aside0.mk (HCL6.out.below (below_alloc (Below.refl _ _) (.cells #[.int .i64 (part : Int)] 97)))
            have hsa : (wd.alloc (.cells #[.int .i64 (part : Int)] 97)).heap.size = wd.heap.size + 1 := by simp
            refine norm_ (by simp only [Act.put, sb0, sb1, sb2]; rfl) ?_
            have hBa := below_alloc (Below.refl wd.heap.size wd) (.cells #[.int .i64 (part : Int)] 97)
            generalize wd.alloc (.cells #[.int .i64 (part : Int)] 97) = wa at BL HCLa hsa hBa hHeld2 ⊢
            refine one_ (i := 3) (N := some 76) #[true, true, true, true, true, true, false, false, false] rfl rfl (one_of HT_.out (by kernel_rfl)) (by decide) (fun K hK => ?_)
            refine goes_ Try.func80 (by kernel_rfl) rfl #[(.slice (some ad5) k5 c5)] (by rfl) rfl rfl (by (try simp only [List.map_toArray, List.map_cons, List.map_nil]); rfl) ?_
            refine (clone_any HCLa.out).mono ?_
            rintro e_ wc ⟨v6, rfl, hR6, hB6⟩
            refine ⟨_, rfl, hK.out _ _ ((hB6.cell (p := ⟨b1, 0, none⟩) (by simp only; omega)).trans hHeld2) (fun _ => ?_)⟩
            clear hK K
            have hsz6 := hB6.size
            have hfin := hcont (v6, wd.heap.size) wc ⟨Kd.R_mono (Kd.R_lower (Kd.R_bound hR6) (by omega)) (fun k hk => ⟨by have := hk.2.1; omega, by simp only; have := hk.2.1; omega⟩), Nat.le_refl _, by simp only; omega, by simpa using (BL.out.below hB6).cell 0, hBa.trans (hB6.mono (by omega))⟩
            refine norm_ ?_ hfin
            simp only [putAll, Act.put, sb0, sb1, sb2]
          case cont =>
           rintro ⟨v6, gl⟩ w6 ⟨hR6, hgl1, hgl2, hgl3, hB6⟩
           simp only at hR6 hgl1 hgl2 hgl3
           refine norm_ (by simp only [putAll, Act.put, sb0, sb1, sb2]; rfl) ?_
           refine one_ (i := 6) (N := some 79) #[true, true, true, true, true, true, true, false, false] rfl rfl (one_of HT_.out (by kernel_rfl)) (by decide) (fun K hK => ?_)
           refine Kd.R_append_rows_step (Kd.int .i64) (w0 := wd) wd.heap.size (by rfl) (.tmp 76) (.tmp 78) 100 97 (.int .i64 0) 8 rfl Try.underlying100 infoSet rfl (by decide) (by omega) v6 xs5 [(part : Int)] (some ⟨gl, 0, none⟩) 1 1 (fun k => wd.heap.size ≤ k ∧ k ≠ gl) (fun _ => False) rfl rfl hR6 (lit_row hgl3) (fun x cs h => h) (fun _ hk => hk.elim) (fun k hk => ⟨by have := hB6.size; omega, by omega⟩) hB6 hB6.size (by first | omega | (simp only [List.length_nil]; omega)) ?_
           intro v7 w7 hR7 hB7 hg7 hat7
           obtain ⟨ad7, c7, rfl⟩ := Kd.R_slice1 hR7 (by simp)
           have hlen : (xs5 ++ [(part : Int)]).length = k5 + 1 := by simp [hx5]
           have HE7 := Aside0.mk (Ent.ofR (no := Wr mb gt) hR7 (by simp) (fun k hk hno => by rcases hno with e | e <;> omega))
           rw [hlen] at hR7 HE7 ⊢
           have K7 : Keep wd.heap.size (Wr mb gt) wd w7 := Keep.of_below hB7 (Nat.le_refl _)
           have HD7 := Aside0.mk (HD6.out.keep (Nat.le_refl _) K7 (HD6.out.atl.atl.keep hB7))
           have HT7 := Aside0.mk (HT6.out.keep (S := fun b => b = mb) (Keep.of_below hB7 (Nat.le_refl _)) (Nat.le_refl _) (fun _ h => h) hmt)
           have KW7 := Aside0.mk (KW6.out.trans (K7.mono KW6.out.size (fun _ _ h => h)))
           refine hK.out _ _ ((hB7.cell (p := ⟨b1, 0, none⟩) hbd).trans hHeld) (fun _ => ?_)
           clear hK K hR7 hB7 hg7 hat7 K7 hR6 hgl1 hgl2 hgl3 hB6
           refine norm_ (by simp only [Act.put, sb0, sb1, sb2]; rfl) ?_
           refine pure_ (i := 7) (N := some 80) (v := ?_) (a' := ?_) #[true, true, true, true, true, true, true, true, false] rfl rfl (any_of HT_.out (by kernel_rfl)) (fun _ _ _ h => h) (Or.inl ⟨by rfl, ?_⟩) ?_ ?_
           rotate_left
           ·intro w'
            go_simp
            with_reducible rfl
           rotate_left
           ·simp only [Act.put, sb0, sb1, sb2, i64_w, i32_w]
            rfl
           obtain ⟨vo, hvo, _⟩ := HT7.out.cell hs
           refine last_ (i := 8) (N := none) #[true, true, true, true, true, true, true, true, true] rfl rfl (one_of HT_.out (by kernel_rfl)) (by decide) (fun K hK => ?_)
           have hst_ := hvo
           have hfr_ := HT7.out.frozen s
           refine skip_ (w1 := ?_) (by rfl) rfl ?_ ?_
           rotate_left
           ·go_simp
            rfl
           refine hK.out _ _ ?_
           clear hK K hst_ hfr_ 
           have HDz := Aside0.mk (HD7.out.keep (Nat.le_refl _) ((Keep.refl w7.heap.size (Wr mb gt) w7).setCell (p := ⟨gt, s, none⟩) (.inl (.inr rfl)) (.slice (some ad7) (k5 + 1) c7)) (HD7.out.atl.atl.other (p := ⟨gt, s, none⟩) HD7.out.nt.2 HD7.out.nt.1 (.slice (some ad7) (k5 + 1) c7)))
           have HTz := Aside0.mk (HT7.out.set hs HE7.out)
           have KWz := Aside0.mk (KW7.out.setCell (p := ⟨gt, s, none⟩) (.inl (.inr rfl)) (.slice (some ad7) (k5 + 1) c7))
           refine done_ (done_of HT_.out (by kernel_rfl)) ?_
           clear HD7 HT7 KW7 HE7 hvo
           generalize w7.setCell ⟨gt, s, none⟩ (.slice (some ad7) (k5 + 1) c7) = wz at HDz HTz KWz ⊢
           go_wp2_with fail
           exact ⟨⟨nx, _, rfl, by omega, hnexta, HDz, HTz, ⟨fun t ht => by rw [upd_other _ _ _ _ (by omega)]; exact HE5.out t ht⟩, ⟨fun t ht => by rw [upd_other _ _ _ _ (by omega)]; exact HE52.out t ht⟩, KWz, ⟨by rw [upd_same]; exact HST.out.symm⟩⟩, by simp [intOf]; omega⟩
         | some n =>
          rw [hEs] at hEb HST
          obtain ⟨adb, cb, xsb, rfl, hxb, hCb, hnob, hltb⟩ := hEb
          clear hCb hnob
          simp only at HST
          by_cases hln : k5 + 1 < n
          ·have hlnb : decide ((k5 : Int) + 1 < (n : Int)) = true := by simp; omega
           rw [if_pos hln] at HST
           have HCL := Aside0.mk (show CL w5 (.slice (some ad5) k5 c5) xs5 from .inr ⟨ad5, k5, c5, rfl, hx5, HC5.out, by omega⟩)
           go_wp2_with fail
           refine start_ (n := 9) (S := fun w' => w'.cell? ⟨b1, 0, none⟩ = some (.slice (some ⟨gt, 0, none⟩) (2 ^ Wk.length) (2 ^ Wk.length))) (ds := [8]) #[false, false, false, false, false, false, false, false, false] (by kernel_rfl) rfl rfl hc1 (fun hHeld => ?_); refine with_tabW dv.tab11 dv.bits11 (fun HT_ HW_ => ?_)
           have HD6 := Aside0.mk HD5.out.drew
           have HT6 := Aside0.mk (HT5.out.drew HD5.out.nt.1)
           have KW6 := Aside0.mk KW5.out.drew
           have HCL6 := Aside0.mk (show CL w5.drew (.slice (some ad5) k5 c5) xs5 from HCL.out)
           clear HD5 HT5 KW5 HCL hc1 hc2 hc3 hc4 hgt5 hvb
           generalize w5.drew = wd at HD6 HT6 KW6 HCL6 hHeld ⊢
           have hmt := HD6.out.nt.1
           have hmd := HD6.out.atl.atl.memo.lt
           have hgd := HT6.out.lt
           have hbd := HD6.out.c1.lt
           refine take_ (i := 0) (N := some 73) (v := ?_) (a' := ?_) #[true, false, false, false, false, false, false, false, false] rfl rfl (take_ofW HT_.out HW_.out (by kernel_rfl)) (fun _ _ _ h => h) (Or.inl ⟨by rfl, ?_⟩) hHeld ?_ ?_
           rotate_left
           ·rintro w' s0
            go_simp
            with_reducible rfl
           rotate_left
           ·simp only [Act.put, sb0, sb1, sb2, i64_w, i32_w]
            rfl
           refine pure_ (i := 1) (N := some 74) (v := ?_) (a' := ?_) #[true, true, false, false, false, false, false, false, false] rfl rfl (any_of HT_.out (by kernel_rfl)) (fun _ _ _ h => h) (Or.inl ⟨by rfl, ?_⟩) ?_ ?_
           rotate_left
           ·intro w'
            go_simp
            with_reducible rfl
           rotate_left
           ·simp only [Act.put, sb0, sb1, sb2, i64_w, i32_w]
            rfl
           refine pure_ (i := 2) (N := some 75) (v := ?_) (a' := ?_) #[true, true, true, false, false, false, false, false, false] rfl rfl (any_of HT_.out (by kernel_rfl)) (fun _ _ _ h => h) (Or.inl ⟨by rfl, ?_⟩) ?_ ?_
           rotate_left
           ·intro w'
            go_simp
            with_reducible rfl
           rotate_left
           ·simp only [Act.put, sb0, sb1, sb2, i64_w, i32_w]
            rfl
           refine pure_ (i := 4) (N := some 77) (v := ?_) (a' := ?_) #[true, true, true, false, true, false, false, false, false] rfl rfl (any_of HT_.out (by kernel_rfl)) (fun _ _ _ h => h) (Or.inl ⟨by rfl, ?_⟩) ?_ ?_
           rotate_left
           ·intro w'
            go_simp
            with_reducible rfl
           rotate_left
           ·simp only [Act.put, sb0, sb1, sb2, i64_w, i32_w]
            rfl
           refine join_ (σ := Value × Nat) 3 #[true, true, true, true, true, true, false, false, false] (fun x => [(76, x.1), (78, .slice (some ⟨x.2, 0, none⟩) 1 1)]) (fun x w' => (Kd.int .i64).R 97 w' wd.heap.size (fun k => wd.heap.size ≤ k ∧ k ≠ x.2) x.1 xs5 ∧ wd.heap.size ≤ x.2 ∧ x.2 < w'.heap.size ∧ w'.cell? ⟨x.2, 0, none⟩ = some (.int .i64 (part : Int)) ∧ Below wd.heap.size wd w') ?cont ?orders
           case orders =>
            intro hcont
            refine two_ (i := 3) (j := 5) (Ni := some 76) (Nj := some 78) #[true, true, true, true, true, false, false, false, false] #[true, true, true, false, true, true, false, false, false] rfl rfl rfl rfl (two_of HT_.out (by kernel_rfl)) (by decide) (by decide) (fun K hK => ?_) (fun K hK => ?_)
            ·refine goes_ Try.func80 (by kernel_rfl) rfl #[(.slice (some ad5) k5 c5)] (by rfl) rfl rfl (by (try simp only [List.map_toArray, List.map_cons, List.map_nil]); rfl) ?_
             refine (clone_any HCL6.out).mono ?_
             rintro e_ wc ⟨v6, rfl, hR6, hB6⟩
             refine ⟨_, rfl, hK.out _ _ ((hB6.cell (p := ⟨b1, 0, none⟩) hbd).trans hHeld) (fun hHeld2 => ?_)⟩
             clear hK K
             have hsz6 := hB6.size
             refine norm_ (by simp only [Act.put, sb0, sb1, sb2]; rfl) ?_
             refine one_ (i := 5) (N := some 78) #[true, true, true, true, true, true, false, false, false] rfl rfl (one_of HT_.out (by kernel_rfl)) (by decide) (fun K hK => ?_)
             refine value_ (w1 := ?_) (v := ?_) (by rfl) rfl ?_ ?_
             rotate_left 2
             ·go_simp
              constructor <;> rfl
             refine hK.out _ _ ((Below.cell (below_alloc (Below.refl _ _) _) (p := ⟨b1, 0, none⟩) (by simp only; omega)).trans hHeld2) (fun _ => ?_)
             clear hK K
             have hfin := hcont (v6, wc.heap.size) (wc.alloc (.cells #[.int .i64 (part : Int)] 97)) ⟨Kd.R_alloc (Kd.R_mono (Kd.R_bound hR6) (fun k hk => ⟨hk.2.1, by simp only; have := hk.2.2.1; omega⟩)) _, hsz6, by simp, by simpa using (Blk.new wc [.int .i64 (part : Int)] 97).cell 0, below_alloc hB6 _⟩
             refine norm_ ?_ hfin
             simp only [putAll, Act.put, sb0, sb1, sb2]
            ·refine value_ (w1 := ?_) (v := ?_) (by rfl) rfl ?_ ?_
             rotate_left 2
             ·go_simp
              constructor <;> rfl
             refine hK.out _ _ ((Below.cell (below_alloc (Below.refl _ _) _) (p := ⟨b1, 0, none⟩) hbd).trans hHeld) (fun hHeld2 => ?_)
             clear hK K
             have BL := Aside0.mk (Blk.new wd [.int .i64 (part : Int)] 97)
             have HCLa := Aside0.mk (HCL6.out.below (below_alloc (Below.refl _ _) (.cells #[.int .i64 (part : Int)] 97)))
             have hsa : (wd.alloc (.cells #[.int .i64 (part : Int)] 97)).heap.size = wd.heap.size + 1 := by simp
             refine norm_ (by simp only [Act.put, sb0, sb1, sb2]; rfl) ?_
             have hBa := below_alloc (Below.refl wd.heap.size wd) (.cells #[.int .i64 (part : Int)] 97)
             generalize wd.alloc (.cells #[.int .i64 (part : Int)] 97) = wa at BL HCLa hsa hBa hHeld2 ⊢
             refine one_ (i := 3) (N := some 76) #[true, true, true, true, true, true, false, false, false] rfl rfl (one_of HT_.out (by kernel_rfl)) (by decide) (fun K hK => ?_)
             refine goes_ Try.func80 (by kernel_rfl) rfl #[(.slice (some ad5) k5 c5)] (by rfl) rfl rfl (by (try simp only [List.map_toArray, List.map_cons, List.map_nil]); rfl) ?_
             refine (clone_any HCLa.out).mono ?_
             rintro e_ wc ⟨v6, rfl, hR6, hB6⟩
             refine ⟨_, rfl, hK.out _ _ ((hB6.cell (p := ⟨b1, 0, none⟩) (by simp only; omega)).trans hHeld2) (fun _ => ?_)⟩
             clear hK K
             have hsz6 := hB6.size
             have hfin := hcont (v6, wd.heap.size) wc ⟨Kd.R_mono (Kd.R_lower (Kd.R_bound hR6) (by omega)) (fun k hk => ⟨by have := hk.2.1; omega, by simp only; have := hk.2.1; omega⟩), Nat.le_refl _, by simp only; omega, by simpa using (BL.out.below hB6).cell 0, hBa.trans (hB6.mono (by omega))⟩
             refine norm_ ?_ hfin
             simp only [putAll, Act.put, sb0, sb1, sb2]
           case cont =>
            rintro ⟨v6, gl⟩ w6 ⟨hR6, hgl1, hgl2, hgl3, hB6⟩
            simp only at hR6 hgl1 hgl2 hgl3
            refine norm_ (by simp only [putAll, Act.put, sb0, sb1, sb2]; rfl) ?_
            refine one_ (i := 6) (N := some 79) #[true, true, true, true, true, true, true, false, false] rfl rfl (one_of HT_.out (by kernel_rfl)) (by decide) (fun K hK => ?_)
            refine Kd.R_append_rows_step (Kd.int .i64) (w0 := wd) wd.heap.size (by rfl) (.tmp 76) (.tmp 78) 100 97 (.int .i64 0) 8 rfl Try.underlying100 infoSet rfl (by decide) (by omega) v6 xs5 [(part : Int)] (some ⟨gl, 0, none⟩) 1 1 (fun k => wd.heap.size ≤ k ∧ k ≠ gl) (fun _ => False) rfl rfl hR6 (lit_row hgl3) (fun x cs h => h) (fun _ hk => hk.elim) (fun k hk => ⟨by have := hB6.size; omega, by omega⟩) hB6 hB6.size (by first | omega | (simp only [List.length_nil]; omega)) ?_
            intro v7 w7 hR7 hB7 hg7 hat7
            obtain ⟨ad7, c7, rfl⟩ := Kd.R_slice1 hR7 (by simp)
            have hlen : (xs5 ++ [(part : Int)]).length = k5 + 1 := by simp [hx5]
            have HE7 := Aside0.mk (Ent.ofR (no := Wr mb gt) hR7 (by simp) (fun k hk hno => by rcases hno with e | e <;> omega))
            rw [hlen] at hR7 HE7 ⊢
            have K7 : Keep wd.heap.size (Wr mb gt) wd w7 := Keep.of_below hB7 (Nat.le_refl _)
            have HD7 := Aside0.mk (HD6.out.keep (Nat.le_refl _) K7 (HD6.out.atl.atl.keep hB7))
            have HT7 := Aside0.mk (HT6.out.keep (S := fun b => b = mb) (Keep.of_below hB7 (Nat.le_refl _)) (Nat.le_refl _) (fun _ h => h) hmt)
            have KW7 := Aside0.mk (KW6.out.trans (K7.mono KW6.out.size (fun _ _ h => h)))
            refine hK.out _ _ ((hB7.cell (p := ⟨b1, 0, none⟩) hbd).trans hHeld) (fun _ => ?_)
            clear hK K hR7 hB7 hg7 hat7 K7 hR6 hgl1 hgl2 hgl3 hB6
            refine norm_ (by simp only [Act.put, sb0, sb1, sb2]; rfl) ?_
            refine pure_ (i := 7) (N := some 80) (v := ?_) (a' := ?_) #[true, true, true, true, true, true, true, true, false] rfl rfl (any_of HT_.out (by kernel_rfl)) (fun _ _ _ h => h) (Or.inl ⟨by rfl, ?_⟩) ?_ ?_
            rotate_left
            ·intro w'
             go_simp
             with_reducible rfl
            rotate_left
            ·simp only [Act.put, sb0, sb1, sb2, i64_w, i32_w]
             rfl
            obtain ⟨vo, hvo, _⟩ := HT7.out.cell hs
            refine last_ (i := 8) (N := none) #[true, true, true, true, true, true, true, true, true] rfl rfl (one_of HT_.out (by kernel_rfl)) (by decide) (fun K hK => ?_)
            have hst_ := hvo
            have hfr_ := HT7.out.frozen s
            refine skip_ (w1 := ?_) (by rfl) rfl ?_ ?_
            rotate_left
            ·go_simp
             rfl
            refine hK.out _ _ ?_
            clear hK K hst_ hfr_ 
            have HDz := Aside0.mk (HD7.out.keep (Nat.le_refl _) ((Keep.refl w7.heap.size (Wr mb gt) w7).setCell (p := ⟨gt, s, none⟩) (.inl (.inr rfl)) (.slice (some ad7) (k5 + 1) c7)) (HD7.out.atl.atl.other (p := ⟨gt, s, none⟩) HD7.out.nt.2 HD7.out.nt.1 (.slice (some ad7) (k5 + 1) c7)))
            have HTz := Aside0.mk (HT7.out.set hs HE7.out)
            have KWz := Aside0.mk (KW7.out.setCell (p := ⟨gt, s, none⟩) (.inl (.inr rfl)) (.slice (some ad7) (k5 + 1) c7))
            refine done_ (done_of HT_.out (by kernel_rfl)) ?_
            clear HD7 HT7 KW7 HE7 hvo
            generalize w7.setCell ⟨gt, s, none⟩ (.slice (some ad7) (k5 + 1) c7) = wz at HDz HTz KWz ⊢
            go_wp2_with fail
            exact ⟨⟨nx, _, rfl, by omega, hnexta, HDz, HTz, ⟨fun t ht => by rw [upd_other _ _ _ _ (by omega)]; exact HE5.out t ht⟩, ⟨fun t ht => by rw [upd_other _ _ _ _ (by omega)]; exact HE52.out t ht⟩, KWz, ⟨by rw [upd_same]; exact HST.out.symm⟩⟩, by simp [intOf]; omega⟩
          ·have hlnb : decide ((k5 : Int) + 1 < (n : Int)) = false := by simp; omega
           rw [if_neg hln, ← hEs, ← hE5s] at HST
           clear hln
           go_wp2_with fail
           exact ⟨⟨nx, E5, rfl, by omega, hnexta, HD5, HT5, HE5, HE52, KW5, ⟨HST.out.symm⟩⟩, by simp [intOf]; omega⟩
end Go.Proofs.Ytiddkceahbnolaa
