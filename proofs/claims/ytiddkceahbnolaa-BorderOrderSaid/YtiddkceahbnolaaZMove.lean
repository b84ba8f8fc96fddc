/- border's search for the best borders: the closure that goes on from a street. -/
import Derived.Test.YtiddkceahbnolaaZRight
namespace Go.Proofs.Ytiddkceahbnolaa
open Go.RowKit Go.Shelf Go.Proofs.Ytiddkceahbnolaa.PBorderOrder Go.Proofs.YtiddkceahbnolaaW.PrintWords Go.Proofs.YtiddkceahbnolaaW.PrintLast
set_option linter.all false
def askedE (old : List Int) (nw : Int) (ss : List S115) (js : List S119) (lo hi : Int) : Int :=
 if chkB old nw ss js = 0 then (if insideB lo hi 40000 = true then consE old nw ss js else 2) else chkB old nw ss js
set_option maxRecDepth 100000 in
set_option maxHeartbeats 40000000 in
theorem asked_calls {A0 : Option Addr} {c0 : Nat} {old : List Int} {nw : Int} {A2 : Option Addr} {c2 : Nat} {ss : List S115} {A3 : Option Addr} {c3 : Nat} {js : List S119} {w : World} (h : IsB w A0 c0 old A2 c2 ss A3 c3 js) (lo hi : Int) :
  Calls Try.prog 59 #[.agg #[.slice A0 old.length c0, .int .i64 nw, .slice A2 ss.length c2, .slice A3 js.length c3], .agg #[.int .i64 lo, .int .i64 hi]] w fun e w' => ∃ v, e = .returned (.tuple #[v, .int .i64 (askedE old nw ss js lo hi)]) ∧ (askedE old nw ss js lo hi = 0 → ∃ gw mb, v = .pointer (some ⟨gw, 0, none⟩) ∧ w.heap.size ≤ gw ∧ w.heap.size ≤ mb ∧ IsW w' gw mb A0 c0 old nw A2 c2 ss A3 c3 js) ∧ (askedE old nw ss js lo hi ≠ 0 → v = .pointer none) ∧ Below w.heap.size w w' := by
 have H := Aside0.mk h
 clear h
 go_enter Try.func59, Try.ntmps59
 go_wp2_with fail
 have HB0 := Aside0.mk (below_alloc (below_alloc (Below.refl w.heap.size w) (.cells #[.slice A0 old.length c0, .int .i64 nw, .slice A2 ss.length c2, .slice A3 js.length c3] 69)) (.cells #[.int .i64 lo, .int .i64 hi] 71))
 have B20 := Aside0.mk (show Blk ((w.alloc (.cells #[.slice A0 old.length c0, .int .i64 nw, .slice A2 ss.length c2, .slice A3 js.length c3] 69)).alloc (.cells #[.int .i64 lo, .int .i64 hi] 71)) w.heap.size [.slice A0 old.length c0, .int .i64 nw, .slice A2 ss.length c2, .slice A3 js.length c3] 69 from (Blk.new w [.slice A0 old.length c0, .int .i64 nw, .slice A2 ss.length c2, .slice A3 js.length c3] 69).alloc (.cells #[.int .i64 lo, .int .i64 hi] 71))
 have B30 := Aside0.mk (show Blk ((w.alloc (.cells #[.slice A0 old.length c0, .int .i64 nw, .slice A2 ss.length c2, .slice A3 js.length c3] 69)).alloc (.cells #[.int .i64 lo, .int .i64 hi] 71)) (w.heap.size + 1) [.int .i64 lo, .int .i64 hi] 71 by have hB := Blk.new (w.alloc (.cells #[.slice A0 old.length c0, .int .i64 nw, .slice A2 ss.length c2, .slice A3 js.length c3] 69)) [.int .i64 lo, .int .i64 hi] 71; simp only [World.size_alloc] at hB; exact hB)
 generalize (w.alloc (.cells #[.slice A0 old.length c0, .int .i64 nw, .slice A2 ss.length c2, .slice A3 js.length c3] 69)).alloc (.cells #[.int .i64 lo, .int .i64 hi] 71) = w0 at HB0 B20 B30 ⊢
 refine (CheckMap_calls (H.out.below HB0.out)).mono ?_
 rintro e w1 ⟨rfl, hb1⟩
 have B21 := Aside0.mk (B20.out.below hb1)
 have B31 := Aside0.mk (B30.out.below hb1)
 have HB1 := Aside0.mk (HB0.out.trans (hb1.mono HB0.out.size))
 clear hb1 HB0 B20 B30
 by_cases hc : chkB old nw ss js = 0
 rotate_left
 ·have hcb : (chkB old nw ss js != 0) = true := by simp [hc]
  have HA := Aside0.mk (show askedE old nw ss js lo hi = chkB old nw ss js by unfold askedE; rw [if_neg hc])
  go_wp2_with fail
  go_ret2
  rw [HA.out]
  exact ⟨_, rfl, fun e => absurd e hc, fun _ => rfl, HB1.out⟩
 obtain ⟨ho0, ho4, hs0, hs8, hj, hol, hn1, hn4, hst, hwe, hjo⟩ := chkB_ok hc
 have HA := Aside0.mk (show askedE old nw ss js lo hi = if insideB lo hi 40000 = true then consE old nw ss js else 2 by unfold askedE; rw [if_pos hc])
 have HJO := Aside0.mk hjo
 rw [hc]
 clear hc hol hst hwe hjo
 have h30 := B31.out.cell 0
 have h31 := B31.out.cell 1
 simp only [sb3, sb4] at h30 h31
 go_wp2_with fail
 clear h30 h31
 refine (inside_calls lo hi 40000 w1).mono ?_
 rintro e w2 ⟨rfl, hb2⟩
 have B22 := Aside0.mk (B21.out.below hb2)
 have HB2 := Aside0.mk (HB1.out.trans (hb2.mono HB1.out.size))
 clear hb2 HB1 B21 B31
 cases hin : insideB lo hi 40000
 ·rw [hin, if_neg (by simp)] at HA
  go_wp2_with fail
  go_ret2
  rw [HA.out]
  exact ⟨_, rfl, fun e => absurd e (by decide), fun _ => rfl, HB2.out⟩
 rw [hin, if_pos rfl] at HA
 have h20 := B22.out.cell 0
 have h21 := B22.out.cell 1
 have h22 := B22.out.cell 2
 have h23 := B22.out.cell 3
 simp only [sb3, sb4] at h20 h21 h22 h23
 go_wp2_with fail
 clear h20 h21 h22 h23
 refine (consistent_calls (H.out.below HB2.out)).mono ?_
 rintro e w3 ⟨rfl, hb3⟩
 have B23 := Aside0.mk (B22.out.below hb3)
 have HB3 := Aside0.mk (HB2.out.trans (hb3.mono HB2.out.size))
 clear hb3 HB2 B22
 by_cases hc : consE old nw ss js = 0
 rotate_left
 ·have hcb : (consE old nw ss js != 0) = true := by simp [hc]
  go_wp2_with fail
  go_ret2
  rw [HA.out]
  exact ⟨_, rfl, fun e => absurd e hc, fun _ => rfl, HB3.out⟩
 rw [hc] at HA ⊢
 clear hc
 have h20 := B23.out.cell 0
 have h21 := B23.out.cell 1
 have h22 := B23.out.cell 2
 have h23 := B23.out.cell 3
 simp only [sb3, sb4] at h20 h21 h22 h23
 go_wp2_with fail
 clear h20 h21 h22 h23
 refine (work_calls (H.out.below HB3.out) hs8 hj HJO.out).mono ?_
 rintro e w4 ⟨rfl, hw4, hb4⟩
 have HW4 := Aside0.mk hw4
 have HB4 := Aside0.mk (HB3.out.trans (hb4.mono HB3.out.size))
 have hs3 := HB3.out.size
 clear hw4 hb4
 go_wp2_with fail
 go_ret2
 rw [HA.out]
 exact ⟨_, rfl, fun _ => ⟨_, _, rfl, by omega, by omega, HW4.out⟩, fun h => absurd rfl h, HB4.out⟩
end Go.Proofs.Ytiddkceahbnolaa
namespace Go.Proofs.Ytiddkceahbnolaa
open Go.RowKit Go.Shelf Go.Proofs.Ytiddkceahbnolaa.PBorderOrder Go.Proofs.YtiddkceahbnolaaW.PrintWords Go.Proofs.YtiddkceahbnolaaW.PrintLast
set_option linter.all false
attribute [local go_sem] Oper.semAt_some
/-- The search from a street on: so many streets are left, so many are to be moved. -/
def moveF (R : (Nat → Int) → Bool) (own : Nat → Int) (n nn : Nat) : Nat → (Nat → Int) → Int → Option (Nat → Int)
 | 0, l, many => if 0 < many then none else if R l = true then some l else none
 | r + 1, l, many => if ((r + 1 : Nat) : Int) < many then none else
   (List.range nn).findSome? (fun d : Nat => if 0 ≤ (if (d : Int) ≠ own (n - (r + 1)) then many - 1 else many) then moveF R own n nn r (updL l (n - (r + 1)) (d : Int)) (if (d : Int) ≠ own (n - (r + 1)) then many - 1 else many) else none)
/-- What the closure looks at. -/
structure Env (w0 w : World) (gp gf gl gm gw mb : Nat) (lo hi : Int) (A0 : Option Addr) (c0 : Nat) (old : List Int) (nw : Int) (A2 : Option Addr) (c2 : Nat) (ss : List S115) (A3 : Option Addr) (c3 : Nat) (js : List S119) : Prop where
 below : Below w0.heap.size w0 w
 p : Blk w gp [.pointer (some ⟨gw, 0, none⟩)] 124
 found : ∃ lf, Blk w gf (cellsL lf) 121
 lim : Blk w gl [.int .i64 lo, .int .i64 hi] 71
 mv : Blk w gm [.func (.func 60) #[] #[.pointer (some ⟨gp, 0, none⟩), .pointer (some ⟨gf, 0, none⟩), .pointer (some ⟨gl, 0, none⟩), .pointer (some ⟨gm, 0, none⟩)]] 129
 wk : IsW w gw mb A0 c0 old nw A2 c2 ss A3 c3 js
 ne : gp ≠ gf ∧ gl ≠ gf ∧ gm ≠ gf ∧ gw ≠ gf ∧ mb ≠ gf
 lo : w0.heap.size ≤ gf
theorem Env.keep {w0 w w' : World} {gp gf gl gm gw mb : Nat} {lo hi : Int} {A0 : Option Addr} {c0 : Nat} {old : List Int} {nw : Int} {A2 : Option Addr} {c2 : Nat} {ss : List S115} {A3 : Option Addr} {c3 : Nat} {js : List S119} (h : Env w0 w gp gf gl gm gw mb lo hi A0 c0 old nw A2 c2 ss A3 c3 js) (k : Keep w.heap.size (fun b => b = gf) w w') (hf : ∃ lf, Blk w' gf (cellsL lf) 121) : Env w0 w' gp gf gl gm gw mb lo hi A0 c0 old nw A2 c2 ss A3 c3 js :=
 ⟨h.below.trans ⟨k.os, k.tape, k.output, k.size, fun i hi => k.block i (by have := h.below.size; omega) (by have := h.lo; omega)⟩, h.p.move (k.block _ h.p.lt h.ne.1), hf, h.lim.move (k.block _ h.lim.lt h.ne.2.1), h.mv.move (k.block _ h.mv.lt h.ne.2.2.1), ⟨h.wk.blk.move (k.block _ h.wk.blk.lt h.ne.2.2.2.1), h.wk.jm.move (k.block _ h.wk.jm.lt h.ne.2.2.2.2)⟩, h.ne, h.lo⟩
theorem Env.under {w0 w w' : World} {gp gf gl gm gw mb : Nat} {lo hi : Int} {A0 : Option Addr} {c0 : Nat} {old : List Int} {nw : Int} {A2 : Option Addr} {c2 : Nat} {ss : List S115} {A3 : Option Addr} {c3 : Nat} {js : List S119} (h : Env w0 w gp gf gl gm gw mb lo hi A0 c0 old nw A2 c2 ss A3 c3 js) (k : Below w.heap.size w w') : Env w0 w' gp gf gl gm gw mb lo hi A0 c0 old nw A2 c2 ss A3 c3 js :=
 h.keep (Keep.of_below k (Nat.le_refl _)) (by obtain ⟨lf, hl⟩ := h.found; exact ⟨lf, hl.below k⟩)
def Moved (gf : Nat) (r : Option (Nat → Int)) (w w' : World) : Prop := (∀ l', r = some l' → Blk w' gf (cellsL l') 121) ∧ (∃ lf, Blk w' gf (cellsL lf) 121) ∧ Keep w.heap.size (fun b => b = gf) w w'
theorem findSome_first {α : Type} {F : Nat → Option α} {k nn : Nat} {x : α} (h : ∀ j, j < k → F j = none) (hk : F k = some x) (hkn : k < nn) : (List.range nn).findSome? F = some x := by
 induction nn with
 | zero => omega
 | succ n ih =>
  rw [List.range_succ, List.findSome?_append]
  by_cases e : k < n
  ·rw [ih e]; rfl
  ·obtain rfl : k = n := by omega
   rw [List.findSome?_eq_none_iff.2 (fun j hj => h j (List.mem_range.1 hj))]
   simp [hk]
set_option maxRecDepth 100000 in
set_option maxHeartbeats 40000000 in
theorem move_calls {gp gf gl gm gw mb : Nat} {lo hi : Int} {A0 : Option Addr} {c0 : Nat} {old : List Int} {nw : Int} {A2 : Option Addr} {c2 : Nat} {ss : List S115} {A3 : Option Addr} {c3 : Nat} {js : List S119} {w0 : World} (h : IsB w0 A0 c0 old A2 c2 ss A3 c3 js) (hss : ss.length ≤ 8) (hst : ∀ s ∈ ss, StreetOk old.length nw s) (hol : ∀ n ∈ old, 0 ≤ n ∧ n ≤ 10000) (ho4 : old.length ≤ 4) (hn1 : 1 ≤ nw) (hn4 : nw ≤ 4) :
  ∀ (r : Nat), r ≤ ss.length → ∀ (l : Nat → Int) (many : Int), 0 ≤ many → many ≤ 8 → ∀ (w : World), Env w0 w gp gf gl gm gw mb lo hi A0 c0 old nw A2 c2 ss A3 c3 js →
  Calls Try.prog 60 #[encL l, .int .i64 ((ss.length - r : Nat) : Int), .int .i64 many, .pointer (some ⟨gp, 0, none⟩), .pointer (some ⟨gf, 0, none⟩), .pointer (some ⟨gl, 0, none⟩), .pointer (some ⟨gm, 0, none⟩)] w fun e w' => e = .returned (.bool (moveF (rightB old nw ss js lo hi) (ownL ss) ss.length nw.toNat r l many).isSome) ∧ Moved gf (moveF (rightB old nw ss js lo hi) (ownL ss) ss.length nw.toNat r l many) w w' := by
 have H := Aside0.mk h
 have HST := Aside0.mk hst
 have HOL := Aside0.mk hol
 obtain ⟨nn, hnn⟩ : ∃ n : Nat, nw.toNat = n := ⟨_, rfl⟩
 have HNW := Aside0.mk (show nw = (nn : Int) by omega)
 rw [hnn]
 have hnn4 : nn ≤ 4 := by omega
 have HN1 := Aside0.mk hn1
 have HN4 := Aside0.mk hn4
 clear h hst hol hnn hn1 hn4
 intro r
 induction r with
 | zero =>
  intro _ l many hm0 hm8 w hE
  have HE := Aside0.mk hE
  have hE0 := Aside0.mk hE
  clear hE
  unfold encL
  go_enter Try.func60, Try.ntmps60
  have hp0 := HE.out.p.cell 0
  have hw2 := HE.out.wk.blk.cell 2
  simp only [sb3, sb4, Nat.sub_zero] at hp0 hw2 ⊢
  have hgp := HE.out.p.lt
  have hgw := HE.out.wk.blk.lt
  by_cases hmb : 0 < many
  ·have hmbb : decide (0 < many) = true := by simp; omega
   have HM := Aside0.mk (show moveF (rightB old nw ss js lo hi) (ownL ss) ss.length nn 0 l many = none by unfold moveF; rw [if_pos hmb])
   go_wp2_with fail
   go_ret
   rw [HM.out]
   exact ⟨rfl, fun l' e => (by cases e), (by obtain ⟨lf, hl⟩ := HE.out.found; exact ⟨lf, hl.alloc _⟩), (Keep.refl _ _ _).alloc (Nat.le_refl _) _⟩
  ·have hmbb : decide (0 < many) = false := by simp; omega
   have HM := Aside0.mk (show moveF (rightB old nw ss js lo hi) (ownL ss) ss.length nn 0 l many = if rightB old nw ss js lo hi l = true then some l else none by unfold moveF; rw [if_neg hmb])
   have hl0 := HE.out.lim.cell 0
   have hl1 := HE.out.lim.cell 1
   simp only [sb3, sb4] at hl0 hl1
   have hgl := HE.out.lim.lt
   obtain ⟨lf, hlf⟩ := HE.out.found
   have cf_0 := hlf.cell 0
   have cf_1 := hlf.cell 1
   have cf_2 := hlf.cell 2
   have cf_3 := hlf.cell 3
   have cf_4 := hlf.cell 4
   have cf_5 := hlf.cell 5
   have cf_6 := hlf.cell 6
   have cf_7 := hlf.cell 7
   have cf_f0 := hlf.frozen 0
   have cf_f1 := hlf.frozen 1
   have cf_f2 := hlf.frozen 2
   have cf_f3 := hlf.frozen 3
   have cf_f4 := hlf.frozen 4
   have cf_f5 := hlf.frozen 5
   have cf_f6 := hlf.frozen 6
   have cf_f7 := hlf.frozen 7
   simp only [cellsL, sb3, sb4] at cf_0 cf_1 cf_2 cf_3 cf_4 cf_5 cf_6 cf_7
   have hgf := hlf.lt
   have HLF := Aside0.mk hlf
   have HNE := Aside0.mk HE.out.ne
   have hgl2 := HE.out.ne.2.1
   have hgp2 := HE.out.ne.1
   clear hlf hmb
   go_wp2_with fail
   have HK := Aside0.mk (show Keep w.heap.size (fun b => b = gf) w (((((((((w.setCell ⟨gf, 0, none⟩ (.int .i64 (l 0))).setCell ⟨gf, 1, none⟩ (.int .i64 (l 1))).setCell ⟨gf, 2, none⟩ (.int .i64 (l 2))).setCell ⟨gf, 3, none⟩ (.int .i64 (l 3))).setCell ⟨gf, 4, none⟩ (.int .i64 (l 4))).setCell ⟨gf, 5, none⟩ (.int .i64 (l 5))).setCell ⟨gf, 6, none⟩ (.int .i64 (l 6))).setCell ⟨gf, 7, none⟩ (.int .i64 (l 7))).alloc (.cells #[.int .i64 (l 0), .int .i64 (l 1), .int .i64 (l 2), .int .i64 (l 3), .int .i64 (l 4), .int .i64 (l 5), .int .i64 (l 6), .int .i64 (l 7)] 121)) from ((((((((((Keep.refl w.heap.size (fun b => b = gf) w).setCell (p := ⟨gf, 0, none⟩) (.inl rfl) (.int .i64 (l 0))).setCell (p := ⟨gf, 1, none⟩) (.inl rfl) (.int .i64 (l 1))).setCell (p := ⟨gf, 2, none⟩) (.inl rfl) (.int .i64 (l 2))).setCell (p := ⟨gf, 3, none⟩) (.inl rfl) (.int .i64 (l 3))).setCell (p := ⟨gf, 4, none⟩) (.inl rfl) (.int .i64 (l 4))).setCell (p := ⟨gf, 5, none⟩) (.inl rfl) (.int .i64 (l 5))).setCell (p := ⟨gf, 6, none⟩) (.inl rfl) (.int .i64 (l 6))).setCell (p := ⟨gf, 7, none⟩) (.inl rfl) (.int .i64 (l 7)))).alloc (by simp [World.setCell]) (.cells #[.int .i64 (l 0), .int .i64 (l 1), .int .i64 (l 2), .int .i64 (l 3), .int .i64 (l 4), .int .i64 (l 5), .int .i64 (l 6), .int .i64 (l 7)] 121))
   have BF := Aside0.mk (show Blk (((((((((w.setCell ⟨gf, 0, none⟩ (.int .i64 (l 0))).setCell ⟨gf, 1, none⟩ (.int .i64 (l 1))).setCell ⟨gf, 2, none⟩ (.int .i64 (l 2))).setCell ⟨gf, 3, none⟩ (.int .i64 (l 3))).setCell ⟨gf, 4, none⟩ (.int .i64 (l 4))).setCell ⟨gf, 5, none⟩ (.int .i64 (l 5))).setCell ⟨gf, 6, none⟩ (.int .i64 (l 6))).setCell ⟨gf, 7, none⟩ (.int .i64 (l 7))).alloc (.cells #[.int .i64 (l 0), .int .i64 (l 1), .int .i64 (l 2), .int .i64 (l 3), .int .i64 (l 4), .int .i64 (l 5), .int .i64 (l 6), .int .i64 (l 7)] 121)) gf (cellsL l) 121 from (HLF.out.set8 _ _ _ _ _ _ _ _).alloc (.cells #[.int .i64 (l 0), .int .i64 (l 1), .int .i64 (l 2), .int .i64 (l 3), .int .i64 (l 4), .int .i64 (l 5), .int .i64 (l 6), .int .i64 (l 7)] 121))
   clear cf_0 cf_1 cf_2 cf_3 cf_4 cf_5 cf_6 cf_7 cf_f0 cf_f1 cf_f2 cf_f3 cf_f4 cf_f5 cf_f6 cf_f7 HLF
   generalize ((((((((w.setCell ⟨gf, 0, none⟩ (.int .i64 (l 0))).setCell ⟨gf, 1, none⟩ (.int .i64 (l 1))).setCell ⟨gf, 2, none⟩ (.int .i64 (l 2))).setCell ⟨gf, 3, none⟩ (.int .i64 (l 3))).setCell ⟨gf, 4, none⟩ (.int .i64 (l 4))).setCell ⟨gf, 5, none⟩ (.int .i64 (l 5))).setCell ⟨gf, 6, none⟩ (.int .i64 (l 6))).setCell ⟨gf, 7, none⟩ (.int .i64 (l 7))).alloc (.cells #[.int .i64 (l 0), .int .i64 (l 1), .int .i64 (l 2), .int .i64 (l 3), .int .i64 (l 4), .int .i64 (l 5), .int .i64 (l 6), .int .i64 (l 7)] 121) = w8 at HK BF ⊢
   have HE8 := Aside0.mk (HE.out.keep HK.out ⟨l, BF.out⟩)
   refine (right_calls HE8.out.wk (H.out.below HE8.out.below) hss HST.out HOL.out ho4 HN1.out HN4.out l lo hi).mono ?_
   rintro e w9 ⟨rfl, hb9⟩
   have BF9 := Aside0.mk (BF.out.below hb9)
   have HK9 := Aside0.mk (HK.out.trans (Keep.of_below hb9 HK.out.size))
   clear hb9 BF HK HE8
   cases hr : rightB old nw ss js lo hi l
   ·rw [hr, if_neg (by simp)] at HM
    go_wp2_with fail
    go_ret
    rw [HM.out]
    exact ⟨rfl, fun l' e => (by cases e), ⟨_, BF9.out⟩, HK9.out⟩
   ·rw [hr, if_pos rfl] at HM
    go_wp2_with fail
    go_ret
    rw [HM.out]
    exact ⟨rfl, fun l' e => (by cases e; exact BF9.out), ⟨_, BF9.out⟩, HK9.out⟩
 | succ r ih =>
  intro hr l many hm0 hm8 w hE
  have HE := Aside0.mk hE
  have IH := Aside0.mk (ih (by omega))
  clear hE ih
  unfold encL
  go_enter Try.func60, Try.ntmps60
  have hp0 := HE.out.p.cell 0
  have hw2 := HE.out.wk.blk.cell 2
  have hw1 := HE.out.wk.blk.cell 1
  simp only [sb3, sb4] at hp0 hw2 hw1
  have hgp := HE.out.p.lt
  have hgw := HE.out.wk.blk.lt
  obtain ⟨st, hst⟩ : ∃ s, ss.length - (r + 1) = s := ⟨_, rfl⟩
  have hsl : st < ss.length := by omega
  have hsn : ((ss.length : Int) - (st : Int)) = ((r + 1 : Nat) : Int) := by omega
  have hst8 : (st : Int) < 8 := by omega
  have HST2 := Aside0.mk hst
  have HS1 := Aside0.mk (show ((ss.length - r : Nat) : Int) = (st : Int) + 1 by omega)
  rw [hst]
  clear hst
  by_cases hmb : ((r + 1 : Nat) : Int) < many
  ·have hmbb : decide ((ss.length : Int) - (st : Int) < many) = true := by rw [hsn]; simpa using hmb
   have HM := Aside0.mk (show moveF (rightB old nw ss js lo hi) (ownL ss) ss.length nn (r + 1) l many = none by unfold moveF; rw [if_pos hmb])
   clear hsn
   go_wp2_with fail
   go_ret
   rw [HM.out]
   exact ⟨rfl, fun l' e => (by cases e), (by obtain ⟨lf, hl⟩ := HE.out.found; exact ⟨lf, hl.alloc _⟩), (Keep.refl _ _ _).alloc (Nat.le_refl _) _⟩
  ·have hmbb : decide ((ss.length : Int) - (st : Int) < many) = false := by rw [hsn]; simpa using hmb
   have heq : ((st : Int) == (ss.length : Int)) = false := by simp; omega
   obtain ⟨F, hF⟩ : ∃ F : Nat → Option (Nat → Int), F = fun d : Nat => if 0 ≤ (if (d : Int) ≠ ownL ss st then many - 1 else many) then moveF (rightB old nw ss js lo hi) (ownL ss) ss.length nn r (updL l st (d : Int)) (if (d : Int) ≠ ownL ss st then many - 1 else many) else none := ⟨_, rfl⟩
   have HM := Aside0.mk (show moveF (rightB old nw ss js lo hi) (ownL ss) ss.length nn (r + 1) l many = (List.range nn).findSome? F by unfold moveF; rw [if_neg hmb, HST2.out, hF])
   have HF := Aside0.mk hF
   obtain ⟨ad, e, h0, h1, h2, h3, h4⟩ := at_T115 (H.out.below HE.out.below).kst (st : Int) (by omega) (by omega)
   cases e
   simp only [Int.toNat_natCast] at h0 h1 h2 h3 h4
   have how : (rd_T115 ss (st : Int)).f1 = ownL ss st := by unfold ownL; rw [if_pos hsl]; rfl
   rw [how] at h1
   have hs0 : (0 : Int) ≤ (st : Int) := by omega
   have hsll : (st : Int) < (ss.length : Int) := by omega
   obtain ⟨ow, how2⟩ : ∃ o, ownL ss st = o := ⟨_, rfl⟩
   rw [how2] at h1 HF
   have hbl := World.block_lt_of_cell? _ _ h1
   simp only at hbl
   clear hsn hmb how hF how2 h0 h2 h3 h4
   go_wp2_with fail
   clear h1 hbl
   have HE1 := Aside0.mk (HE.out.under (below_alloc (Below.refl _ _) (.cells #[.int .i64 (l 0), .int .i64 (l 1), .int .i64 (l 2), .int .i64 (l 3), .int .i64 (l 4), .int .i64 (l 5), .int .i64 (l 6), .int .i64 (l 7)] 121)))
   have B71 := Aside0.mk (show Blk (w.alloc (.cells #[.int .i64 (l 0), .int .i64 (l 1), .int .i64 (l 2), .int .i64 (l 3), .int .i64 (l 4), .int .i64 (l 5), .int .i64 (l 6), .int .i64 (l 7)] 121)) w.heap.size (cellsL l) 121 from Blk.new w (cellsL l) 121)
   have HK1 := Aside0.mk (show Keep w.heap.size (fun b => b = gf) w (w.alloc (.cells #[.int .i64 (l 0), .int .i64 (l 1), .int .i64 (l 2), .int .i64 (l 3), .int .i64 (l 4), .int .i64 (l 5), .int .i64 (l 6), .int .i64 (l 7)] 121)) from (Keep.refl _ _ _).alloc (Nat.le_refl _) (.cells #[.int .i64 (l 0), .int .i64 (l 1), .int .i64 (l 2), .int .i64 (l 3), .int .i64 (l 4), .int .i64 (l 5), .int .i64 (l 6), .int .i64 (l 7)] 121))
   obtain ⟨g7, hg7⟩ : ∃ g, w.heap.size = g := ⟨_, rfl⟩
   have hgf7 : gf < g7 := by obtain ⟨lf, hl⟩ := HE.out.found; rw [← hg7]; exact hl.lt
   have HG7 := Aside0.mk hg7
   rw [hg7] at B71
   rw [hg7] at hgp hgw
   rw [hg7]
   clear hg7 hp0 hw1 hw2
   generalize w.alloc (.cells #[.int .i64 (l 0), .int .i64 (l 1), .int .i64 (l 2), .int .i64 (l 3), .int .i64 (l 4), .int .i64 (l 5), .int .i64 (l 6), .int .i64 (l 7)] 121) = w1 at HE1 B71 HK1 ⊢
   go_loopw [51] (fun v wr => ∃ k : Nat, k ≤ nn ∧ v = .int .i64 k ∧ Aside0 (Env w0 wr gp gf gl gm gw mb lo hi A0 c0 old nw (some ad) c2 ss A3 c3 js) ∧ (∃ lx : Nat → Int, Aside0 (Blk wr g7 (cellsL lx) 121) ∧ Aside0 (∀ i, i ≠ st → lx i = l i)) ∧ Aside0 (Keep w.heap.size (fun b => b = gf) w wr) ∧ Aside0 (∀ j : Nat, j < k → F j = none)) (fun v _ => nn - (intOf v).toNat)
   case atStart => exact ⟨0, Nat.zero_le _, rfl, HE1, ⟨l, B71, ⟨fun _ _ => rfl⟩⟩, HK1, ⟨fun j hj => absurd hj (Nat.not_lt_zero _)⟩⟩
   case round =>
    clear HE1 B71 HK1
    obtain ⟨k, hk, rfl, HE1, ⟨lx, B7, HLX⟩, HK, HJ⟩ := hrel
    by_cases hkl : k < nn
    ·have hklb : decide ((k : Int) < nw) = true := by have := HNW.out; simp; omega
     have hp0 := HE1.out.p.cell 0
     have hmv0 := HE1.out.mv.cell 0
     simp only [sb3, sb4] at hp0 hmv0
     have hcs := B7.out.cell st
     have hcf := B7.out.frozen st
     rw [cellsL_get lx st (by omega)] at hcs
     have hg7l := B7.out.lt
     have HFK := Aside0.mk (show F k = if 0 ≤ (if (k : Int) ≠ ow then many - 1 else many) then moveF (rightB old nw ss js lo hi) (ownL ss) ss.length nn r (updL l st (k : Int)) (if (k : Int) ≠ ow then many - 1 else many) else none by rw [HF.out])
     have HB7 := Aside0.mk (show Blk (wr.setCell ⟨g7, st, none⟩ (.int .i64 (k : Int))) g7 (cellsL (updL l st (k : Int))) 121 by
      have hu : updL lx st (k : Int) = updL l st (k : Int) := by
       funext i
       unfold updL
       by_cases e : i = st
       ·rw [if_pos e, if_pos e]
       ·rw [if_neg e, if_neg e]; exact HLX.out i e
      rw [← hu, ← cellsL_set _ _ st (by omega)]
      exact B7.out.setAt st _)
     have HKK := Aside0.mk (show Keep w.heap.size (fun b => b = gf) w (wr.setCell ⟨g7, st, none⟩ (.int .i64 (k : Int))) from HK.out.setCell (p := ⟨g7, st, none⟩) (.inr (by simp only; have := HG7.out; omega)) _)
     have HEE := Aside0.mk (show Env w0 (wr.setCell ⟨g7, st, none⟩ (.int .i64 (k : Int))) gp gf gl gm gw mb lo hi A0 c0 old nw (some ad) c2 ss A3 c3 js from HE.out.keep HKK.out (by obtain ⟨lf, hl⟩ := HE1.out.found; exact ⟨lf, blk_far hl (by simp only; omega) _⟩))
     have hgm := HE1.out.mv.lt
     have hgm7 : gm ≠ g7 := by have := HE.out.mv.lt; have := HG7.out; omega
     obtain ⟨ml, hml⟩ : ∃ m, (if (k : Int) ≠ ow then many - 1 else many) = m := ⟨_, rfl⟩
     rw [hml] at HFK
     have HML := Aside0.mk hml
     have hcf2 := HB7.out.frozen 0
     have c7_0 := HB7.out.cell 0
     have c7_1 := HB7.out.cell 1
     have c7_2 := HB7.out.cell 2
     have c7_3 := HB7.out.cell 3
     have c7_4 := HB7.out.cell 4
     have c7_5 := HB7.out.cell 5
     have c7_6 := HB7.out.cell 6
     have c7_7 := HB7.out.cell 7
     simp only [cellsL, sb3, sb4] at c7_0 c7_1 c7_2 c7_3 c7_4 c7_5 c7_6 c7_7
     by_cases hne : (k : Int) = ow
     ·have hneb : ((k : Int) != ow) = false := by simp [hne]
      rw [if_neg (by simpa using hne)] at hml
      subst hml
      rw [if_pos hm0] at HFK
      have hge : decide (0 ≤ many) = true := by simpa using hm0
      clear hne HML
      go_wp2_with fail
      have ihk := IH.out (updL l st (k : Int)) many hm0 hm8 _ HEE.out
      rw [HS1.out] at ihk
      unfold encL at ihk
      refine ihk.mono ?_
      clear ihk c7_0 c7_1 c7_2 c7_3 c7_4 c7_5 c7_6 c7_7 hp0 hmv0 hcs hcf hcf2
      generalize wr.setCell ⟨g7, st, none⟩ (.int .i64 (k : Int)) = ws at HB7 HKK HEE ⊢
      rintro e w5 ⟨rfl, hr1, hr2, hr3⟩
      have hB7l := HB7.out.lt
      have B75 := Aside0.mk (HB7.out.move (hr3.block _ hB7l (by omega)))
      have HE5 := Aside0.mk (HEE.out.keep hr3 hr2)
      have HK5 := Aside0.mk (HKK.out.trans (hr3.mono (by have := HKK.out.size; omega) (fun _ _ h => h)))
      cases hres : moveF (rightB old nw ss js lo hi) (ownL ss) ss.length nn r (updL l st (k : Int)) many with
      | none =>
       rw [hres] at HFK
       have HFN := Aside0.mk HFK.out
       clear hres hr1 hr2 hr3 HB7 HKK HEE HK HE1 B7 HLX
       simp only [Option.isSome_none]
       go_wp2_with fail
       go_roundw
       case rel => exact ⟨k + 1, by omega, by go_num, HE5, ⟨updL l st (k : Int), B75, ⟨fun i hi => by unfold updL; rw [if_neg hi]⟩⟩, HK5, ⟨fun j hj => if e : j = k then (by rw [e]; exact HFN.out) else HJ.out j (by omega)⟩⟩
       case measure => simp [intOf]; omega
      | some l' =>
       rw [hres] at HFK
       have HFS := Aside0.mk (findSome_first HJ.out HFK.out hkl)
       have HR1 := Aside0.mk (hr1 l' hres)
       have HR2 := Aside0.mk hr2
       clear hres hr1 hr2 hr3 HB7 HKK HEE HK HE1 B7 HLX
       simp only [Option.isSome_some]
       go_wp2_with fail
       go_ret
       rw [HM.out, HFS.out]
       exact ⟨rfl, fun l2 e => (by cases e; exact HR1.out), HR2.out, HK5.out⟩
     ·have hneb : ((k : Int) != ow) = true := by simp [hne]
      rw [if_pos (by simpa using hne)] at hml
      subst hml
      clear hne HML
      have hwm : wrap64 (many - 1) = many - 1 := IntWalk.wrap64_in _ (by omega)
      by_cases hge0 : 0 ≤ many - 1
      ·rw [if_pos hge0] at HFK
       have hge : decide (0 ≤ many - 1) = true := by simpa using hge0
       go_wp2_with fail
       have ihk := IH.out (updL l st (k : Int)) (many - 1) hge0 (by omega) _ HEE.out
       rw [HS1.out] at ihk
       unfold encL at ihk
       refine ihk.mono ?_
       clear ihk c7_0 c7_1 c7_2 c7_3 c7_4 c7_5 c7_6 c7_7 hp0 hmv0 hcs hcf hcf2
       generalize wr.setCell ⟨g7, st, none⟩ (.int .i64 (k : Int)) = ws at HB7 HKK HEE ⊢
       rintro e w5 ⟨rfl, hr1, hr2, hr3⟩
       have hB7l := HB7.out.lt
       have B75 := Aside0.mk (HB7.out.move (hr3.block _ hB7l (by omega)))
       have HE5 := Aside0.mk (HEE.out.keep hr3 hr2)
       have HK5 := Aside0.mk (HKK.out.trans (hr3.mono (by have := HKK.out.size; omega) (fun _ _ h => h)))
       cases hres : moveF (rightB old nw ss js lo hi) (ownL ss) ss.length nn r (updL l st (k : Int)) (many - 1) with
       | none =>
        rw [hres] at HFK
        have HFN := Aside0.mk HFK.out
        clear hres hr1 hr2 hr3 HB7 HKK HEE HK HE1 B7 HLX
        simp only [Option.isSome_none]
        go_wp2_with fail
        go_roundw
        case rel => exact ⟨k + 1, by omega, by go_num, HE5, ⟨updL l st (k : Int), B75, ⟨fun i hi => by unfold updL; rw [if_neg hi]⟩⟩, HK5, ⟨fun j hj => if e : j = k then (by rw [e]; exact HFN.out) else HJ.out j (by omega)⟩⟩
        case measure => simp [intOf]; omega
       | some l' =>
        rw [hres] at HFK
        have HFS := Aside0.mk (findSome_first HJ.out HFK.out hkl)
        have HR1 := Aside0.mk (hr1 l' hres)
        have HR2 := Aside0.mk hr2
        clear hres hr1 hr2 hr3 HB7 HKK HEE HK HE1 B7 HLX
        simp only [Option.isSome_some]
        go_wp2_with fail
        go_ret
        rw [HM.out, HFS.out]
        exact ⟨rfl, fun l2 e => (by cases e; exact HR1.out), HR2.out, HK5.out⟩
      ·rw [if_neg hge0] at HFK
       have HFN := Aside0.mk HFK.out
       have hge : decide (0 ≤ many - 1) = false := by simpa using hge0
       clear c7_0 c7_1 c7_2 c7_3 c7_4 c7_5 c7_6 c7_7 hp0 hmv0
       go_wp2_with fail
       go_roundw
       case rel => exact ⟨k + 1, by omega, by go_num, HEE, ⟨updL l st (k : Int), HB7, ⟨fun i hi => by unfold updL; rw [if_neg hi]⟩⟩, HKK, ⟨fun j hj => if e : j = k then (by rw [e]; exact HFN.out) else HJ.out j (by omega)⟩⟩
       case measure => simp [intOf]; omega
    ·obtain rfl : k = nn := by omega
     have hklb : decide ((k : Int) < nw) = false := by have := HNW.out; simp; omega
     have hN : (List.range k).findSome? F = none := List.findSome?_eq_none_iff.2 (fun j hj => HJ.out j (List.mem_range.1 hj))
     have HN := Aside0.mk hN
     clear hN
     go_wp2_with fail
     go_ret
     rw [HM.out, HN.out]
     exact ⟨rfl, fun l' e => (by cases e), HE1.out.found, HK.out⟩
end Go.Proofs.Ytiddkceahbnolaa
