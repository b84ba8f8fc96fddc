/- border's right: whether borders are right for limits. -/
import Derived.Test.YtiddkceahbnolaaZConn
namespace Go.Proofs.Ytiddkceahbnolaa
open Go.RowKit Go.Shelf Go.Proofs.Ytiddkceahbnolaa.PBorderOrder Go.Proofs.YtiddkceahbnolaaW.PrintWords Go.Proofs.YtiddkceahbnolaaW.PrintLast
set_option linter.all false
theorem IsW.below {w w' : World} {g mb : Nat} {A0 : Option Addr} {c0 : Nat} {old : List Int} {nw : Int} {A2 : Option Addr} {c2 : Nat} {ss : List S115} {A3 : Option Addr} {c3 : Nat} {js : List S119} (h : IsW w g mb A0 c0 old nw A2 c2 ss A3 c3 js) (hb : Below w.heap.size w w') : IsW w' g mb A0 c0 old nw A2 c2 ss A3 c3 js :=
 ⟨h.blk.below hb, h.jm.move (hb.block _ h.jm.lt)⟩
def apartB (ss : List S115) (js : List S119) (d : Nat) : Bool := !connB (jn js) (membersAt (ownL ss) (d : Int) ss.length)
def apartAt (ss : List S115) (js : List S119) (k : Nat) : List Nat := (List.range k).filter (apartB ss js)
theorem apartAt_succ (ss : List S115) (js : List S119) (k : Nat) : apartAt ss js (k + 1) = if apartB ss js k then apartAt ss js k ++ [k] else apartAt ss js k := by
 unfold apartAt
 rw [List.range_succ, List.filter_append]
 by_cases h : apartB ss js k = true
 ·rw [if_pos h]
  simp [List.filter_cons, h]
 ·rw [if_neg h]
  simp [List.filter_cons, h]
theorem apartAt_len (ss : List S115) (js : List S119) (k : Nat) : (apartAt ss js k).length ≤ k := by
 have := List.length_filter_le (apartB ss js) (List.range k)
 rwa [List.length_range] at this
def apartF (old : List Int) (nw : Int) (ss : List S115) (js : List S119) : List Int × Int := if chkB old nw ss js = 0 then (castL (apartAt ss js nw.toNat), 0) else ([], chkB old nw ss js)
set_option maxRecDepth 100000 in
set_option maxHeartbeats 40000000 in
theorem Apart_calls {A0 : Option Addr} {c0 : Nat} {old : List Int} {nw : Int} {A2 : Option Addr} {c2 : Nat} {ss : List S115} {A3 : Option Addr} {c3 : Nat} {js : List S119} {w : World} (h : IsB w A0 c0 old A2 c2 ss A3 c3 js) :
  Calls Try.prog 22 #[.agg #[.slice A0 old.length c0, .int .i64 nw, .slice A2 ss.length c2, .slice A3 js.length c3]] w fun e w' => (∃ v, e = .returned (.tuple #[v, .int .i64 (apartF old nw ss js).2]) ∧ (Kd.int .i64).R 3 w' w.heap.size (fun _ => True) v (apartF old nw ss js).1) ∧ Below w.heap.size w w' := by
 have H := Aside0.mk h
 clear h
 go_enter Try.func22, Try.ntmps22
 go_wp2_with fail
 have hb0 := below_alloc (Below.refl w.heap.size w) (.cells #[.slice A0 old.length c0, .int .i64 nw, .slice A2 ss.length c2, .slice A3 js.length c3] 69)
 have B0 := Blk.new w [.slice A0 old.length c0, .int .i64 nw, .slice A2 ss.length c2, .slice A3 js.length c3] 69
 refine (CheckMap_calls (H.out.below hb0)).mono ?_
 rintro e w1 ⟨rfl, hb1⟩
 have B1 := Aside0.mk (B0.below hb1)
 have HB1 := Aside0.mk (hb0.trans (hb1.mono (by simp)))
 have h10 := B1.out.cell 0
 have h11 := B1.out.cell 1
 have h12 := B1.out.cell 2
 have h13 := B1.out.cell 3
 simp only [sb3, sb4] at h10 h11 h12 h13
 clear hb0 hb1 B0
 by_cases hc : chkB old nw ss js = 0
 rotate_left
 ·have hcb : (chkB old nw ss js != 0) = true := by simp [hc]
  go_wp2_with fail
  have hfew : apartF old nw ss js = ([], chkB old nw ss js) := by unfold apartF; rw [if_neg hc]
  go_ret2
  rw [hfew]
  exact ⟨⟨_, rfl, Kd.R_nil _ _ _ _ _⟩, HB1.out⟩
 obtain ⟨ho0, ho4, hs0, hs8, hj, hol, hn1, hn4, hst, hwe, hjo⟩ := chkB_ok hc
 have HF := Aside0.mk (show apartF old nw ss js = (castL (apartAt ss js nw.toNat), 0) by unfold apartF; rw [if_pos hc])
 have hcb : (chkB old nw ss js != 0) = false := by simp [hc]
 rw [hc]
 clear hc hst hol hwe hcb
 go_wp2_with fail
 refine (work_calls (H.out.below HB1.out) hs8 hj hjo).mono ?_
 rintro e w2 ⟨rfl, hw2, hb2⟩
 obtain ⟨gw, hgw⟩ : ∃ g, w1.heap.size + 1 + 1 = g := ⟨_, rfl⟩
 obtain ⟨mb, hmb⟩ : ∃ g, w1.heap.size + 1 = g := ⟨_, rfl⟩
 rw [hgw, hmb] at hw2
 rw [hgw]
 have HB2 := Aside0.mk (HB1.out.trans (hb2.mono HB1.out.size))
 have B2 := Aside0.mk (B1.out.below hb2)
 have HW2 := Aside0.mk hw2
 have h20 := B2.out.cell 0
 have h21 := B2.out.cell 1
 have h22 := B2.out.cell 2
 have h23 := B2.out.cell 3
 simp only [sb3, sb4] at h20 h21 h22 h23
 clear hgw hmb hw2 hb2 B1 HB1 h10 h11 h12 h13 hjo hj
 obtain ⟨nn, hnn⟩ : ∃ n : Nat, nw.toNat = n := ⟨_, rfl⟩
 have HNW := Aside0.mk (show nw = (nn : Int) by omega)
 rw [hnn] at HF
 have hnn4 : nn ≤ 4 := by omega
 clear hn1 hn4 hnn
 go_wp2_with fail
 clear h20 h21 h22 h23
 have hs2 := HB2.out.size
 go_loopw [6, 17] (fun v6 v17 wr => ∃ k : Nat, k ≤ nn ∧ v17 = .int .i64 k ∧ Aside0 (Below w2.heap.size w2 wr) ∧ w2.heap.size ≤ wr.heap.size ∧ Aside0 ((Kd.int .i64).R 3 wr w2.heap.size (fun b => w2.heap.size ≤ b) v6 (castL (apartAt ss js k)))) (fun _ v17 _ => nn - (intOf v17).toNat)
 case atStart => exact ⟨0, Nat.zero_le _, rfl, ⟨Below.refl _ _⟩, Nat.le_refl _, ⟨Kd.R_nil _ _ _ _ _⟩⟩
 case round =>
  obtain ⟨k, hk, rfl, HB, hsr, HR⟩ := hrel
  by_cases hkl : k < nn
  ·have hklb : decide ((k : Int) < nw) = true := by have := HNW.out; simp; omega
   have B3 := Aside0.mk (B2.out.below HB.out)
   have hg := B3.out.lt
   have h30 := B3.out.cell 0
   have h31 := B3.out.cell 1
   have h32 := B3.out.cell 2
   have h33 := B3.out.cell 3
   simp only [sb3, sb4] at h30 h31 h32 h33
   go_wp2_with fail
   clear h30 h31 h32 h33
   refine (own_calls (H.out.below (HB2.out.trans (HB.out.mono hs2))) hs8).mono ?_
   rintro e w3 ⟨rfl, hb3⟩
   have HB3 := Aside0.mk (HB.out.trans (hb3.mono HB.out.size))
   have HR3 := Aside0.mk (Kd.R_below HR.out hb3)
   have hs3 := Nat.le_trans hsr hb3.size
   clear hb3 B3 HB HR hg
   go_wp2_with fail
   refine (connected_calls (HW2.out.below HB3.out) hs8 (ownL ss) (k : Int)).mono ?_
   rintro e w4 ⟨rfl, hb4⟩
   have HB4 := Aside0.mk (HB3.out.trans (hb4.mono HB3.out.size))
   have HR4 := Aside0.mk (Kd.R_below HR3.out hb4)
   have hs4 := Nat.le_trans hs3 hb4.size
   clear hb4 HB3 HR3
   have hsu := apartAt_succ ss js k
   have hab : apartB ss js k = !connB (jn js) (membersAt (ownL ss) (k : Int) ss.length) := rfl
   rw [hab] at hsu
   have HLE := Aside0.mk (show (castL (apartAt ss js k)).length ≤ k by have := apartAt_len ss js k; simpa [castL] using this)
   cases hcn : connB (jn js) (membersAt (ownL ss) (k : Int) ss.length)
   ·rw [hcn] at hsu
    simp only [Bool.not_false, if_true] at hsu
    have HSU := Aside0.mk hsu
    clear hsu hab hcn
    go_wp2_with ((with_reducible refine gate_builtin (b := .append) (xs := #[.tmp 26, .tmp 28]) rfl ?_); at_builtin; refine Kd.R_append (Kd.int .i64) (w0 := w4) w2.heap.size rfl (.tmp 26) (.tmp 28) 26 3 (.int .i64 0) 8 rfl Try.underlying26 info3 rfl (by decide) (by omega) u6 (castL (apartAt ss js k)) (k : Int) [.int .i64 (k : Int)] (fun b => w2.heap.size ≤ b) (fun _ => False) rfl rfl ?aP (fun _ hk => hk.elim) ?aF ?aO ?aB ?aS ?aL ?_; (case aP => exact rfl); (case aF => exact (fun b hb => Nat.le_trans hs4 hb)); (case aO => exact HR4.out); (case aB => exact Below.refl _ _); (case aS => exact hs4); (case aL => have := HLE.out; omega); intro vn wn hon hbn hgn hatn; have HRn := Aside0.mk hon; have HBn := Aside0.mk (HB4.out.trans (hbn.mono (by omega))); have hsn := Nat.le_trans hs4 hbn.size; clear hon hbn hgn hatn)
    go_roundw
    case rel => exact ⟨k + 1, by omega, by go_num, HBn, hsn, ⟨by rw [HSU.out]; have := HRn.out; simpa [castL] using this⟩⟩
    case measure => simp [intOf]; omega
   ·rw [hcn] at hsu
    simp only [Bool.not_true, Bool.false_eq_true, if_false] at hsu
    have HSU := Aside0.mk hsu
    clear hsu hab hcn
    go_wp2_with fail
    go_roundw
    case rel => exact ⟨k + 1, by omega, by go_num, HB4, hs4, ⟨by rw [HSU.out]; exact HR4.out⟩⟩
    case measure => simp [intOf]; omega
  ·obtain rfl : k = nn := by omega
   have hklb : decide ((k : Int) < nw) = false := by have := HNW.out; simp; omega
   go_wp2_with fail
   go_ret2
   rw [HF.out]
   exact ⟨⟨_, rfl, Kd.R_mono (Kd.R_lower HR.out hs2) (fun _ _ => trivial)⟩, HB2.out.trans (HB.out.mono hs2)⟩
end Go.Proofs.Ytiddkceahbnolaa
namespace Go.Proofs.Ytiddkceahbnolaa
open Go.RowKit Go.Shelf Go.Proofs.Ytiddkceahbnolaa.PBorderOrder Go.Proofs.YtiddkceahbnolaaW.PrintWords Go.Proofs.YtiddkceahbnolaaW.PrintLast Go.Proofs.YtiddkceahbnolaaW.PrintMore
set_option linter.all false
attribute [local go_sem] Oper.semAt_some
def ri.T4 : Bool × List (List Nat × List Nat) := (true, [([], []), ([0], [0]), ([1], [1]), ([2], [2]), ([], []), ([], []), ([3, 4, 5], [3, 4, 5]), ([], []), ([7, 6, 6, 0, 1, 2, 3, 4, 5, 6, 7], [6, 7])])
def ri.B4 : List Nat := [0, 1, 3, 7, 0, 0, 63, 0, 255]
theorem ri.tab4 : rtab .any (opsOf Try.f61 4) = ri.T4 := by kernel_rfl
theorem ri.bits4 : waitsOk ri.T4.2 ri.B4 = true := by kernel_rfl
def okB (old : List Int) (ss : List S115) (js : List S119) (lo hi : Int) (l : Nat → Int) (d : Nat) : Bool :=
 decide (lo ≤ (sizeF old ss l (d : Int)).1) && (decide ((sizeF old ss l (d : Int)).2 ≤ hi) && connB (jn js) (membersAt l (d : Int) ss.length))
def rightB (old : List Int) (nw : Int) (ss : List S115) (js : List S119) (lo hi : Int) (l : Nat → Int) : Bool := (List.range nw.toNat).all (okB old ss js lo hi l)
set_option maxRecDepth 100000 in
set_option maxHeartbeats 40000000 in
theorem right_calls {A0 : Option Addr} {c0 : Nat} {old : List Int} {nw : Int} {A2 : Option Addr} {c2 : Nat} {ss : List S115} {A3 : Option Addr} {c3 : Nat} {js : List S119} {w : World} {gw mb : Nat} (hw : IsW w gw mb A0 c0 old nw A2 c2 ss A3 c3 js) (h : IsB w A0 c0 old A2 c2 ss A3 c3 js) (hss : ss.length ≤ 8) (hst : ∀ s ∈ ss, StreetOk old.length nw s) (hol : ∀ n ∈ old, 0 ≤ n ∧ n ≤ 10000) (ho4 : old.length ≤ 4) (hn1 : 1 ≤ nw) (hn4 : nw ≤ 4) (l : Nat → Int) (lo hi : Int) :
  Calls Try.prog 61 #[.pointer (some ⟨gw, 0, none⟩), encL l, .agg #[.int .i64 lo, .int .i64 hi]] w fun e w' => e = .returned (.bool (rightB old nw ss js lo hi l)) ∧ Below w.heap.size w w' := by
 have HW := Aside0.mk hw
 have H := Aside0.mk h
 have HST := Aside0.mk hst
 have HOL := Aside0.mk hol
 have HRB := Aside0.mk (show rightB old nw ss js lo hi l = (List.range nw.toNat).all (okB old ss js lo hi l) from rfl)
 obtain ⟨nn, hnn⟩ : ∃ n : Nat, nw.toNat = n := ⟨_, rfl⟩
 have HNW := Aside0.mk (show nw = (nn : Int) by omega)
 rw [hnn] at HRB
 have hgw := hw.blk.lt
 have hnn4 : nn ≤ 4 := by omega
 clear hw h hst hol hn1 hn4 hnn
 unfold encL
 go_enter Try.func61, Try.ntmps61
 have hc1 := HW.out.blk.cell 1
 simp only [sb3, sb4] at hc1
 go_wp2_with fail
 clear hc1
 have HB0 := Aside0.mk (below_alloc (below_alloc (Below.refl w.heap.size w) (.cells #[.int .i64 (l 0), .int .i64 (l 1), .int .i64 (l 2), .int .i64 (l 3), .int .i64 (l 4), .int .i64 (l 5), .int .i64 (l 6), .int .i64 (l 7)] 121)) (.cells #[.int .i64 lo, .int .i64 hi] 71))
 have B40 := Aside0.mk (show Blk ((w.alloc (.cells #[.int .i64 (l 0), .int .i64 (l 1), .int .i64 (l 2), .int .i64 (l 3), .int .i64 (l 4), .int .i64 (l 5), .int .i64 (l 6), .int .i64 (l 7)] 121)).alloc (.cells #[.int .i64 lo, .int .i64 hi] 71)) w.heap.size (cellsL l) 121 from (Blk.new w (cellsL l) 121).alloc (.cells #[.int .i64 lo, .int .i64 hi] 71))
 have B50 := Aside0.mk (show Blk ((w.alloc (.cells #[.int .i64 (l 0), .int .i64 (l 1), .int .i64 (l 2), .int .i64 (l 3), .int .i64 (l 4), .int .i64 (l 5), .int .i64 (l 6), .int .i64 (l 7)] 121)).alloc (.cells #[.int .i64 lo, .int .i64 hi] 71)) (w.heap.size + 1) [.int .i64 lo, .int .i64 hi] 71 by have hB := Blk.new (w.alloc (.cells #[.int .i64 (l 0), .int .i64 (l 1), .int .i64 (l 2), .int .i64 (l 3), .int .i64 (l 4), .int .i64 (l 5), .int .i64 (l 6), .int .i64 (l 7)] 121)) [.int .i64 lo, .int .i64 hi] 71; simp only [World.size_alloc] at hB; exact hB)
 generalize (w.alloc (.cells #[.int .i64 (l 0), .int .i64 (l 1), .int .i64 (l 2), .int .i64 (l 3), .int .i64 (l 4), .int .i64 (l 5), .int .i64 (l 6), .int .i64 (l 7)] 121)).alloc (.cells #[.int .i64 lo, .int .i64 hi] 71) = w1 at HB0 B40 B50 ⊢
 go_loopw [14] (fun v wr => ∃ k : Nat, k ≤ nn ∧ v = .int .i64 k ∧ Aside0 (Below w.heap.size w wr) ∧ Aside0 (Blk wr w.heap.size (cellsL l) 121) ∧ Aside0 (Blk wr (w.heap.size + 1) [.int .i64 lo, .int .i64 hi] 71) ∧ Aside0 (∀ j : Nat, j < k → okB old ss js lo hi l j = true)) (fun v _ => nn - (intOf v).toNat)
 case atStart => exact ⟨0, Nat.zero_le _, rfl, HB0, B40, B50, ⟨fun j hj => absurd hj (Nat.not_lt_zero _)⟩⟩
 case round =>
  clear HB0 B40 B50
  obtain ⟨k, hk, rfl, HB, B4, B5, HJ⟩ := hrel
  by_cases hkl : k < nn
  ·have hklb : decide ((k : Int) < nw) = true := by have := HNW.out; simp; omega
   have BW := Aside0.mk (HW.out.blk.below HB.out)
   obtain ⟨pp, hpp⟩ : ∃ p, sizeF old ss l (k : Int) = p := ⟨_, rfl⟩
   have HOK := Aside0.mk (show okB old ss js lo hi l k = (decide (lo ≤ (sizeF old ss l (k : Int)).1) && (decide ((sizeF old ss l (k : Int)).2 ≤ hi) && connB (jn js) (membersAt l (k : Int) ss.length))) from rfl)
   rw [hpp] at HOK
   have HPP := Aside0.mk hpp
   obtain ⟨p0, p1⟩ := pp
   simp only at HOK
   clear hpp
   go_wp2_with fail
   refine start_ (n := 9) (S := fun w' => w'.cell? ⟨gw, 0, none⟩ = some (.slice A0 old.length c0) ∧ w'.cell? ⟨gw, 1, none⟩ = some (.int .i64 nw) ∧ w'.cell? ⟨gw, 2, none⟩ = some (.slice A2 ss.length c2) ∧ w'.cell? ⟨gw, 3, none⟩ = some (.slice A3 js.length c3) ∧ w'.cell? ⟨w.heap.size, 0, none⟩ = some (.int .i64 (l 0)) ∧ w'.cell? ⟨w.heap.size, 1, none⟩ = some (.int .i64 (l 1)) ∧ w'.cell? ⟨w.heap.size, 2, none⟩ = some (.int .i64 (l 2)) ∧ w'.cell? ⟨w.heap.size, 3, none⟩ = some (.int .i64 (l 3)) ∧ w'.cell? ⟨w.heap.size, 4, none⟩ = some (.int .i64 (l 4)) ∧ w'.cell? ⟨w.heap.size, 5, none⟩ = some (.int .i64 (l 5)) ∧ w'.cell? ⟨w.heap.size, 6, none⟩ = some (.int .i64 (l 6)) ∧ w'.cell? ⟨w.heap.size, 7, none⟩ = some (.int .i64 (l 7))) (ds := [8]) #[O,O,O,O,O,O,O,O,O] (by kernel_rfl) rfl rfl ⟨(by simpa using (BW.out).cell 0), (by simpa using (BW.out).cell 1), (by simpa using (BW.out).cell 2), (by simpa using (BW.out).cell 3), (by simpa [cellsL] using (B4.out).cell 0), (by simpa [cellsL] using (B4.out).cell 1), (by simpa [cellsL] using (B4.out).cell 2), (by simpa [cellsL] using (B4.out).cell 3), (by simpa [cellsL] using (B4.out).cell 4), (by simpa [cellsL] using (B4.out).cell 5), (by simpa [cellsL] using (B4.out).cell 6), (by simpa [cellsL] using (B4.out).cell 7)⟩ (fun hHeld => ?_); refine with_tabW ri.tab4 ri.bits4 (fun HT_ HW_ => ?_)
   have BWd := Aside0.mk (BW.out.move rfl : Blk wr.drew _ _ _)
   have B4d := Aside0.mk (B4.out.move rfl : Blk wr.drew _ _ _)
   have B5d := Aside0.mk (B5.out.move rfl : Blk wr.drew _ _ _)
   have HBd := Aside0.mk (below_drew HB.out)
   clear BW B4 B5 HB
   generalize wr.drew = wd at BWd B4d B5d HBd hHeld ⊢
   refine pu_ 0 17 #[I,O,O,O,O,O,O,O,O] HT_ (h := ?_)
   refine pu_ 1 18 #[I,I,O,O,O,O,O,O,O] HT_ (h := ?_)
   refine pu_ 2 19 #[I,I,I,O,O,O,O,O,O] HT_ (h := ?_)
   refine ta_ 3 20 #[I,I,I,I,O,O,O,O,O] HT_ HW_ hHeld (hy := by (rintro w' ⟨s0, s1, s2, s3, s4, s5, s6, s7, s8, s9, s10, s11⟩; go_simp; with_reducible rfl)) (h := ?_)
   refine ta_ 4 21 #[I,I,I,I,I,O,O,O,O] HT_ HW_ hHeld (hy := by (rintro w' ⟨s0, s1, s2, s3, s4, s5, s6, s7, s8, s9, s10, s11⟩; go_simp; with_reducible rfl)) (h := ?_)
   refine pu_ 5 22 #[I,I,I,I,I,I,O,O,O] HT_ (h := ?_)
   refine join_ (σ := Nat) 1 #[I,I,I,I,I,I,I,I,O] (fun x => [(23, .agg #[.int .i64 p0, .int .i64 p1]), (8, .pointer (some ⟨x, 0, none⟩))]) (fun x w' => Blk w' x [.int .i64 0, .int .i64 0] 71 ∧ wd.heap.size ≤ x ∧ Below wd.heap.size wd w') ?cont ?orders
   case orders =>
    intro hcont
    refine two_ (i := 6) (j := 7) (Ni := some 23) (Nj := some 8) #[I,I,I,I,I,I,I,O,O] #[I,I,I,I,I,I,O,I,O] rfl rfl rfl rfl (two_of HT_.out (by kernel_rfl)) (by decide) (by decide) (fun K hK => ?_) (fun K hK => ?_)
    ·refine goes_ Try.func54 (by kernel_rfl) rfl #[.agg #[.slice A0 old.length c0, .int .i64 nw, .slice A2 ss.length c2, .slice A3 js.length c3], .agg #[.int .i64 (l 0), .int .i64 (l 1), .int .i64 (l 2), .int .i64 (l 3), .int .i64 (l 4), .int .i64 (l 5), .int .i64 (l 6), .int .i64 (l 7)], .int .i64 (k : Int)] (by rfl) rfl rfl (by (try simp only [List.map_toArray, List.map_cons, List.map_nil]); rfl) ?_
     refine (size_calls (H.out.below HBd.out) hss HST.out HOL.out ho4 l (k : Int)).mono ?_
     rintro e_ wc ⟨rfl, hbx⟩
     rw [HPP.out]
     refine ⟨_, rfl, hK.out _ _ ⟨(by simpa using (BWd.out.below hbx).cell 0), (by simpa using (BWd.out.below hbx).cell 1), (by simpa using (BWd.out.below hbx).cell 2), (by simpa using (BWd.out.below hbx).cell 3), (by simpa [cellsL] using (B4d.out.below hbx).cell 0), (by simpa [cellsL] using (B4d.out.below hbx).cell 1), (by simpa [cellsL] using (B4d.out.below hbx).cell 2), (by simpa [cellsL] using (B4d.out.below hbx).cell 3), (by simpa [cellsL] using (B4d.out.below hbx).cell 4), (by simpa [cellsL] using (B4d.out.below hbx).cell 5), (by simpa [cellsL] using (B4d.out.below hbx).cell 6), (by simpa [cellsL] using (B4d.out.below hbx).cell 7)⟩ (fun hHeld2 => ?_)⟩
     clear hK K
     refine norm_ (by simp only [Act.put, sb0, sb1, sb2]; rfl) ?_
     refine one_ (i := 7) (N := some 8) #[I,I,I,I,I,I,I,I,O] rfl rfl (one_of HT_.out (by kernel_rfl)) (by decide) (fun K hK => ?_)
     refine value_ (w1 := ?_) (v := ?_) (by rfl) rfl ?_ ?_
     rotate_left 2
     ·go_simp
      constructor <;> rfl
     refine hK.out _ _ ⟨(by simpa using ((BWd.out.below hbx).alloc (.cells #[.int .i64 0, .int .i64 0] 71)).cell 0), (by simpa using ((BWd.out.below hbx).alloc (.cells #[.int .i64 0, .int .i64 0] 71)).cell 1), (by simpa using ((BWd.out.below hbx).alloc (.cells #[.int .i64 0, .int .i64 0] 71)).cell 2), (by simpa using ((BWd.out.below hbx).alloc (.cells #[.int .i64 0, .int .i64 0] 71)).cell 3), (by simpa [cellsL] using ((B4d.out.below hbx).alloc (.cells #[.int .i64 0, .int .i64 0] 71)).cell 0), (by simpa [cellsL] using ((B4d.out.below hbx).alloc (.cells #[.int .i64 0, .int .i64 0] 71)).cell 1), (by simpa [cellsL] using ((B4d.out.below hbx).alloc (.cells #[.int .i64 0, .int .i64 0] 71)).cell 2), (by simpa [cellsL] using ((B4d.out.below hbx).alloc (.cells #[.int .i64 0, .int .i64 0] 71)).cell 3), (by simpa [cellsL] using ((B4d.out.below hbx).alloc (.cells #[.int .i64 0, .int .i64 0] 71)).cell 4), (by simpa [cellsL] using ((B4d.out.below hbx).alloc (.cells #[.int .i64 0, .int .i64 0] 71)).cell 5), (by simpa [cellsL] using ((B4d.out.below hbx).alloc (.cells #[.int .i64 0, .int .i64 0] 71)).cell 6), (by simpa [cellsL] using ((B4d.out.below hbx).alloc (.cells #[.int .i64 0, .int .i64 0] 71)).cell 7)⟩ (fun _ => ?_)
     clear hK K
     have hfin := hcont wc.heap.size (wc.alloc (.cells #[.int .i64 0, .int .i64 0] 71)) ⟨Blk.new wc [.int .i64 0, .int .i64 0] 71, hbx.size, below_alloc hbx _⟩
     refine norm_ ?_ hfin
     simp only [putAll, Act.put, sb0, sb1, sb2]
    ·refine value_ (w1 := ?_) (v := ?_) (by rfl) rfl ?_ ?_
     rotate_left 2
     ·go_simp
      constructor <;> rfl
     refine hK.out _ _ ⟨(by simpa using (BWd.out.alloc (.cells #[.int .i64 0, .int .i64 0] 71)).cell 0), (by simpa using (BWd.out.alloc (.cells #[.int .i64 0, .int .i64 0] 71)).cell 1), (by simpa using (BWd.out.alloc (.cells #[.int .i64 0, .int .i64 0] 71)).cell 2), (by simpa using (BWd.out.alloc (.cells #[.int .i64 0, .int .i64 0] 71)).cell 3), (by simpa [cellsL] using (B4d.out.alloc (.cells #[.int .i64 0, .int .i64 0] 71)).cell 0), (by simpa [cellsL] using (B4d.out.alloc (.cells #[.int .i64 0, .int .i64 0] 71)).cell 1), (by simpa [cellsL] using (B4d.out.alloc (.cells #[.int .i64 0, .int .i64 0] 71)).cell 2), (by simpa [cellsL] using (B4d.out.alloc (.cells #[.int .i64 0, .int .i64 0] 71)).cell 3), (by simpa [cellsL] using (B4d.out.alloc (.cells #[.int .i64 0, .int .i64 0] 71)).cell 4), (by simpa [cellsL] using (B4d.out.alloc (.cells #[.int .i64 0, .int .i64 0] 71)).cell 5), (by simpa [cellsL] using (B4d.out.alloc (.cells #[.int .i64 0, .int .i64 0] 71)).cell 6), (by simpa [cellsL] using (B4d.out.alloc (.cells #[.int .i64 0, .int .i64 0] 71)).cell 7)⟩ (fun hHeld2 => ?_)
     clear hK K
     have BL := Aside0.mk (Blk.new wd [.int .i64 0, .int .i64 0] 71)
     have hBa := below_alloc (Below.refl wd.heap.size wd) (.cells #[.int .i64 0, .int .i64 0] 71)
     have BWa := Aside0.mk (BWd.out.alloc (.cells #[.int .i64 0, .int .i64 0] 71))
     have B4a := Aside0.mk (B4d.out.alloc (.cells #[.int .i64 0, .int .i64 0] 71))
     refine norm_ (by simp only [Act.put, sb0, sb1, sb2]; rfl) ?_
     generalize wd.alloc (.cells #[.int .i64 0, .int .i64 0] 71) = wa at BL hBa BWa B4a hHeld2 ⊢
     refine one_ (i := 6) (N := some 23) #[I,I,I,I,I,I,I,I,O] rfl rfl (one_of HT_.out (by kernel_rfl)) (by decide) (fun K hK => ?_)
     refine goes_ Try.func54 (by kernel_rfl) rfl #[.agg #[.slice A0 old.length c0, .int .i64 nw, .slice A2 ss.length c2, .slice A3 js.length c3], .agg #[.int .i64 (l 0), .int .i64 (l 1), .int .i64 (l 2), .int .i64 (l 3), .int .i64 (l 4), .int .i64 (l 5), .int .i64 (l 6), .int .i64 (l 7)], .int .i64 (k : Int)] (by rfl) rfl rfl (by (try simp only [List.map_toArray, List.map_cons, List.map_nil]); rfl) ?_
     refine (size_calls (H.out.below (HBd.out.trans (hBa.mono HBd.out.size))) hss HST.out HOL.out ho4 l (k : Int)).mono ?_
     rintro e_ wc ⟨rfl, hbx⟩
     rw [HPP.out]
     refine ⟨_, rfl, hK.out _ _ ⟨(by simpa using (BWa.out.below hbx).cell 0), (by simpa using (BWa.out.below hbx).cell 1), (by simpa using (BWa.out.below hbx).cell 2), (by simpa using (BWa.out.below hbx).cell 3), (by simpa [cellsL] using (B4a.out.below hbx).cell 0), (by simpa [cellsL] using (B4a.out.below hbx).cell 1), (by simpa [cellsL] using (B4a.out.below hbx).cell 2), (by simpa [cellsL] using (B4a.out.below hbx).cell 3), (by simpa [cellsL] using (B4a.out.below hbx).cell 4), (by simpa [cellsL] using (B4a.out.below hbx).cell 5), (by simpa [cellsL] using (B4a.out.below hbx).cell 6), (by simpa [cellsL] using (B4a.out.below hbx).cell 7)⟩ (fun _ => ?_)⟩
     clear hK K
     have hfin := hcont wd.heap.size wc ⟨BL.out.below hbx, Nat.le_refl _, hBa.trans (hbx.mono hBa.size)⟩
     refine norm_ ?_ hfin
     simp only [putAll, Act.put, sb0, sb1, sb2]
   case cont =>
    rintro g8 w6 ⟨hBL, hg8, hB6⟩
    refine norm_ (by simp only [putAll, Act.put, sb0, sb1, sb2]; rfl) ?_
    have B8 := Aside0.mk hBL
    have BW6 := Aside0.mk (BWd.out.below hB6)
    have B46 := Aside0.mk (B4d.out.below hB6)
    have B56 := Aside0.mk (B5d.out.below hB6)
    have HB6 := Aside0.mk (HBd.out.trans (hB6.mono HBd.out.size))
    have h5l := B5d.out.lt
    have hws := HBd.out.size
    have hgl := BWd.out.lt
    clear hBL hB6 BWd B4d B5d HBd hHeld
    refine last_ (i := 8) (N := none) #[I,I,I,I,I,I,I,I,I] rfl rfl (one_of HT_.out (by kernel_rfl)) (by decide) (fun K hK => ?_)
    have hst_ := (show w6.cell? ⟨g8, 0, none⟩ = some (.int .i64 0) by simpa using B8.out.cell 0)
    have hfr_ := B8.out.frozen 0
    have hst2_ : w6.cell? ⟨g8, 1, none⟩ = some (.int .i64 0) := by simpa using B8.out.cell 1
    have hfr2_ : w6.frozen? ⟨g8, 1, none⟩ = false := B8.out.frozen 1
    refine skip_ (w1 := ?_) (by rfl) rfl ?_ ?_
    rotate_left
    ·go_simp
     rfl
    refine hK.out _ _ ?_
    clear hK K hst_ hfr_ hst2_ hfr2_
    have B8f := Aside0.mk (B8.out.set2 (.int .i64 p0) (.int .i64 p1))
    have BW6f := Aside0.mk (blk_far (blk_far BW6.out (p := ⟨g8, 0, none⟩) (by simp only; omega) (.int .i64 p0)) (p := ⟨g8, 1, none⟩) (by simp only; omega) (.int .i64 p1))
    have B46f := Aside0.mk (blk_far (blk_far B46.out (p := ⟨g8, 0, none⟩) (by simp only; omega) (.int .i64 p0)) (p := ⟨g8, 1, none⟩) (by simp only; omega) (.int .i64 p1))
    have B56f := Aside0.mk (blk_far (blk_far B56.out (p := ⟨g8, 0, none⟩) (by simp only; omega) (.int .i64 p0)) (p := ⟨g8, 1, none⟩) (by simp only; omega) (.int .i64 p1))
    have HBf := Aside0.mk ((HB6.out.setCell (p := ⟨g8, 0, none⟩) (by simp only; omega) (.int .i64 p0)).setCell (p := ⟨g8, 1, none⟩) (by simp only; omega) (.int .i64 p1))
    clear B8 BW6 B46 B56 HB6
    generalize (w6.setCell ⟨g8, 0, none⟩ (.int .i64 p0)).setCell ⟨g8, 1, none⟩ (.int .i64 p1) = wf at B8f BW6f B46f B56f HBf ⊢
    refine done_ (done_of HT_.out (by kernel_rfl)) ?_
    have h80 := B8f.out.cell 0
    have h81 := B8f.out.cell 1
    have h50 := B56f.out.cell 0
    have h51 := B56f.out.cell 1
    simp only [sb3, sb4] at h80 h81 h50 h51
    have hno : okB old ss js lo hi l k = false → rightB old nw ss js lo hi l = false := fun hf => by
     rw [HRB.out, Bool.eq_false_iff]
     intro hall
     have := List.all_eq_true.1 hall k (List.mem_range.2 hkl)
     rw [hf] at this
     cases this
    have HNO := Aside0.mk hno
    clear hno
    by_cases a1 : p0 < lo
    ·have b1 : decide (p0 < lo) = true := by simpa using a1
     have e1 : okB old ss js lo hi l k = false := by
      rw [HOK.out, show decide (lo ≤ p0) = false by simp; omega]
      rfl
     have HE := Aside0.mk (HNO.out e1)
     clear e1 a1
     go_wp2_with fail
     go_ret
     rw [HE.out]
     exact ⟨rfl, HBf.out⟩
    have b1 : decide (p0 < lo) = false := by simpa using a1
    by_cases a2 : hi < p1
    ·have b2 : decide (hi < p1) = true := by simpa using a2
     have e1 : okB old ss js lo hi l k = false := by
      rw [HOK.out, show decide (p1 ≤ hi) = false by simp; omega]
      simp
     have HE := Aside0.mk (HNO.out e1)
     clear e1 a1 a2
     go_wp2_with fail
     go_ret
     rw [HE.out]
     exact ⟨rfl, HBf.out⟩
    have b2 : decide (hi < p1) = false := by simpa using a2
    have e3 : okB old ss js lo hi l k = connB (jn js) (membersAt l (k : Int) ss.length) := by
     rw [HOK.out, show decide (lo ≤ p0) = true by simp; omega, show decide (p1 ≤ hi) = true by simp; omega]
     rfl
    have HE := Aside0.mk e3
    clear a1 a2 e3
    have c0_ := B46f.out.cell 0
    have c1_ := B46f.out.cell 1
    have c2_ := B46f.out.cell 2
    have c3_ := B46f.out.cell 3
    have c4_ := B46f.out.cell 4
    have c5_ := B46f.out.cell 5
    have c6_ := B46f.out.cell 6
    have c7_ := B46f.out.cell 7
    simp only [cellsL, sb3, sb4] at c0_ c1_ c2_ c3_ c4_ c5_ c6_ c7_
    go_wp2_with fail
    clear c0_ c1_ c2_ c3_ c4_ c5_ c6_ c7_ h80 h81 h50 h51
    refine (connected_calls (HW.out.below HBf.out) hss l (k : Int)).mono ?_
    rintro e w7 ⟨rfl, hb7⟩
    have HB7 := Aside0.mk (HBf.out.trans (hb7.mono HBf.out.size))
    have B47 := Aside0.mk (B46f.out.below hb7)
    have B57 := Aside0.mk (B56f.out.below hb7)
    clear hb7 B46f B56f HBf BW6f B8f
    cases hcn : connB (jn js) (membersAt l (k : Int) ss.length)
    ·have HE2 := Aside0.mk (HNO.out (by rw [HE.out, hcn]))
     clear hcn
     go_wp2_with fail
     go_ret
     rw [HE2.out]
     exact ⟨rfl, HB7.out⟩
    ·have HE2 := Aside0.mk (show okB old ss js lo hi l k = true by rw [HE.out, hcn])
     clear hcn
     go_wp2_with fail
     go_roundw
     case rel => exact ⟨k + 1, by omega, by go_num, HB7, B47, B57, ⟨fun j hj => if e : j = k then (by rw [e]; exact HE2.out) else HJ.out j (by omega)⟩⟩
     case measure => simp [intOf]; omega
  ·obtain rfl : k = nn := by omega
   have hklb : decide ((k : Int) < nw) = false := by have := HNW.out; simp; omega
   go_wp2_with fail
   go_ret
   rw [HRB.out]
   refine ⟨ret_bool ?_, HB.out⟩
   exact (List.all_eq_true.2 (fun j hj => HJ.out j (List.mem_range.1 hj))).symm
end Go.Proofs.Ytiddkceahbnolaa
