/- walk's Way. -/
import Derived.Test.YtiddkceahbnolaaDvd
namespace Go.Proofs.Ytiddkceahbnolaa
open Go.RowKit Go.Shelf Go.Proofs.Ytiddkceahbnolaa.PWalkOrder Go.Proofs.YtiddkceahbnolaaW.PrintWords Go.Proofs.YtiddkceahbnolaaW.PrintLast
set_option linter.unusedVariables false
set_option linter.unusedSimpArgs false
def wy.T9 : Bool × List (List Nat × List Nat) := (true, [([], []), ([], []), ([], []), ([0, 1, 2], [0, 1, 2]), ([], []), ([], []), ([], []), ([4], [4]), ([7], [7]), ([8, 5], [5, 8]), ([9, 6], [6, 9]), ([10], [10]), ([3, 3, 0, 1, 2, 3], [3]), ([11, 12, 0, 1, 2, 3, 4, 5, 6, 7, 8, 9, 10, 11, 12], [11]), ([13, 0, 1, 2, 3, 4, 5, 6, 7, 8, 9, 10, 11, 12, 13], [])])
def wy.B9 : List Nat := [0, 0, 0, 7, 0, 0, 0, 16, 144, 432, 1008, 2032, 15, 8191, 16383]
theorem wy.tab9 : rtab .any (opsOf Try.f8 9) = wy.T9 := by kernel_rfl
theorem wy.bits9 : waitsOk wy.T9.2 wy.B9 = true := by kernel_rfl

def wayF (W : List S77) (R : List S94) (fr to_ : Int) : Int × Int :=
 if chkMap W R = 0 then (if (placeB W.length fr && placeB W.length to_) = true then (if 1048576 ≤ tm R W.length fr.toNat to_.toNat then (0, 7) else (tm R W.length fr.toNat to_.toNat, 0)) else (0, 2)) else (0, chkMap W R)

set_option maxRecDepth 100000 in
set_option maxHeartbeats 40000000 in
theorem Way_calls {A0 : Option Addr} {c0 : Nat} {Wk : List S77} {A1 : Option Addr} {c1 : Nat} {R : List S94} {w : World} (fi ti : Int) (h : IsMap w A0 c0 Wk A1 c1 R) :
  Calls Try.prog 8 #[.agg #[.slice A0 Wk.length c0, .slice A1 R.length c1], .int .i64 fi, .int .i64 ti] w fun e w' => (∃ A n c, e = .returned (.tuple #[.slice A n c, .int .i64 (wayF Wk R fi ti).1, .int .i64 (wayF Wk R fi ti).2])) ∧ Below w.heap.size w w' := by
 have H := Aside0.mk h
 clear h
 go_enter Try.func8, Try.ntmps8
 go_wp2_with fail
 have hb0 := below_alloc (Below.refl w.heap.size w) (.cells #[.slice A0 Wk.length c0, .slice A1 R.length c1] 41)
 have B0 := Blk.new w [.slice A0 Wk.length c0, .slice A1 R.length c1] 41
 refine (CheckMap_calls (H.out.below hb0)).mono ?_
 rintro e w1 ⟨rfl, hb1⟩
 have B1 := Aside0.mk (B0.below hb1)
 have HB1 := Aside0.mk (hb0.trans (hb1.mono (by simp)))
 have H1 := Aside0.mk (H.out.below HB1.out)
 have h10 := B1.out.cell 0
 have h11 := B1.out.cell 1
 simp only [sb3, sb4] at h10 h11
 clear hb0 hb1 B0
 by_cases hc : chkMap Wk R = 0
 ·have hcb : (chkMap Wk R != 0) = false := by simp [hc]
  obtain ⟨hN0, hN, _, hW, hR, _⟩ := chk_ok hc
  have HFW := Aside0.mk (show wayF Wk R fi ti = ((if (placeB Wk.length fi && placeB Wk.length ti) = true then (if 1048576 ≤ tm R Wk.length fi.toNat ti.toNat then (0, 7) else (tm R Wk.length fi.toNat ti.toNat, 0)) else (0, 2)) : Int × Int) by unfold wayF; rw [if_pos hc])
  rw [hc]
  clear hc
  cases hp1 : placeB Wk.length fi
  ·rw [hp1, if_neg (by simp)] at HFW
   go_wp2_with fail
   refine (place_calls fi H1.out).mono ?_
   rintro e w2 ⟨rfl, hb2⟩
   have HB2 := Aside0.mk (HB1.out.trans (hb2.mono HB1.out.size))
   rw [hp1]
   go_wp2_with fail
   go_ret3
   rw [HFW.out]
   exact ⟨⟨none, 0, 0, rfl⟩, HB2.out⟩
  ·go_wp2_with fail
   refine (place_calls fi H1.out).mono ?_
   rintro e w2 ⟨rfl, hb2⟩
   have B2 := Aside0.mk (B1.out.below hb2)
   have HB2 := Aside0.mk (HB1.out.trans (hb2.mono HB1.out.size))
   have H2 := Aside0.mk (H.out.below HB2.out)
   have h20 := B2.out.cell 0
   have h21 := B2.out.cell 1
   simp only [sb3, sb4] at h20 h21
   rw [hp1]
   go_wp2_with fail
   refine (place_calls ti H2.out).mono ?_
   rintro e w3 ⟨rfl, hb3⟩
   have B3 := Aside0.mk (B2.out.below hb3)
   have HB3 := Aside0.mk (HB2.out.trans (hb3.mono HB2.out.size))
   have H3 := Aside0.mk (H.out.below HB3.out)
   have h30 := B3.out.cell 0
   have h31 := B3.out.cell 1
   simp only [sb3, sb4] at h30 h31
   clear hb2 hb3 B1 B2 HB1 HB2 H1 H2 h10 h11 h20 h21
   cases hp2 : placeB Wk.length ti
   ·rw [hp1, hp2, if_neg (by simp)] at HFW
    go_wp2_with fail
    go_ret3
    rw [HFW.out]
    exact ⟨⟨none, 0, 0, rfl⟩, HB3.out⟩
   ·rw [hp1, hp2, Bool.and_self, if_pos rfl] at HFW
    obtain ⟨f0, f1⟩ := placeB_ok hp1
    obtain ⟨t0, t1⟩ := placeB_ok hp2
    obtain ⟨fr, rfl⟩ : ∃ n : Nat, fi = n := ⟨fi.toNat, by omega⟩
    obtain ⟨to_, rfl⟩ : ∃ n : Nat, ti = n := ⟨ti.toNat, by omega⟩
    simp only [Int.toNat_natCast] at HFW
    have hfr : fr < Wk.length := by omega
    have hto : to_ < Wk.length := by omega
    go_wp2_with fail
    refine (atlas_calls H3.out hN hR).mono ?_
    rintro e w4 ⟨ga, mb, rfl, hga, hA4, hb4⟩
    have HA3 := Aside0.mk hA4
    have HB4 := Aside0.mk (HB3.out.trans (hb4.mono HB3.out.size))
    clear HB3
    have HB3 := HB4
    clear HB4 hA4 hb4
    have hf8 : (fr : Int) < 8 := by omega
    have ht8 : (to_ : Int) < 8 := by omega
    have hTt := HA3.out.atl.atl.time (i := fr) (j := to_) (by omega) (by omega)
    obtain ⟨tt, htt⟩ : ∃ x, tm R Wk.length fr to_ = x := ⟨_, rfl⟩
    rw [htt] at hTt HFW
    have HTT := Aside0.mk htt
    clear htt
    by_cases hfar : 1048576 ≤ tt
    ·have hfb : decide (1048576 ≤ tt) = true := by simpa using hfar
     rw [if_pos hfar] at HFW
     clear hfar
     go_wp2_with fail
     go_ret3
     rw [HFW.out]
     exact ⟨⟨none, 0, 0, rfl⟩, HB3.out⟩
    ·have hfb : decide (1048576 ≤ tt) = false := by simpa using hfar
     rw [if_neg hfar] at HFW
     have HLT := Aside0.mk (show tm R Wk.length fr to_ < 1048576 by rw [HTT.out]; omega)
     clear hfar
     go_wp2_with fail
     refine start_ (n := 15) (S := fun w' => w'.cell? ⟨ga, 2 + fr * 8 + to_, none⟩ = some (.int .i64 tt)) (ds := []) #[false, false, false, false, false, false, false, false, false, false, false, false, false, false, false] (by kernel_rfl) rfl rfl hTt (fun hHeld => ?_); refine with_tabW wy.tab9 wy.bits9 (fun HT_ HW_ => ?_)
     have HAd := Aside0.mk HA3.out.drew
     have HBd := Aside0.mk (below_drew HB3.out)
     clear HA3 HB3
     generalize w4.drew = wd at HAd HBd hHeld ⊢
     refine pure_ (i := 0) (N := some 37) (v := ?_) (a' := ?_) #[true, false, false, false, false, false, false, false, false, false, false, false, false, false, false] rfl rfl (any_of HT_.out (by kernel_rfl)) (fun _ _ _ h => h) (Or.inl ⟨by rfl, ?_⟩) ?_ ?_
     rotate_left
     ·intro w'
      go_simp
      with_reducible rfl
     rotate_left
     ·simp only [Act.put, sb0, sb1, sb2, i64_w, i32_w]
      rfl
     refine pure_ (i := 1) (N := some 38) (v := ?_) (a' := ?_) #[true, true, false, false, false, false, false, false, false, false, false, false, false, false, false] rfl rfl (any_of HT_.out (by kernel_rfl)) (fun _ _ _ h => h) (Or.inl ⟨by rfl, ?_⟩) ?_ ?_
     rotate_left
     ·intro w'
      go_simp
      with_reducible rfl
     rotate_left
     ·simp only [Act.put, sb0, sb1, sb2, i64_w, i32_w]
      rfl
     refine pure_ (i := 2) (N := some 39) (v := ?_) (a' := ?_) #[true, true, true, false, false, false, false, false, false, false, false, false, false, false, false] rfl rfl (any_of HT_.out (by kernel_rfl)) (fun _ _ _ h => h) (Or.inl ⟨by rfl, ?_⟩) ?_ ?_
     rotate_left
     ·intro w'
      go_simp
      with_reducible rfl
     rotate_left
     ·simp only [Act.put, sb0, sb1, sb2, i64_w, i32_w]
      rfl
     refine pure_ (i := 4) (N := some 41) (v := ?_) (a' := ?_) #[true, true, true, false, true, false, false, false, false, false, false, false, false, false, false] rfl rfl (any_of HT_.out (by kernel_rfl)) (fun _ _ _ h => h) (Or.inl ⟨by rfl, ?_⟩) ?_ ?_
     rotate_left
     ·intro w'
      go_simp
      with_reducible rfl
     rotate_left
     ·simp only [Act.put, sb0, sb1, sb2, i64_w, i32_w]
      rfl
     refine pure_ (i := 5) (N := some 42) (v := ?_) (a' := ?_) #[true, true, true, false, true, true, false, false, false, false, false, false, false, false, false] rfl rfl (any_of HT_.out (by kernel_rfl)) (fun _ _ _ h => h) (Or.inl ⟨by rfl, ?_⟩) ?_ ?_
     rotate_left
     ·intro w'
      go_simp
      with_reducible rfl
     rotate_left
     ·simp only [Act.put, sb0, sb1, sb2, i64_w, i32_w]
      rfl
     refine pure_ (i := 6) (N := some 43) (v := ?_) (a' := ?_) #[true, true, true, false, true, true, true, false, false, false, false, false, false, false, false] rfl rfl (any_of HT_.out (by kernel_rfl)) (fun _ _ _ h => h) (Or.inl ⟨by rfl, ?_⟩) ?_ ?_
     rotate_left
     ·intro w'
      go_simp
      with_reducible rfl
     rotate_left
     ·simp only [Act.put, sb0, sb1, sb2, i64_w, i32_w]
      rfl
     refine pure_ (i := 7) (N := some 44) (v := ?_) (a' := ?_) #[true, true, true, false, true, true, true, true, false, false, false, false, false, false, false] rfl rfl (any_of HT_.out (by kernel_rfl)) (fun _ _ _ h => h) (Or.inl ⟨by rfl, ?_⟩) ?_ ?_
     rotate_left
     ·intro w'
      go_simp
      with_reducible rfl
     rotate_left
     ·simp only [Act.put, sb0, sb1, sb2, i64_w, i32_w]
      rfl
     refine pure_ (i := 8) (N := some 45) (v := ?_) (a' := ?_) #[true, true, true, false, true, true, true, true, true, false, false, false, false, false, false] rfl rfl (any_of HT_.out (by kernel_rfl)) (fun _ _ _ h => h) (Or.inl ⟨by rfl, ?_⟩) ?_ ?_
     rotate_left
     ·intro w'
      go_simp
      with_reducible rfl
     rotate_left
     ·simp only [Act.put, sb0, sb1, sb2, i64_w, i32_w]
      rfl
     refine pure_ (i := 9) (N := some 46) (v := ?_) (a' := ?_) #[true, true, true, false, true, true, true, true, true, true, false, false, false, false, false] rfl rfl (any_of HT_.out (by kernel_rfl)) (fun _ _ _ h => h) (Or.inl ⟨by rfl, ?_⟩) ?_ ?_
     rotate_left
     ·intro w'
      go_simp
      with_reducible rfl
     rotate_left
     ·simp only [Act.put, sb0, sb1, sb2, i64_w, i32_w]
      rfl
     refine pure_ (i := 10) (N := some 47) (v := ?_) (a' := ?_) #[true, true, true, false, true, true, true, true, true, true, true, false, false, false, false] rfl rfl (any_of HT_.out (by kernel_rfl)) (fun _ _ _ h => h) (Or.inl ⟨by rfl, ?_⟩) ?_ ?_
     rotate_left
     ·intro w'
      go_simp
      with_reducible rfl
     rotate_left
     ·simp only [Act.put, sb0, sb1, sb2, i64_w, i32_w]
      rfl
     refine take_ (i := 11) (N := some 48) (v := ?_) (a' := ?_) #[true, true, true, false, true, true, true, true, true, true, true, true, false, false, false] rfl rfl (take_ofW HT_.out HW_.out (by kernel_rfl)) (fun _ _ _ h => h) (Or.inl ⟨by rfl, ?_⟩) hHeld ?_ ?_
     rotate_left
     ·rintro w' s0
      go_simp
      with_reducible rfl
     rotate_left
     ·simp only [Act.put, sb0, sb1, sb2, i64_w, i32_w]
      rfl
     refine one_ (i := 3) (N := some 40) #[true, true, true, true, true, true, true, true, true, true, true, true, false, false, false] rfl rfl (one_of HT_.out (by kernel_rfl)) (by decide) (fun K hK => ?_)
     refine goes_ Try.func33 (by kernel_rfl) rfl #[.pointer (some ⟨ga, 0, none⟩), .int .i64 (fr : Int), .int .i64 (to_ : Int)] (by rfl) rfl rfl (by (try simp only [List.map_toArray, List.map_cons, List.map_nil]); rfl) ?_
     refine (way_calls hN (tm_bounded hR) (wayOk_of hR) fr to_ hfr hto HLT.out _ HAd.out.atl).mono ?_
     rintro e_ w_ ⟨vw, xw, rfl, hRw, hxw0, hxw1, hBw⟩
     refine ⟨_, rfl, hK.out _ _ (((HAd.out.later hBw).atl.atl.time (i := fr) (j := to_) (by omega) (by omega)).trans (by rw [HTT.out])) (fun hHeld => ?_)⟩
     clear hK K
     obtain ⟨Aw, cw, rfl⟩ := Kd.R_slice hRw
     have HB4 := Aside0.mk (HBd.out.trans (hBw.mono HBd.out.size))
     clear hRw hBw HAd HBd
     refine norm_ (by simp only [Act.put, sb0, sb1, sb2]; rfl) ?_
     refine pure_ (i := 12) (N := some 6) (v := ?_) (a' := ?_) #[true, true, true, true, true, true, true, true, true, true, true, true, true, false, false] rfl rfl (any_of HT_.out (by kernel_rfl)) (fun _ _ _ h => h) (Or.inl ⟨by rfl, ?_⟩) ?_ ?_
     rotate_left
     ·intro w'
      go_simp
      with_reducible rfl
     rotate_left
     ·simp only [Act.put, sb0, sb1, sb2, i64_w, i32_w]
      rfl
     refine pure_ (i := 13) (N := some 7) (v := ?_) (a' := ?_) #[true, true, true, true, true, true, true, true, true, true, true, true, true, true, false] rfl rfl (any_of HT_.out (by kernel_rfl)) (fun _ _ _ h => h) (Or.inl ⟨by rfl, ?_⟩) ?_ ?_
     rotate_left
     ·intro w'
      go_simp
      with_reducible rfl
     rotate_left
     ·simp only [Act.put, sb0, sb1, sb2, i64_w, i32_w]
      rfl
     refine pure_ (i := 14) (N := some 8) (v := ?_) (a' := ?_) #[true, true, true, true, true, true, true, true, true, true, true, true, true, true, true] rfl rfl (any_of HT_.out (by kernel_rfl)) (fun _ _ _ h => h) (Or.inl ⟨by rfl, ?_⟩) ?_ ?_
     rotate_left
     ·intro w'
      go_simp
      with_reducible rfl
     rotate_left
     ·simp only [Act.put, sb0, sb1, sb2, i64_w, i32_w]
      rfl
     refine done_ (done_of HT_.out (by kernel_rfl)) ?_
     go_wp2_with fail
     go_ret3
     rw [HFW.out]
     exact ⟨⟨_, _, _, rfl⟩, HB4.out⟩
 ·have hcb : (chkMap Wk R != 0) = true := by simp [hc]
  go_wp2_with fail
  have hfew : wayF Wk R fi ti = (0, chkMap Wk R) := by unfold wayF; rw [if_neg hc]
  go_ret3
  rw [hfew]
  exact ⟨⟨none, 0, 0, rfl⟩, HB1.out⟩
end Go.Proofs.Ytiddkceahbnolaa
