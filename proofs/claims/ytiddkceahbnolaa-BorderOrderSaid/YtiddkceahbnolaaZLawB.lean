/- border's law: its own code, the second part: the bounds of districts. -/
import Derived.Test.YtiddkceahbnolaaZLawC
namespace Go.Proofs.Ytiddkceahbnolaa
open Go.RowKit Go.Shelf Go.Proofs.Ytiddkceahbnolaa.PBorderOrder Go.Proofs.YtiddkceahbnolaaW.PrintWords Go.Proofs.YtiddkceahbnolaaW.PrintLast Go.Proofs.YtiddkceahbnolaaW.PrintMore
set_option linter.all false
theorem bounds_len (old : List Int) (nw : Int) (ss : List S115) (js : List S119) : (boundsF old nw ss js).1.length ≤ 1000 := by
 unfold boundsF
 by_cases h : consE old nw ss js = 0
 ·rw [if_pos h]
  obtain ⟨_, _, _, _, _, _, _, hn4, _⟩ := chkB_ok (consE_chk h)
  show (boundsAt old ss nw.toNat).length ≤ 1000
  rw [boundsAt_len]
  omega
 ·rw [if_neg h]
  exact Nat.zero_le _
set_option maxRecDepth 100000 in
set_option maxHeartbeats 40000000 in
theorem lawB_wp {w0 w : World} {A0 : Option Addr} {c0 : Nat} {old : List Int} {nw : Int} {A2 : Option Addr} {c2 : Nat} {rs : List S118} {A3 : Option Addr} {c3 : Nat} {rj : List S62} {lo hi : Int} {b11 : Nat} {X0 : Option Addr} {x0 : Nat} {X2 : Option Addr} {x2 : Nat} {rs2 : List S118} {X3 : Option Addr} {x3 : Nat} {xs : List S62} {s t : Nat → Nat} (a : Act) (ha : a = { tmps := lawFr (a.tmps.getD 2 undef) (a.tmps.getD 3 undef) (.pointer (some ⟨w0.heap.size, 0, none⟩)) (.pointer (some ⟨w0.heap.size + 1, 0, none⟩)) (a.tmps.getD 9 undef) (a.tmps.getD 10 undef) (.pointer (some ⟨b11, 0, none⟩)) (fun i => a.tmps.getD i undef), defers := [] }) (L : LS w0 w A0 c0 old nw A2 c2 rs A3 c3 rj lo hi b11 X0 x0 X2 x2 rs2 X3 x3 xs) (hz : LZ old rs rs2 rj xs) (hsm : SameM (rs.map cvS) (rs2.map cvS) (rj.map cvJ) (xs.map cvJ) s t)
  (K : Act → World → Prop) (hK : ∀ a' w', Code.wp Try.prog (lawT 12) (lawQ w0) a' w' → K a' w') : Code.wp Try.prog (leftOf (lawT 11)) (Exit.then K (lawQ w0)) a w := by
 have HZ := Aside0.mk hz
 have HSM := Aside0.mk hsm
 obtain ⟨ho1, hs1, hs2, hj1, hj2⟩ := hz
 obtain ⟨ss, hss⟩ : ∃ l, rs.map cvS = l := ⟨_, rfl⟩
 obtain ⟨ss2, hss2⟩ : ∃ l, rs2.map cvS = l := ⟨_, rfl⟩
 obtain ⟨js, hjs⟩ : ∃ l, rj.map cvJ = l := ⟨_, rfl⟩
 obtain ⟨js2, hjs2⟩ : ∃ l, xs.map cvJ = l := ⟨_, rfl⟩
 rw [hss, hss2, hjs, hjs2] at hsm
 have HSS := Aside0.mk hss
 have HSS2 := Aside0.mk hss2
 have HJS := Aside0.mk hjs
 have HJS2 := Aside0.mk hjs2
 obtain ⟨⟨qa, ea⟩, hqa⟩ : ∃ x, boundsF old nw ss js = x := ⟨_, rfl⟩
 have HA1 := Aside0.mk hqa
 have HA2 := Aside0.mk (hqa ▸ hsm.bounds old nw : boundsF old nw ss2 js2 = (qa, ea))
 have HQL := Aside0.mk (show qa.length ≤ 1000 by
  have h1 : (boundsF old nw ss js).1 = qa := by rw [hqa]
  rw [← h1]
  exact bounds_len old nw ss js)
 have HL := Aside0.mk L
 clear hss hss2 hjs hjs2 hsm hqa L
 obtain ⟨u, hu⟩ : ∃ u : Nat → Value, a = { tmps := lawFr (u 2) (u 3) (.pointer (some ⟨w0.heap.size, 0, none⟩)) (.pointer (some ⟨w0.heap.size + 1, 0, none⟩)) (u 9) (u 10) (.pointer (some ⟨b11, 0, none⟩)) u, defers := [] } := ⟨fun i => a.tmps.getD i undef, ha⟩
 clear ha
 subst hu
 unfold lawFr
 unfold lawT lawQ at hK ⊢
 conv at hK => enter [a, w, 1, 2]; whnf
 conv => arg 2; whnf
 have h40 := HL.out.b4.cell 0
 have h41 := HL.out.b4.cell 1
 have h42 := HL.out.b4.cell 2
 have h43 := HL.out.b4.cell 3
 simp only [sb3, sb4] at h40 h41 h42 h43
 go_wp2_with fail
 refine (Map_calls nw w HL.out.k0 HL.out.k2 HL.out.k3 ho1 hs1 hj1 ss js HSS.out HJS.out).mono ?_
 rintro e w1 ⟨⟨Y0, y0, Y2, y2, Y3, y3, rfl, hM⟩, hb⟩
 have HM := Aside0.mk hM
 have L1 := Aside0.mk (HL.out.later hb)
 clear hM hb HL h40 h41 h42 h43
 go_wp2_with fail
 refine (Bounds_calls (nw := nw) HM.out).mono ?_
 rintro e w2 ⟨⟨va, rfl, hRa⟩, hb⟩
 rw [HA1.out] at hRa ⊢
 dsimp only at hRa ⊢
 obtain ⟨Aa, ca, rfl, hca, hCa⟩ := Kd.R_reads hRa
 have HCA := Aside0.mk hCa
 have L2 := Aside0.mk (L1.out.later hb)
 have hm0 := L2.out.b11.cell 0
 have hm1 := L2.out.b11.cell 1
 have hm2 := L2.out.b11.cell 2
 have hm3 := L2.out.b11.cell 3
 simp only [sb3, sb4] at hm0 hm1 hm2 hm3
 clear hRa hCa hb L1 HM
 go_wp2_with fail
 refine (Map_calls nw w2 L2.out.m0 L2.out.m2 L2.out.m3 ho1 hs2 hj2 ss2 js2 HSS2.out HJS2.out).mono ?_
 rintro e w3 ⟨⟨Y4, y4, Y5, y5, Y6, y6, rfl, hM⟩, hb⟩
 have HM := Aside0.mk hM
 have L3 := Aside0.mk (L2.out.later hb)
 have HCA3 := Aside0.mk (Kd.C_below HCA.out hb)
 clear hM hb L2 hm0 hm1 hm2 hm3 HCA
 go_wp2_with fail
 refine (Bounds_calls (nw := nw) HM.out).mono ?_
 rintro e w4 ⟨⟨vb, rfl, hRb⟩, hb⟩
 rw [HA2.out] at hRb ⊢
 dsimp only at hRb ⊢
 obtain ⟨Ab, cb, rfl, hcb, hCb⟩ := Kd.R_reads hRb
 have HCB := Aside0.mk hCb
 have L4 := Aside0.mk (L3.out.later hb)
 have HCA4 := Aside0.mk (Kd.C_below HCA3.out hb)
 have hql := HQL.out
 clear hRb hCb hb L3 HM HCA3 HQL
 go_wp2_with fail
 go_loopw [21] (fun v21 wr => ∃ k : Nat, k ≤ qa.length ∧ v21 = .int .i64 k ∧ Aside0 (Below w4.heap.size w4 wr)) (fun v21 _ => qa.length - (intOf v21).toNat)
 case atStart => exact ⟨0, Nat.zero_le _, rfl, ⟨Below.refl _ _⟩⟩
 case round =>
  obtain ⟨k, hk, rfl, HB⟩ := hrel
  by_cases hkl : k < qa.length
  ·have hkI : (k : Int) < qa.length := by omega
   obtain ⟨aa, e, hq0, hq1⟩ := at_T71 (Kd.C_below HCA4.out HB.out) (k : Int) (by omega) (by omega)
   cases e
   obtain ⟨ab, e, hq2, hq3⟩ := at_T71 (Kd.C_below HCB.out HB.out) (k : Int) (by omega) (by omega)
   cases e
   simp only [Int.toNat_natCast] at hq0 hq1 hq2 hq3
   obtain ⟨x, hx⟩ : ∃ x, rd_T71 qa (k : Int) = x := ⟨_, rfl⟩
   rw [hx] at hq0 hq1 hq2 hq3
   clear hx
   go_wp2_with fail
   go_quiet (fail)
   have HBn := Aside0.mk (pw_below_drewN HB.out nq)
   go_wp2_with fail
   exact ⟨⟨k + 1, by omega, by go_num, HBn⟩, by simp [intOf]; omega⟩
  ·obtain rfl : k = qa.length := by omega
   have L5 := Aside0.mk (L4.out.later HB.out)
   go_upto_region 33 with (fail)
   refine lawC_wp _ ?_ L5.out HZ.out HSM.out _ (by assumption)
   rfl
end Go.Proofs.Ytiddkceahbnolaa
