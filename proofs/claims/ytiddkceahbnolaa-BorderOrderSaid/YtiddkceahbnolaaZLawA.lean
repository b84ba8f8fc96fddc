/- border's law: its own code, the first part: the bounds of streets. -/
import Derived.Test.YtiddkceahbnolaaZLawB
namespace Go.Proofs.Ytiddkceahbnolaa
open Go.RowKit Go.Shelf Go.Proofs.Ytiddkceahbnolaa.PBorderOrder Go.Proofs.YtiddkceahbnolaaW.PrintWords Go.Proofs.YtiddkceahbnolaaW.PrintLast Go.Proofs.YtiddkceahbnolaaW.PrintMore
set_option linter.all false
/-- The bounds of streets, of a map and of the same map told in another order. -/
theorem streets_rel {ss ss2 : List S115} {js js2 : List S119} {s t : Nat → Nat} (h : SameM ss ss2 js js2 s t) (old : List Int) (nw : Int) : (streetsF old nw ss2 js2).2 = (streetsF old nw ss js).2 ∧ (streetsF old nw ss2 js2).1.length = (streetsF old nw ss js).1.length ∧ ((streetsF old nw ss js).2 = 0 → (streetsF old nw ss js).1.length = ss.length) ∧ ((streetsF old nw ss js).2 ≠ 0 → (streetsF old nw ss js).1.length = 0) ∧ ∀ i, i < (streetsF old nw ss js).1.length → (streetsF old nw ss2 js2).1.getD i z71 = (streetsF old nw ss js).1.getD (s i) z71 := by
 rw [h.streets]
 unfold streetsF
 by_cases hc : consE old nw ss js = 0
 ·rw [if_pos hc, if_pos hc]
  refine ⟨rfl, ?_, fun _ => streetsAt_len old ss _, fun h0 => absurd rfl h0, fun i hi => ?_⟩
  ·show ((List.range ss.length).map _).length = (streetsAt old ss ss.length).length
   rw [streetsAt_len, List.length_map, List.length_range]
  ·have hi' : i < ss.length := by rw [streetsAt_len] at hi; exact hi
   have hs := h.ren.s_lt i hi'
   simp [streetsAt, List.getD, hi', hs]
 ·rw [if_neg hc, if_neg hc]
  exact ⟨rfl, rfl, fun h0 => absurd h0 hc, fun _ => rfl, fun i hi => absurd hi (Nat.not_lt_zero _)⟩
theorem rem_rot (i k n : Nat) : ((i : Int) + k).tmod n = (((i + k) % n : Nat) : Int) := by
 rw [Int.tmod_eq_emod_of_nonneg (by omega), Int.natCast_emod]
 congr 1
set_option maxRecDepth 100000 in
set_option maxHeartbeats 40000000 in
theorem lawA_wp {w0 w : World} {A0 : Option Addr} {c0 : Nat} {old : List Int} {nw : Int} {A2 : Option Addr} {c2 : Nat} {rs : List S118} {A3 : Option Addr} {c3 : Nat} {rj : List S62} {lo hi : Int} {b11 : Nat} {X0 : Option Addr} {x0 : Nat} {X2 : Option Addr} {x2 : Nat} {rs2 : List S118} {X3 : Option Addr} {x3 : Nat} {xs : List S62} {k : Nat} {t : Nat → Nat} (a : Act) (ha : a = { tmps := lawFr (a.tmps.getD 2 undef) (a.tmps.getD 3 undef) (.pointer (some ⟨w0.heap.size, 0, none⟩)) (.pointer (some ⟨w0.heap.size + 1, 0, none⟩)) (.int .i64 (rs.length : Int)) (.int .i64 (k : Int)) (.pointer (some ⟨b11, 0, none⟩)) (fun i => a.tmps.getD i undef), defers := [] }) (L : LS w0 w A0 c0 old nw A2 c2 rs A3 c3 rj lo hi b11 X0 x0 X2 x2 rs2 X3 x3 xs) (hz : LZ old rs rs2 rj xs) (hsm : SameM (rs.map cvS) (rs2.map cvS) (rj.map cvJ) (xs.map cvJ) (fun i => (i + k) % rs.length) t) (hkl : k < rs.length) (hn : rs.length ≤ 1000)
  (K : Act → World → Prop) (hK : ∀ a' w', Code.wp Try.prog (lawT 8) (lawQ w0) a' w' → K a' w') : Code.wp Try.prog (leftOf (lawT 7)) (Exit.then K (lawQ w0)) a w := by
 have HZ := Aside0.mk hz
 have HSM := Aside0.mk hsm
 obtain ⟨ho1, hs1, hs2, hj1, hj2⟩ := hz
 obtain ⟨ss, hss⟩ : ∃ l, rs.map cvS = l := ⟨_, rfl⟩
 obtain ⟨ss2, hss2⟩ : ∃ l, rs2.map cvS = l := ⟨_, rfl⟩
 obtain ⟨js, hjs⟩ : ∃ l, rj.map cvJ = l := ⟨_, rfl⟩
 obtain ⟨js2, hjs2⟩ : ∃ l, xs.map cvJ = l := ⟨_, rfl⟩
 rw [hss, hss2, hjs, hjs2] at hsm
 have HSS := Aside0.mk hss
 have HSS2 := Aside0.mk hss2
 have HJS := Aside0.mk hjs
 have HJS2 := Aside0.mk hjs2
 obtain ⟨g1, g2, g3, g4, g5⟩ := streets_rel hsm old nw
 rw [show ss.length = rs.length by rw [← hss, List.length_map]] at g3
 obtain ⟨⟨qa, ea⟩, hqa⟩ : ∃ x, streetsF old nw ss js = x := ⟨_, rfl⟩
 obtain ⟨⟨qb, eb⟩, hqb⟩ : ∃ x, streetsF old nw ss2 js2 = x := ⟨_, rfl⟩
 rw [hqa, hqb] at g1 g2 g5
 rw [hqa] at g3 g4
 have g1' : eb = ea := g1
 subst g1'
 have g2' : qb.length = qa.length := g2
 have hal : qa.length = 0 ∨ qa.length = rs.length := by
  by_cases h0 : eb = 0
  ·exact .inr (g3 h0)
  ·exact .inl (g4 h0)
 have HA1 := Aside0.mk hqa
 have HA2 := Aside0.mk hqb
 have G2 := Aside0.mk g2'
 have G3 := Aside0.mk (show eb = 0 → qa.length = rs.length from g3)
 have G5 := Aside0.mk (show ∀ i, i < qa.length → qb.getD i z71 = qa.getD ((i + k) % rs.length) z71 from g5)
 have HAL := Aside0.mk hal
 have hql : qa.length ≤ 1000 := by omega
 have HL := Aside0.mk L
 clear hss hss2 hjs hjs2 hsm hqa hqb L g1 g2 g3 g4 g5 g2' hal
 obtain ⟨u, hu⟩ : ∃ u : Nat → Value, a = { tmps := lawFr (u 2) (u 3) (.pointer (some ⟨w0.heap.size, 0, none⟩)) (.pointer (some ⟨w0.heap.size + 1, 0, none⟩)) (.int .i64 (rs.length : Int)) (.int .i64 (k : Int)) (.pointer (some ⟨b11, 0, none⟩)) u, defers := [] } := ⟨fun i => a.tmps.getD i undef, ha⟩
 clear ha
 subst hu
 unfold lawFr
 unfold lawT lawQ at hK ⊢
 conv at hK => enter [a, w, 1, 2]; whnf
 conv => arg 2; whnf
 have h40 := HL.out.b4.cell 0
 have h41 := HL.out.b4.cell 1
 have h42 := HL.out.b4.cell 2
 have h43 := HL.out.b4.cell 3
 simp only [sb3, sb4] at h40 h41 h42 h43
 go_wp2_with fail
 refine (Map_calls nw w HL.out.k0 HL.out.k2 HL.out.k3 ho1 hs1 hj1 ss js HSS.out HJS.out).mono ?_
 rintro e w1 ⟨⟨Y0, y0, Y2, y2, Y3, y3, rfl, hM⟩, hb⟩
 have HM := Aside0.mk hM
 have L1 := Aside0.mk (HL.out.later hb)
 clear hM hb HL h40 h41 h42 h43
 go_wp2_with fail
 refine (Streets_calls (nw := nw) HM.out).mono ?_
 rintro e w2 ⟨⟨va, rfl, hRa⟩, hb⟩
 rw [HA1.out] at hRa ⊢
 dsimp only at hRa ⊢
 obtain ⟨Aa, ca, rfl, hca, hCa⟩ := Kd.R_reads hRa
 have HCA := Aside0.mk hCa
 have L2 := Aside0.mk (L1.out.later hb)
 have hm0 := L2.out.b11.cell 0
 have hm1 := L2.out.b11.cell 1
 have hm2 := L2.out.b11.cell 2
 have hm3 := L2.out.b11.cell 3
 simp only [sb3, sb4] at hm0 hm1 hm2 hm3
 clear hRa hCa hb L1 HM
 go_wp2_with fail
 refine (Map_calls nw w2 L2.out.m0 L2.out.m2 L2.out.m3 ho1 hs2 hj2 ss2 js2 HSS2.out HJS2.out).mono ?_
 rintro e w3 ⟨⟨Y4, y4, Y5, y5, Y6, y6, rfl, hM⟩, hb⟩
 have HM := Aside0.mk hM
 have L3 := Aside0.mk (L2.out.later hb)
 have HCA3 := Aside0.mk (Kd.C_below HCA.out hb)
 clear hM hb L2 hm0 hm1 hm2 hm3 HCA
 go_wp2_with fail
 refine (Streets_calls (nw := nw) HM.out).mono ?_
 rintro e w4 ⟨⟨vb, rfl, hRb⟩, hb⟩
 rw [HA2.out] at hRb ⊢
 dsimp only at hRb ⊢
 obtain ⟨Ab, cb, rfl, hcb, hCb⟩ := Kd.R_reads hRb
 have HCB := Aside0.mk (show k71.C w4 Ab qa.length qb by have := hCb; rw [G2.out] at this; exact this)
 have L4 := Aside0.mk (L3.out.later hb)
 have HCA4 := Aside0.mk (Kd.C_below HCA3.out hb)
 have hbl := G2.out
 rw [hbl] at hcb ⊢
 clear hRb hCb hb L3 HM HCA3 hbl
 have hcase : ((eb == 0) = true ∧ ((qa.length : Int) != (rs.length : Int)) = false) ∨ (eb == 0) = false := by
  by_cases h0 : eb = 0
  ·exact .inl ⟨by simp [h0], by simp [G3.out h0]⟩
  ·exact .inr (by simp [h0])
 rcases hcase with ⟨hb0, hb1⟩ | hb0
 all_goals
  go_wp2_with fail
  go_loopw [18] (fun v18 wr => ∃ i : Nat, i ≤ qa.length ∧ v18 = .int .i64 i ∧ Aside0 (Below w4.heap.size w4 wr)) (fun v18 _ => qa.length - (intOf v18).toNat)
  case atStart => exact ⟨0, Nat.zero_le _, rfl, ⟨Below.refl _ _⟩⟩
  case round =>
   obtain ⟨i, hi, rfl, HB⟩ := hrel
   by_cases hil : i < qa.length
   ·have hqn : qa.length = rs.length := by rcases HAL.out with h | h <;> omega
    have hkI : (i : Int) < qa.length := by omega
    obtain ⟨j, hj⟩ : ∃ j, (i + k) % rs.length = j := ⟨_, rfl⟩
    have hjl : j < qa.length := by rw [hqn, ← hj]; exact Nat.mod_lt _ (by omega)
    have hjI : (j : Int) < qa.length := by omega
    have hrem : ((i : Int) + k).tmod rs.length = (j : Int) := by rw [rem_rot, hj]
    have hnz : ((rs.length : Int) == 0) = false := by simp only [beq_eq_false_iff_ne]; omega
    have hnz' : ¬ rs = [] := by rintro rfl; simp at hkl
    have hw1 : IntKind.i64.wrap ((i : Int) + k) = (i : Int) + k := IntWalk.i64_in _ (by omega)
    obtain ⟨aa, e, hq0, hq1⟩ := at_T71 (Kd.C_below HCA4.out HB.out) (j : Int) (by omega) (by omega)
    cases e
    obtain ⟨ab, e, hq2, hq3⟩ := at_T71 (Kd.C_below HCB.out HB.out) (i : Int) (by omega) (by omega)
    cases e
    simp only [Int.toNat_natCast] at hq0 hq1 hq2 hq3
    have h5 := G5.out i hil
    rw [hj] at h5
    rw [show rd_T71 qb (i : Int) = qb.getD i z71 from by simp [rd_T71], h5] at hq2 hq3
    rw [show rd_T71 qa (j : Int) = qa.getD j z71 from by simp [rd_T71]] at hq0 hq1
    obtain ⟨x, hx⟩ : ∃ x, qa.getD j z71 = x := ⟨_, rfl⟩
    rw [hx] at hq0 hq1 hq2 hq3
    clear hx h5 hqn hj
    go_wp2_with fail
    go_quiet (fail)
    have HBn := Aside0.mk (pw_below_drewN HB.out nq)
    go_wp2_with fail
    exact ⟨⟨i + 1, by omega, by go_num, HBn⟩, by simp [intOf]; omega⟩
   ·obtain rfl : i = qa.length := by omega
    have L5 := Aside0.mk (L4.out.later HB.out)
    go_upto_region 24 with (fail)
    refine lawB_wp _ ?_ L5.out HZ.out HSM.out _ (by assumption)
    rfl
end Go.Proofs.Ytiddkceahbnolaa
