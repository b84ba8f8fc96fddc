/- border's law: its own code, up to the second map. -/
import Derived.Test.YtiddkceahbnolaaZLawD
namespace Go.Proofs.Ytiddkceahbnolaa
open Go.RowKit Go.Shelf Go.Proofs.Ytiddkceahbnolaa.PBorderOrder Go.Proofs.YtiddkceahbnolaaW.PrintWords Go.Proofs.YtiddkceahbnolaaW.PrintLast Go.Proofs.YtiddkceahbnolaaW.PrintMore
set_option linter.all false
theorem fld_bool {a b : Bool} (h : a = b) : Value.bool a = .bool b := by rw [h]
set_option maxRecDepth 100000 in
set_option maxHeartbeats 40000000 in
theorem law_calls {A0 : Option Addr} {c0 : Nat} (old : List Int) (nw : Int) {A2 : Option Addr} {c2 : Nat} (rs : List S118) {A3 : Option Addr} {c3 : Nat} (rj : List S62) (lo hi by_ turn : Int) (w : World)
  (h0 : (Kd.int .i64).C w A0 old.length old) (hc0 : old.length ≤ c0) (h2 : k118.C w A2 rs.length rs) (hc2 : rs.length ≤ c2) (h3 : k62.C w A3 rj.length rj) (hc3 : rj.length ≤ c3) (hby0 : 0 ≤ by_) (hby1 : by_ < 256) (htn0 : 0 ≤ turn) (htn1 : turn < 256) :
  Calls Try.prog 4 #[.agg #[.slice A0 old.length c0, .int .i64 nw, .slice A2 rs.length c2, .slice A3 rj.length c3], .agg #[.int .i64 lo, .int .i64 hi], .int .u8 by_, .int .u8 turn] w fun e w' => e = .returned (.bool true) ∧ Below w.heap.size w w' := by
 obtain ⟨bn, rfl⟩ : ∃ n : Nat, by_ = n := ⟨by_.toNat, by omega⟩
 have K0 := Aside0.mk h0
 have K2 := Aside0.mk h2
 have K3 := Aside0.mk h3
 clear h0 h2 h3
 go_enter Try.func4, Try.ntmps4
 go_wp2_with fail
 have HB0 := Aside0.mk (below_alloc (below_alloc (Below.refl w.heap.size w) (.cells #[.slice A0 old.length c0, .int .i64 nw, .slice A2 rs.length c2, .slice A3 rj.length c3] 57)) (.cells #[.int .i64 lo, .int .i64 hi] 58))
 have B40 := Aside0.mk ((Blk.new w [.slice A0 old.length c0, .int .i64 nw, .slice A2 rs.length c2, .slice A3 rj.length c3] 57).alloc (.cells #[.int .i64 lo, .int .i64 hi] 58))
 have B50 := Aside0.mk (Blk.second w (.cells #[.slice A0 old.length c0, .int .i64 nw, .slice A2 rs.length c2, .slice A3 rj.length c3] 57) [.int .i64 lo, .int .i64 hi] 58)
 have hs0 : w.heap.size + 1 < ((w.alloc (.cells #[.slice A0 old.length c0, .int .i64 nw, .slice A2 rs.length c2, .slice A3 rj.length c3] 57)).alloc (.cells #[.int .i64 lo, .int .i64 hi] 58)).heap.size := by simp
 generalize (w.alloc (.cells #[.slice A0 old.length c0, .int .i64 nw, .slice A2 rs.length c2, .slice A3 rj.length c3] 57)).alloc (.cells #[.int .i64 lo, .int .i64 hi] 58) = w0 at HB0 B40 B50 hs0 ⊢
 refine (tithinglaw11_Thin.calls A0 c0 old nw A2 c2 rs A3 c3 rj _ w0 (Kd.C_below K0.out HB0.out) hc0 (Kd.C_below K2.out HB0.out) hc2 (Kd.C_below K3.out HB0.out) hc3 (thin11 old nw rs rj)).mono ?_
 rintro e w1 ⟨rfl, hb1⟩
 have HB1 := Aside0.mk (HB0.out.trans (hb1.mono HB0.out.size))
 have B41 := Aside0.mk (B40.out.below hb1)
 have B51 := Aside0.mk (B50.out.below hb1)
 have hs1 := Nat.lt_of_lt_of_le hs0 hb1.size
 have h40 := B41.out.cell 0
 have h41 := B41.out.cell 1
 have h42 := B41.out.cell 2
 have h43 := B41.out.cell 3
 simp only [sb3, sb4] at h40 h41 h42 h43
 clear hb1 HB0 B40 B50 hs0
 cases hth : (decide (old.length ≤ 7) && (decide (rs.length ≤ 11) && decide (rj.length ≤ 24)))
 ·go_wp2_with fail
  refine (awake_calls _).mono ?_
  rintro e w2 ⟨rfl, hb2⟩
  have HB2 := Aside0.mk (HB1.out.trans (hb2.mono HB1.out.size))
  go_wp2_with fail
  go_ret
  exact ⟨rfl, HB2.out⟩
 ·simp only [Bool.and_eq_true, decide_eq_true_eq] at hth
  obtain ⟨ht0, ht2, ht3⟩ := hth
  obtain ⟨kf, rf, hf, hfv⟩ := fault11 old nw rs rj (by omega) (by omega) (by omega)
  have HFV := Aside0.mk hfv
  have HF := Aside0.mk hf
  clear hf hfv
  go_wp2_with fail
  refine (tithinglaw11_fault.calls kf A0 c0 old nw A2 c2 rs A3 c3 rj rf w1 (Kd.C_below K0.out HB1.out) hc0 (Kd.C_below K2.out HB1.out) hc2 (Kd.C_below K3.out HB1.out) hc3 HF.out).mono ?_
  rintro e w2 ⟨rfl, hb2⟩
  have HB2 := Aside0.mk (HB1.out.trans (hb2.mono HB1.out.size))
  have B42 := Aside0.mk (B41.out.below hb2)
  have B52 := Aside0.mk (B51.out.below hb2)
  have hs2 := Nat.lt_of_lt_of_le hs1 hb2.size
  clear hb2 HB1 B41 B51 hs1 h40 h41 h42 h43
  have h40 := B42.out.cell 0
  have h41 := B42.out.cell 1
  have h42 := B42.out.cell 2
  have h43 := B42.out.cell 3
  simp only [sb3, sb4] at h40 h41 h42 h43
  cases hrf : (rf != 0)
  rotate_left
  ·go_wp2_with fail
   refine (awake_calls _).mono ?_
   rintro e w3 ⟨rfl, hb3⟩
   have HB3 := Aside0.mk (HB2.out.trans (hb3.mono HB2.out.size))
   go_wp2_with fail
   go_ret
   exact ⟨rfl, HB3.out⟩
  ·have hrf0 : rf = 0 := by simpa using hrf
   have HV := Aside0.mk (HFV.out hrf0)
   subst hrf0
   clear HFV HF hrf
   by_cases hn : rs.length = 0
   ·have hnb : ((rs.length : Int) == 0) = true := by simp [hn]
    clear hn
    go_wp2_with fail
    refine (awake_calls _).mono ?_
    rintro e w3 ⟨rfl, hb3⟩
    have HB3 := Aside0.mk (HB2.out.trans (hb3.mono HB2.out.size))
    go_wp2_with fail
    go_ret
    exact ⟨rfl, HB3.out⟩
   ·have hnb : ((rs.length : Int) == 0) = false := by simp only [beq_eq_false_iff_ne]; omega
    have hn1 : 0 < rs.length := Nat.pos_of_ne_zero hn
    obtain ⟨k, hk⟩ : ∃ k, bn % rs.length = k := ⟨_, rfl⟩
    have hkl : k < rs.length := by rw [← hk]; exact Nat.mod_lt _ hn1
    have hwb : wrap64 (bn : Int) = bn := wrap_small (by omega) (by omega)
    have hrem : (bn : Int).tmod rs.length = (k : Int) := by
     rw [Int.tmod_eq_emod_of_nonneg (by omega), ← hk]
     exact (Int.natCast_emod bn rs.length).symm
    have HKK := Aside0.mk hk
    clear hk hn
    go_upto_region 5 with (fail)
    refine lawD_wp (w0 := w) (k := k) _ ?_ HB2 B42 B52 K0 K2 hc2 K3 HV ht0 ht2 ht3 hby1 htn0 htn1 hkl _ (by assumption)
    rfl
end Go.Proofs.Ytiddkceahbnolaa
