/- border's law: its own code: the streets of the second map. -/
import Derived.Test.YtiddkceahbnolaaZLawF
namespace Go.Proofs.Ytiddkceahbnolaa
open Go.RowKit Go.Shelf Go.Proofs.Ytiddkceahbnolaa.PBorderOrder Go.Proofs.YtiddkceahbnolaaW.PrintWords Go.Proofs.YtiddkceahbnolaaW.PrintLast Go.Proofs.YtiddkceahbnolaaW.PrintMore
set_option linter.all false
def le.T6 : Bool × List (List Nat × List Nat) := (true, [([], []), ([], []), ([1], [1]), ([], []), ([2, 3], [2, 3]), ([0, 4], [0, 4]), ([], []), ([6], [6]), ([], []), ([7, 8], [7, 8]), ([5, 9, 5], [5, 9]), ([0, 1, 2, 3, 4, 5, 6, 7, 8, 9, 10], []), ([11, 10, 10, 0, 1, 2, 3, 4, 5, 6, 7, 8, 9, 10], [10, 11])])
def le.B6 : List Nat := [0, 0, 2, 0, 14, 31, 0, 64, 0, 448, 1023, 2047, 4095]
theorem le.tab6 : rtab .any (opsOf Try.f4 6) = le.T6 := by kernel_rfl
theorem le.bits6 : waitsOk le.T6.2 le.B6 = true := by kernel_rfl
theorem infoRStreet : (Try.prog.info? 118).map (fun i => (i.zero, i.size, i.bytes)) = some (some (.agg #[.int .i64 0, .int .i64 0, .int .i64 0, .int .i64 0, .int .i64 0]), 5, 40) := by kernel_rfl
set_option maxRecDepth 100000 in
set_option maxHeartbeats 40000000 in
theorem lawE_wp {w0 w : World} {A0 : Option Addr} {c0 : Nat} {old : List Int} {nw : Int} {A2 : Option Addr} {c2 : Nat} {rs : List S118} {A3 : Option Addr} {c3 : Nat} {rj : List S62} {lo hi turn : Int} {bn k b11 : Nat} {X0 : Option Addr} {n0 x0 : Nat} {base0 : Nat} (a : Act) (ha : a = { tmps := lawFr (.int .u8 (bn : Int)) (.int .u8 turn) (.pointer (some ⟨w0.heap.size, 0, none⟩)) (.pointer (some ⟨w0.heap.size + 1, 0, none⟩)) (.int .i64 (rs.length : Int)) (.int .i64 (k : Int)) (.pointer (some ⟨b11, 0, none⟩)) (fun i => a.tmps.getD i undef), defers := [] })
  (HB : Aside0 (Below w0.heap.size w0 w)) (B4 : Aside0 (Blk w w0.heap.size [.slice A0 old.length c0, .int .i64 nw, .slice A2 rs.length c2, .slice A3 rj.length c3] 57)) (B5 : Aside0 (Blk w (w0.heap.size + 1) [.int .i64 lo, .int .i64 hi] 58))
  (BX : Aside0 (Blk w b11 [.slice X0 n0 x0, .int .i64 nw, .slice none 0 0, .slice none 0 0] 57)) (R0 : Aside0 ((Kd.int .i64).R 3 w base0 (fun b => b ≠ b11) (.slice X0 n0 x0) old)) (h11 : w0.heap.size + 1 < b11)
  (K0 : Aside0 ((Kd.int .i64).C w0 A0 old.length old)) (K2 : Aside0 (k118.C w0 A2 rs.length rs)) (K3 : Aside0 (k62.C w0 A3 rj.length rj)) (HJ : Aside0 (JV rs.length rj 0)) (hc2 : rs.length ≤ c2)
  (ht0 : old.length ≤ 7) (ht2 : rs.length ≤ 11) (ht3 : rj.length ≤ 24) (hby1 : (bn : Int) < 256) (htn0 : 0 ≤ turn) (htn1 : turn < 256) (hkl : k < rs.length) : Code.wp Try.prog (lawT 5) (lawQ w0) a w := by
 obtain ⟨u, hu⟩ : ∃ u : Nat → Value, a = { tmps := lawFr (.int .u8 (bn : Int)) (.int .u8 turn) (.pointer (some ⟨w0.heap.size, 0, none⟩)) (.pointer (some ⟨w0.heap.size + 1, 0, none⟩)) (.int .i64 (rs.length : Int)) (.int .i64 (k : Int)) (.pointer (some ⟨b11, 0, none⟩)) u, defers := [] } := ⟨fun i => a.tmps.getD i undef, ha⟩
 clear ha
 subst hu
 unfold lawFr
 refine law_step 5 (by kernel_rfl) (fun K hK => ?_)
 have hl11 := BX.out.lt
 have h42 := B4.out.cell 2
 simp only [sb3, sb4] at h42
 have hkI : (k : Int) ≤ rs.length := by omega
 have hkc : ¬ c2 = k := by omega
 have hcI : (rs.length : Int) ≤ c2 := by omega
 have hkc2 : (k : Int) ≤ c2 := by omega
 unfold lawT
 conv => arg 2; whnf
 unfold lawQ
 refine start_ (n := 13) (S := fun w' => w'.cell? ⟨w0.heap.size, 2, none⟩ = some (.slice A2 rs.length c2)) (ds := [10, 12]) #[O,O,O,O,O,O,O,O,O,O,O,O,O] (by kernel_rfl) rfl rfl h42 (fun hHeld => ?_); refine with_tabW le.tab6 le.bits6 (fun HT_ HW_ => ?_)
 have BXd := Aside0.mk (BX.out.move rfl : Blk w.drew _ _ _)
 have B4d := Aside0.mk (B4.out.move rfl : Blk w.drew _ _ _)
 have B5d := Aside0.mk (B5.out.move rfl : Blk w.drew _ _ _)
 have R0d := Aside0.mk (Kd.R_drew R0.out)
 have HBd := Aside0.mk (below_drew HB.out)
 have hlt : w0.heap.size < w.drew.heap.size := B4.out.lt
 clear BX B4 B5 R0 HB h42
 generalize w.drew = wd at BXd B4d B5d R0d HBd hlt hHeld ⊢
 have HDR := Aside0.mk (show k118.C wd (A2.map (fun x => x.add (k * 5))) (rs.length - k) (rs.drop k) by have hx := Kd.C_drop (Kd.C_below K2.out HBd.out) (Nat.le_of_lt hkl) hc2; rw [if_neg hkc, List.length_drop] at hx; exact hx)
 have HTA := Aside0.mk (show k118.C wd A2 k (rs.take k) by have hx := Kd.C_take (Kd.C_below K2.out HBd.out) (Nat.le_of_lt hkl); rw [List.length_take, Nat.min_eq_left (Nat.le_of_lt hkl)] at hx; exact hx)
 refine pu_ 1 56 #[O,I,O,O,O,O,O,O,O,O,O,O,O] HT_ (h := ?_)
 refine ta_ 2 57 #[O,I,I,O,O,O,O,O,O,O,O,O,O] HT_ HW_ hHeld (hy := by (rintro w' s0; go_simp; with_reducible rfl)) (h := ?_)
 refine pu_ 3 58 #[O,I,I,I,O,O,O,O,O,O,O,O,O] HT_ (h := ?_)
 refine pu_ 4 59 #[O,I,I,I,I,O,O,O,O,O,O,O,O] HT_ (h := ?_)
 refine pu_ 6 61 #[O,I,I,I,I,O,I,O,O,O,O,O,O] HT_ (h := ?_)
 refine ta_ 7 62 #[O,I,I,I,I,O,I,I,O,O,O,O,O] HT_ HW_ hHeld (hy := by (rintro w' s0; go_simp; with_reducible rfl)) (h := ?_)
 refine pu_ 8 63 #[O,I,I,I,I,O,I,I,I,O,O,O,O] HT_ (h := ?_)
 refine pu_ 9 64 #[O,I,I,I,I,O,I,I,I,I,O,O,O] HT_ (h := ?_)
 refine one_ (i := 0) (N := some 55) #[I,I,I,I,I,O,I,I,I,I,O,O,O] rfl rfl (one_of HT_.out (by kernel_rfl)) (by decide) (fun K hK => ?_)
 refine Kd.R_lit_step k118 (w0 := wd) wd.heap.size 118 (by rfl) (N := 55) rfl (xs := ([] : List S118)) (inner := []) (ok := fun _ => True) (okp := fun _ => True) ?hr (Reps.none _ _) (fun _ hk => hk) trivial (Below.refl _ _) (Nat.le_refl _) (by simp) ?_
 case hr => first | (go_simp; done) | (go_simp; rfl)
 intro v55 wl hr0 hb0 hg0 hat0
 refine hK.out _ _ ((hb0.cell (p := ⟨w0.heap.size, 2, none⟩) hlt).trans hHeld) (fun _ => ?_)
 clear hK K
 refine norm_ (show _ = Act.put _ (some 55) _ from rfl) ?_
 refine norm_ (by simp only [Act.put, sb0, sb1, sb2]; rfl) ?_
 refine one_ (i := 5) (N := some 60) #[I,I,I,I,I,I,I,I,I,I,O,O,O] rfl rfl (one_of HT_.out (by kernel_rfl)) (by decide) (fun K hK => ?_)
 refine Kd.R_append_rows_step k118 (w0 := wd) wd.heap.size (by rfl) (.tmp 55) (.tmp 59) 54 118 (.agg #[.int .i64 0, .int .i64 0, .int .i64 0, .int .i64 0, .int .i64 0]) 40 rfl Try.underlying54 infoRStreet rfl (by decide) (by omega) v55 [] (rs.drop k) _ _ _ (fun _ => True) (fun _ => False) rfl rfl hr0 (Kd.C_below HDR.out hb0) (fun x cs h => by obtain rfl := k118_open h; exact k118_mkM _ _ _ _) (fun _ hk => hk.elim) (fun _ _ => trivial) hb0 hb0.size (by simp only [List.length_nil]; omega) ?_
 intro v60 wm hr1 hb1 hg1 hat1
 rw [List.nil_append] at hr1
 refine hK.out _ _ ((hb1.cell (p := ⟨w0.heap.size, 2, none⟩) hlt).trans hHeld) (fun _ => ?_)
 clear hK K hr0 hb0 hg0 hat0 hg1 hat1
 refine norm_ (show _ = Act.put _ (some 60) _ from rfl) ?_
 refine norm_ (by simp only [Act.put, sb0, sb1, sb2]; rfl) ?_
 refine last_ (i := 10) (N := some 65) #[I,I,I,I,I,I,I,I,I,I,I,O,O] rfl rfl (one_of HT_.out (by kernel_rfl)) (by decide) (fun K hK => ?_)
 refine Kd.R_append_rows_step k118 (w0 := wd) wd.heap.size (by rfl) (.tmp 60) (.tmp 64) 54 118 (.agg #[.int .i64 0, .int .i64 0, .int .i64 0, .int .i64 0, .int .i64 0]) 40 rfl Try.underlying54 infoRStreet rfl (by decide) (by omega) v60 (rs.drop k) (rs.take k) _ _ _ (fun _ => True) (fun _ => False) rfl rfl hr1 (Kd.C_below HTA.out hb1) (fun x cs h => by obtain rfl := k118_open h; exact k118_mkM _ _ _ _) (fun _ hk => hk.elim) (fun _ _ => trivial) hb1 hb1.size (by simp only [List.length_drop]; omega) ?_
 intro v65 wn hr2 hb2 hg2 hat2
 have BXn := Aside0.mk (BXd.out.below hb2)
 have HR2 := Aside0.mk (Kd.R_types hr2 BXn.out (by decide))
 obtain ⟨X2, n2, x2, rfl⟩ := slice_of hr2
 have B4n := Aside0.mk (B4d.out.below hb2)
 have B5n := Aside0.mk (B5d.out.below hb2)
 have R0n := Aside0.mk (Kd.R_below R0d.out hb2)
 have HBn := Aside0.mk (HBd.out.trans (hb2.mono HBd.out.size))
 clear hr1 hb1 hr2 hb2 hg2 hat2 BXd B4d B5d R0d HBd
 refine hK.out _ _ ?_
 clear hK K
 refine norm_ (show _ = Act.put _ (some 65) _ from rfl) ?_
 refine norm_ (by simp only [Act.put, sb0, sb1, sb2]; rfl) ?_
 refine pu_ 11 66 #[I,I,I,I,I,I,I,I,I,I,I,I,O] HT_ (h := ?_)
 refine last_ (i := 12) (N := none) #[I,I,I,I,I,I,I,I,I,I,I,I,I] rfl rfl (one_of HT_.out (by kernel_rfl)) (by decide) (fun K hK => ?_)
 have hst_ := (show wn.cell? ⟨b11, 2, none⟩ = some (.slice none 0 0) by simpa using BXn.out.cell 2)
 have hfr_ := BXn.out.frozen 2
 refine skip_ (w1 := ?_) (by rfl) rfl ?_ ?_
 rotate_left
 ·go_simp
  rfl
 refine hK.out _ _ ?_
 clear hK K hst_ hfr_ 
 have BXz := Aside0.mk (show Blk _ b11 [.slice X0 n0 x0, .int .i64 nw, .slice X2 n2 x2, .slice none 0 0] _ from blk_set BXn.out 2 (.slice X2 n2 x2))
 have B4z := Aside0.mk (B4n.out.move (Below.heap_setCell wn ⟨b11, 2, none⟩ (.slice X2 n2 x2) _ (by simp only; omega)))
 have B5z := Aside0.mk (B5n.out.move (Below.heap_setCell wn ⟨b11, 2, none⟩ (.slice X2 n2 x2) _ (by simp only; omega)))
 have R0z := Aside0.mk (Kd.R_far R0n.out (p := ⟨b11, 2, none⟩) (fun b hb => hb) (.slice X2 n2 x2))
 have R2z := Aside0.mk (Kd.R_mono (Kd.R_far HR2.out (p := ⟨b11, 2, none⟩) (fun b hb => hb.2) (.slice X2 n2 x2)) (fun b hb => hb.2))
 have HBz := Aside0.mk (HBn.out.setCell (p := ⟨b11, 2, none⟩) (by simp only; omega) (.slice X2 n2 x2))
 clear BXn B4n B5n R0n HR2 HBn
 generalize wn.setCell ⟨b11, 2, none⟩ (.slice X2 n2 x2) = wz at BXz B4z B5z R0z R2z HBz ⊢
 refine done_ (done_of HT_.out (by kernel_rfl)) ?_
 refine hK _ _ ?_
 refine lawF_wp (rs2 := rs.drop k ++ rs.take k) _ ?_ HBz B4z B5z BXz R0z R2z h11 K0 K2 K3 HJ rfl ht0 ht2 ht3 hby1 htn0 htn1 hkl
 rfl
end Go.Proofs.Ytiddkceahbnolaa
