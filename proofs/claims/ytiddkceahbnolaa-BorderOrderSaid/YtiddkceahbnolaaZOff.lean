/- border's Off, where each old district has two streets. -/
import Derived.Test.YtiddkceahbnolaaZCar
namespace Go.Proofs.Ytiddkceahbnolaa
open Go.RowKit Go.Shelf Go.Proofs.Ytiddkceahbnolaa.PBorderOrder Go.Proofs.YtiddkceahbnolaaW.PrintWords Go.Proofs.YtiddkceahbnolaaW.PrintLast Go.Proofs.YtiddkceahbnolaaW.PrintMore
set_option linter.all false
def cy.T4 : Bool × List (List Nat × List Nat) := (true, [([], []), ([0], [0]), ([], []), ([2, 1], [2]), ([1, 3, 0, 1], [1]), ([3, 4, 0, 1, 2, 3, 4], [3]), ([5, 0, 1, 2, 3, 4, 5], [])])
def cy.B4 : List Nat := [0, 1, 0, 7, 15, 31, 63]
theorem cy.tab4 : rtab .any (opsOf Try.f46 4) = cy.T4 := by kernel_rfl
theorem cy.bits4 : waitsOk cy.T4.2 cy.B4 = true := by kernel_rfl
/-- The sums of the new districts, over the first k streets. -/
def sumAt (ss : List S115) (nn : Nat) (L : List Int) : Nat → List Int
 | 0 => List.replicate nn 0
 | k + 1 => (sumAt ss nn L k).set (enc_rd_Street ss k).f1.toNat ((sumAt ss nn L k).getD (enc_rd_Street ss k).f1.toNat 0 + L.getD k 0)
theorem sumAt_len (ss : List S115) (nn : Nat) (L : List Int) : ∀ k, (sumAt ss nn L k).length = nn
 | 0 => by simp [sumAt]
 | k + 1 => by unfold sumAt; rw [List.length_set, sumAt_len ss nn L k]
/-- The sums stay small. -/
def SumOk (ss : List S115) (nn : Nat) (L : List Int) : Prop := ∀ k, k < ss.length → 0 ≤ (sumAt ss nn L k).getD (enc_rd_Street ss k).f1.toNat 0 + L.getD k 0 ∧ (sumAt ss nn L k).getD (enc_rd_Street ss k).f1.toNat 0 + L.getD k 0 < 1000000
set_option maxRecDepth 100000 in
set_option maxHeartbeats 40000000 in
theorem summed_calls {A0 : Option Addr} {c0 : Nat} {old : List Int} {nw : Int} {A2 : Option Addr} {c2 : Nat} {ss : List S115} {A3 : Option Addr} {c3 : Nat} {js : List S119} {w : World} (h : IsB w A0 c0 old A2 c2 ss A3 c3 js) (hss : ss.length ≤ 8) (hs0 : 0 < ss.length) (ho4 : old.length ≤ 4) (hst : ∀ s ∈ ss, StreetOk old.length nw s) (P : Nat → Int × Int) (hP : TwoOf old ss P) (nn : Nat) (hnn : nw = (nn : Int)) (hn0 : 0 < nn) (hn4 : nn ≤ 4) (hsum : SumOk ss nn (carAt ss P old.length)) :
  Calls Try.prog 83 #[.agg #[.slice A0 old.length c0, .int .i64 nw, .slice A2 ss.length c2, .slice A3 js.length c3]] w fun e w' => (∃ v, e = .returned v ∧ (Kd.int .i64).R 3 w' w.heap.size (fun _ => True) v (sumAt ss nn (carAt ss P old.length) ss.length)) ∧ Below w.heap.size w w' := by
 subst hnn
 have H := Aside0.mk h
 have HP := Aside0.mk hP
 have HST := Aside0.mk hst
 have HSUM := Aside0.mk hsum
 have HLL := Aside0.mk (carAt_len ss P old.length)
 obtain ⟨L, hL⟩ : ∃ L, carAt ss P old.length = L := ⟨_, rfl⟩
 rw [hL] at HSUM HLL ⊢
 have HL := Aside0.mk hL
 clear h hP hst hsum hL
 go_enter Try.func83, Try.ntmps83
 have HB0 := Aside0.mk (below_alloc (Below.refl w.heap.size w) (.cells #[.slice A0 old.length c0, .int .i64 (nn : Int), .slice A2 ss.length c2, .slice A3 js.length c3] 69))
 have B10 := Aside0.mk (Blk.new w [.slice A0 old.length c0, .int .i64 (nn : Int), .slice A2 ss.length c2, .slice A3 js.length c3] 69)
 have hsz0 : w.heap.size < (w.alloc (.cells #[.slice A0 old.length c0, .int .i64 (nn : Int), .slice A2 ss.length c2, .slice A3 js.length c3] 69)).heap.size := by simp
 go_wp2_with ((with_reducible refine gate_dst (N := 8) rfl ?_); refine Kd.R_make (Kd.int .i64) (w0 := w) w.heap.size 3 rfl rfl 26 (.tmp 7) (.tmp 7) rfl (nn : Int) rfl rfl Try.underlying26 (.int .i64 0) 8 info3 rfl (by decide) (by decide) (0 : Int) (ok := fun _ => True) (okp := fun _ => False) rfl (fun _ h => h.elim) trivial (by omega) (by simp only [Int.toNat_natCast]; omega) HB0.out (by omega) ?_; intro vo w1 hon hbn hgn hatn; simp only [Int.toNat_natCast] at hon; have HO1 := Aside0.mk hon; have HB1 := Aside0.mk hbn; have B11 := Aside0.mk (B10.out.move (hgn.block _ (by omega) (fun e => by cases e))); have h10 := B11.out.cell 0; have h11 := B11.out.cell 1; have h12 := B11.out.cell 2; have h13 := B11.out.cell 3; simp only [sb3, sb4] at h10 h11 h12 h13; obtain ⟨go, co, rfl, _⟩ := num_at HO1.out 0 (by simp only [List.length_replicate]; omega); clear hon hbn hgn hatn)
 have hgo := (Kd.R_bound HO1.out).1 go (by simp [Value.ownBlock])
 have hgo2 := hgo.2.2.1
 have hgo1 : w.heap.size ≤ go := hgo.2.1
 have hgne : go ≠ w.heap.size := fun e => by
  subst e
  obtain ⟨_, _, _, q, hq, cells, hk⟩ := hgo
  rw [show w1.heap[w.heap.size]? = _ from B11.out] at hk
  have hq' : q = 3 := by simpa [show (Kd.int IntKind.i64).E = [] from rfl] using hq
  subst hq'
  cases hk
 have HO := Aside0.mk (show (Kd.int .i64).R 3 w1 w.heap.size (fun k => some k = some go) (.slice (some ⟨go, 0, none⟩) nn co) (sumAt ss nn L 0) by
  have hx := Kd.R_tight rfl HO1.out
  simp only [List.length_replicate, Value.ownBlock] at hx
  exact hx)
 clear HB0 B10 hsz0 HO1 hgo
 refine (carried_calls (H.out.below HB1.out) hss hs0 ho4 HST.out P HP.out).mono ?_
 rintro e w2 ⟨⟨v10, rfl, hR⟩, hb⟩
 rw [HL.out] at hR
 have hll := HLL.out
 obtain ⟨b10, c10, rfl, _⟩ := num_at hR 0 (by rw [hll]; exact hs0)
 have hb10 := (Kd.R_bound hR).1 b10 (by simp [Value.ownBlock])
 have hb10l := hb10.2.1
 have hb10u := hb10.2.2.1
 have HR := Aside0.mk hR
 have HB2 := Aside0.mk (HB1.out.trans (hb.mono HB1.out.size))
 have B12 := Aside0.mk (B11.out.below hb)
 have HO2 := Aside0.mk (Kd.R_below HO.out hb)
 have hs2 := hb.size
 clear hR hb hb10 HB1 B11 HO h10 h11 h12 h13 hll
 have HR' := Aside0.mk (show (Kd.int .i64).R 3 w2 w1.heap.size (fun _ => True) (.slice (some ⟨b10, 0, none⟩) ss.length c10) L by have := HR.out; rw [HLL.out] at this; exact this)
 have hle := HLL.out
 rw [hle]
 clear hle HR
 go_wp2_with fail
 go_loopw [12] (fun v12 wr => ∃ k : Nat, k ≤ ss.length ∧ v12 = .int .i64 k ∧ w2.heap.size ≤ wr.heap.size ∧ Aside0 (Keep w2.heap.size (fun b => b = go) w2 wr) ∧ Aside0 ((Kd.int .i64).R 3 wr w.heap.size (fun k => some k = some go) (.slice (some ⟨go, 0, none⟩) nn co) (sumAt ss nn L k))) (fun v12 _ => ss.length - (intOf v12).toNat)
 case atStart => exact ⟨0, Nat.zero_le _, rfl, Nat.le_refl _, ⟨Keep.refl _ _ _⟩, HO2⟩
 case round =>
  clear HO2
  obtain ⟨k, hk, rfl, hsr, HK, HO⟩ := hrel
  have h12 := (HK.out.cell (p := ⟨w.heap.size, 2, none⟩) B12.out.lt (by simp only; omega)).trans (B12.out.cell 2)
  simp only [sb3, sb4] at h12
  have HBr := Aside0.mk (show Below w.heap.size w wr from ⟨HK.out.os.trans HB2.out.os, HK.out.tape.trans HB2.out.tape, HK.out.output.trans HB2.out.output, Nat.le_trans HB2.out.size HK.out.size, fun k hk => (HK.out.block k (by have := HB2.out.size; omega) (by omega)).trans (HB2.out.block k hk)⟩)
  by_cases hkl : k < ss.length
  ·have h10 := (HK.out.cell (p := ⟨b10, k, none⟩) hb10u (by simp only; omega)).trans (Kd.R_celln (0 : Int) HR'.out (k : Int) (by omega) (by omega)).1
   simp only [rdOf, Int.toNat_natCast] at h10
   obtain ⟨ad, e, _, hq1, _⟩ := at_T115 (H.out.below HBr.out).kst (k : Int) (by omega) (by omega)
   cases e
   simp only [Int.toNat_natCast] at hq1
   have hok := HST.out _ (street_mem ss k hkl)
   have hSU := HSUM.out k hkl
   have HSS := Aside0.mk (show sumAt ss nn L (k + 1) = (sumAt ss nn L k).set (enc_rd_Street ss k).f1.toNat ((sumAt ss nn L k).getD (enc_rd_Street ss k).f1.toNat 0 + L.getD k 0) from rfl)
   have hn0' := hok.n0
   have hn1' := hok.n1
   rw [show rd_T115 ss (k : Int) = enc_rd_Street ss k from rfl] at hq1
   obtain ⟨D, hD⟩ : ∃ D : Nat, (enc_rd_Street ss k).f1 = D := ⟨(enc_rd_Street ss k).f1.toNat, by omega⟩
   rw [hD] at hq1 hn1'
   rw [hD, Int.toNat_natCast] at hSU HSS
   have hDn : D < nn := by omega
   have hOc := (Kd.R_celln (0 : Int) HO.out (D : Int) (by omega) (by omega))
   simp only [rdOf, Int.toNat_natCast] at hOc
   obtain ⟨hOc1, hOc2⟩ := hOc
   obtain ⟨sv, hsv⟩ : ∃ x, (sumAt ss nn L k).getD D 0 = x := ⟨_, rfl⟩
   obtain ⟨lv, hlv⟩ : ∃ x, L.getD k 0 = x := ⟨_, rfl⟩
   rw [hsv, hlv] at hSU HSS
   rw [hsv] at hOc1
   rw [hlv] at h10
   have hwr : wrap64 (sv + lv) = sv + lv := IntWalk.wrap64_in _ (by omega)
   have HOn := Aside0.mk (Kd.R_putn HO.out (D : Int) (sv + lv))
   simp only [Int.toNat_natCast] at HOn
   have HKn := Aside0.mk (HK.out.setCell (p := ⟨go, D, none⟩) (.inl rfl) (.int .i64 (sv + lv)))
   have hsn : w2.heap.size ≤ (wr.setCell ⟨go, D, none⟩ (.int .i64 (sv + lv))).heap.size := by rw [size_set]; exact hsr
   clear hok hSU hn0' hD hsv hlv
   go_wp2_with fail
   exact ⟨⟨k + 1, by omega, by go_num, hsn, HKn, ⟨by rw [HSS.out]; exact HOn.out⟩⟩, by simp [intOf]; omega⟩
  ·obtain rfl : k = ss.length := by omega
   go_wp2_with fail
   go_ret
   exact ⟨⟨_, rfl, Kd.R_mono HO.out (fun _ _ => trivial)⟩, HBr.out⟩
set_option maxRecDepth 100000 in
set_option maxHeartbeats 40000000 in
/-- Carry of a map that is right, where each old district has two streets. -/
theorem Carry_calls {A0 : Option Addr} {c0 : Nat} {old : List Int} {nw : Int} {A2 : Option Addr} {c2 : Nat} {ss : List S115} {A3 : Option Addr} {c3 : Nat} {js : List S119} {w : World} (h : IsB w A0 c0 old A2 c2 ss A3 c3 js) (hc : chkB old nw ss js = 0) (P : Nat → Int × Int) (hP : TwoOf old ss P) (hsum : SumOk ss nw.toNat (carAt ss P old.length)) :
  Calls Try.prog 46 #[.agg #[.slice A0 old.length c0, .int .i64 nw, .slice A2 ss.length c2, .slice A3 js.length c3]] w fun e w' => (∃ v1 v2, e = .returned (.tuple #[v1, v2, .int .i64 0]) ∧ (Kd.int .i64).R 3 w' w.heap.size (fun _ => True) v1 (carAt ss P old.length) ∧ (Kd.int .i64).R 3 w' w.heap.size (fun _ => True) v2 (sumAt ss nw.toNat (carAt ss P old.length) ss.length)) ∧ Below w.heap.size w w' := by
 obtain ⟨ho0, ho4, hs0, hs8, hj, hol, hn1, hn4, hst, hwe, hjo⟩ := chkB_ok hc
 have H := Aside0.mk h
 have HP := Aside0.mk hP
 have HST := Aside0.mk hst
 have HSUM := Aside0.mk hsum
 have HC := Aside0.mk hc
 clear h hP hst hsum hc hol hwe hjo hj ho0
 go_enter Try.func46, Try.ntmps46
 go_wp2_with fail
 have hb0 := below_alloc (Below.refl w.heap.size w) (.cells #[.slice A0 old.length c0, .int .i64 nw, .slice A2 ss.length c2, .slice A3 js.length c3] 69)
 have B0 := Blk.new w [.slice A0 old.length c0, .int .i64 nw, .slice A2 ss.length c2, .slice A3 js.length c3] 69
 refine (CheckMap_calls (H.out.below hb0)).mono ?_
 rintro e w1 ⟨rfl, hb1⟩
 rw [HC.out]
 have B1 := Aside0.mk (B0.below hb1)
 have HB1 := Aside0.mk (hb0.trans (hb1.mono (by simp)))
 have h10 := B1.out.cell 0
 have h11 := B1.out.cell 1
 have h12 := B1.out.cell 2
 have h13 := B1.out.cell 3
 simp only [sb3, sb4] at h10 h11 h12 h13
 clear hb0 hb1 B0
 go_wp2_with fail
 refine start_ (n := 7) (S := fun w' => w'.cell? ⟨w.heap.size, 0, none⟩ = some (.slice A0 old.length c0) ∧ w'.cell? ⟨w.heap.size, 1, none⟩ = some (.int .i64 nw) ∧ w'.cell? ⟨w.heap.size, 2, none⟩ = some (.slice A2 ss.length c2) ∧ w'.cell? ⟨w.heap.size, 3, none⟩ = some (.slice A3 js.length c3)) (ds := [3]) #[O,O,O,O,O,O,O] (by kernel_rfl) rfl rfl ⟨h10, h11, h12, h13⟩ (fun hHeld => ?_); refine with_tabW cy.tab4 cy.bits4 (fun HT_ HW_ => ?_)
 have HBd := Aside0.mk (below_drew HB1.out)
 have B1d := Aside0.mk (B1.out.move rfl : Blk w1.drew _ _ _)
 clear HB1 B1 h10 h11 h12 h13
 generalize w1.drew = wd at HBd B1d hHeld ⊢
 refine ta_ 0 11 #[I,O,O,O,O,O,O] HT_ HW_ hHeld (hy := by (rintro w' ⟨s0, s1, s2, s3⟩; go_simp; with_reducible rfl)) (h := ?_)
 refine ta_ 2 13 #[I,O,I,O,O,O,O] HT_ HW_ hHeld (hy := by (rintro w' ⟨s0, s1, s2, s3⟩; go_simp; with_reducible rfl)) (h := ?_)
 refine one_ (i := 1) (N := some 12) #[I,I,I,O,O,O,O] rfl rfl (one_of HT_.out (by kernel_rfl)) (by decide) (fun K hK => ?_)
 refine goes_ Try.func82 (by kernel_rfl) rfl #[.agg #[.slice A0 old.length c0, .int .i64 nw, .slice A2 ss.length c2, .slice A3 js.length c3]] (by rfl) rfl rfl (by (try simp only [List.map_toArray, List.map_cons, List.map_nil]); rfl) ?_
 refine (carried_calls (nw := nw) (js := js) (H.out.below HBd.out) hs8 hs0 ho4 HST.out P HP.out).mono ?_
 rintro e_ w_ ⟨⟨vc, rfl, hRc⟩, hbx⟩
 refine ⟨_, rfl, hK.out _ _ ⟨(by simpa using (B1d.out.below hbx).cell 0), (by simpa using (B1d.out.below hbx).cell 1), (by simpa using (B1d.out.below hbx).cell 2), (by simpa using (B1d.out.below hbx).cell 3)⟩ (fun hHeld => ?_)⟩
 clear hK K
 have HRc2 := Aside0.mk (Kd.R_lower hRc HBd.out.size)
 have HB2 := Aside0.mk (HBd.out.trans (hbx.mono HBd.out.size))
 clear hbx hRc HBd B1d
 refine norm_ (by simp only [Act.put, sb0, sb1, sb2]; rfl) ?_
 refine last_ (i := 3) (N := some 14) #[I,I,I,I,O,O,O] rfl rfl (one_of HT_.out (by kernel_rfl)) (by decide) (fun K hK => ?_)
 refine goes_ Try.func83 (by kernel_rfl) rfl #[.agg #[.slice A0 old.length c0, .int .i64 nw, .slice A2 ss.length c2, .slice A3 js.length c3]] (by rfl) rfl rfl (by (try simp only [List.map_toArray, List.map_cons, List.map_nil]); rfl) ?_
 refine (summed_calls (nw := nw) (js := js) (H.out.below HB2.out) hs8 hs0 ho4 HST.out P HP.out nw.toNat (by omega) (by omega) (by omega) HSUM.out).mono ?_
 rintro e_ w_ ⟨⟨vs, rfl, hRs⟩, hbx⟩
 refine ⟨_, rfl, hK.out _ _ ?_⟩
 clear hK K
 have HRc := Aside0.mk (Kd.R_below HRc2.out hbx)
 have HRs := Aside0.mk (Kd.R_lower hRs HB2.out.size)
 have HB3 := Aside0.mk (HB2.out.trans (hbx.mono HB2.out.size))
 clear hbx hRs HB2 HRc2
 refine norm_ (by simp only [Act.put, sb0, sb1, sb2]; rfl) ?_
 refine pu_ 4 2 #[I,I,I,I,I,O,O] HT_ (h := ?_)
 refine pu_ 5 3 #[I,I,I,I,I,I,O] HT_ (h := ?_)
 refine pu_ 6 4 #[I,I,I,I,I,I,I] HT_ (h := ?_)
 refine done_ (done_of HT_.out (by kernel_rfl)) ?_
 go_wp2_with fail
 go_ret3
 exact ⟨⟨_, _, rfl, HRc.out, HRs.out⟩, HB3.out⟩
end Go.Proofs.Ytiddkceahbnolaa
namespace Go.Proofs.Ytiddkceahbnolaa
open Go.RowKit Go.Shelf Go.Proofs.Ytiddkceahbnolaa.PBorderOrder Go.Proofs.YtiddkceahbnolaaW.PrintWords Go.Proofs.YtiddkceahbnolaaW.PrintLast Go.Proofs.YtiddkceahbnolaaW.PrintMore
set_option linter.all false
attribute [local go_sem] max2_int max_two
def of.T8 : Bool × List (List Nat × List Nat) := (true, [([], []), ([], []), ([], []), ([1, 2], [1, 2]), ([3], [3]), ([4], [4]), ([], []), ([5, 6], [5, 6]), ([], []), ([], []), ([], []), ([9, 10], [9, 10]), ([11], [11]), ([12], [12]), ([8, 13], [8, 13]), ([7, 14], [7, 14]), ([15], [15]), ([0, 16], [0, 16]), ([17, 17, 0, 1, 2, 3, 4, 5, 6, 7, 8, 9, 10, 11, 12, 13, 14, 15, 16, 17], [0, 17])])
def of.B8 : List Nat := [0, 0, 0, 6, 14, 30, 0, 126, 0, 0, 0, 1536, 3584, 7680, 16128, 32766, 65534, 131071, 262143]
theorem of.tab8 : rtab .any (opsOf Try.f48 8) = of.T8 := by kernel_rfl
theorem of.bits8 : waitsOk of.T8.2 of.B8 = true := by kernel_rfl
def offAt (B : List S71) (S : List Int) (k : Nat) : List Int := (List.range k).map (fun d => max ((B.getD d z71).f1 - S.getD d 0) (S.getD d 0 - (B.getD d z71).f0))
theorem offAt_succ (B : List S71) (S : List Int) (k : Nat) : offAt B S (k + 1) = offAt B S k ++ [max ((B.getD k z71).f1 - S.getD k 0) (S.getD k 0 - (B.getD k z71).f0)] := by
 unfold offAt
 rw [List.range_succ, List.map_append]
 rfl
theorem offAt_len (B : List S71) (S : List Int) (k : Nat) : (offAt B S k).length = k := by simp [offAt]
/-- Bounds and sums stay small. -/
def OffOk (B : List S71) (S : List Int) (nn : Nat) : Prop := ∀ d, d < nn → -1000000 < (B.getD d z71).f0 ∧ (B.getD d z71).f0 < 1000000 ∧ -1000000 < (B.getD d z71).f1 ∧ (B.getD d z71).f1 < 1000000 ∧ 0 ≤ S.getD d 0 ∧ S.getD d 0 < 1000000
set_option maxRecDepth 100000 in
set_option maxHeartbeats 40000000 in
theorem Off_calls {A0 : Option Addr} {c0 : Nat} {old : List Int} {nw : Int} {A2 : Option Addr} {c2 : Nat} {ss : List S115} {A3 : Option Addr} {c3 : Nat} {js : List S119} {w : World} (h : IsB w A0 c0 old A2 c2 ss A3 c3 js) (hc : consE old nw ss js = 0) (P : Nat → Int × Int) (hP : TwoOf old ss P) (hsum : SumOk ss nw.toNat (carAt ss P old.length)) (hoff : OffOk (boundsAt old ss nw.toNat) (sumAt ss nw.toNat (carAt ss P old.length) ss.length) nw.toNat) :
  Calls Try.prog 48 #[.agg #[.slice A0 old.length c0, .int .i64 nw, .slice A2 ss.length c2, .slice A3 js.length c3]] w fun e w' => (∃ v, e = .returned (.tuple #[v, .int .i64 0]) ∧ (Kd.int .i64).R 3 w' w.heap.size (fun _ => True) v (offAt (boundsAt old ss nw.toNat) (sumAt ss nw.toNat (carAt ss P old.length) ss.length) nw.toNat)) ∧ Below w.heap.size w w' := by
 obtain ⟨ho0, ho4, hs0, hs8, hj, hol, hn1, hn4, hst, hwe, hjo⟩ := chkB_ok (consE_chk hc)
 obtain ⟨nn, hnn⟩ : ∃ n : Nat, nw = n := ⟨nw.toNat, by omega⟩
 have HSL := Aside0.mk (sumAt_len ss nw.toNat (carAt ss P old.length) ss.length)
 have HBL := Aside0.mk (boundsAt_len old ss nw.toNat)
 have HBF := Aside0.mk (show boundsF old nw ss js = (boundsAt old ss nw.toNat, 0) by unfold boundsF; rw [if_pos hc])
 obtain ⟨Bs, hBs⟩ : ∃ b, boundsAt old ss nw.toNat = b := ⟨_, rfl⟩
 obtain ⟨Ss, hSs⟩ : ∃ s, sumAt ss nw.toNat (carAt ss P old.length) ss.length = s := ⟨_, rfl⟩
 rw [hBs] at HBF HBL hoff ⊢
 rw [hSs] at HSL hoff ⊢
 have HSS := Aside0.mk hSs
 have H := Aside0.mk h
 have HP := Aside0.mk hP
 have HST := Aside0.mk hst
 have HSUM := Aside0.mk hsum
 have HOK := Aside0.mk hoff
 have HNN := Aside0.mk hnn
 have HN2 := Aside0.mk (show nw.toNat = nn by omega)
 rw [HN2.out] at HSL HBL HOK ⊢
 clear h hP hst hsum hc hol hwe hjo hj ho0 hoff hBs hSs
 have hnn4 : nn ≤ 4 := by omega
 have hnn1 : 1 ≤ nn := by omega
 clear hnn
 go_enter Try.func48, Try.ntmps48
 go_wp2_with fail
 have hb0 := below_alloc (Below.refl w.heap.size w) (.cells #[.slice A0 old.length c0, .int .i64 nw, .slice A2 ss.length c2, .slice A3 js.length c3] 69)
 have B0 := Blk.new w [.slice A0 old.length c0, .int .i64 nw, .slice A2 ss.length c2, .slice A3 js.length c3] 69
 refine (Bounds_calls (H.out.below hb0)).mono ?_
 rintro e w1 ⟨⟨v1, rfl, hR1⟩, hb1⟩
 rw [HBF.out] at hR1 ⊢
 have B1 := Aside0.mk (B0.below hb1)
 have HB1 := Aside0.mk (hb0.trans (hb1.mono (by simp)))
 obtain ⟨A1, c1, rfl, hl1, hC1⟩ := Kd.R_reads hR1
 have HC1 := Aside0.mk hC1
 have h10 := B1.out.cell 0
 have h11 := B1.out.cell 1
 have h12 := B1.out.cell 2
 have h13 := B1.out.cell 3
 simp only [sb3, sb4] at h10 h11 h12 h13
 clear hb0 hb1 B0 hR1 hC1
 go_wp2_with fail
 refine (summed_calls (nw := nw) (js := js) (H.out.below HB1.out) hs8 hs0 ho4 HST.out P HP.out nw.toNat (by omega) (by omega) (by omega) HSUM.out).mono ?_
 rintro e w2 ⟨⟨v2, rfl, hR2⟩, hb2⟩
 rw [HSS.out] at hR2
 obtain ⟨A2', c2', rfl, hl2, hC2⟩ := Kd.R_reads hR2
 have HC2 := Aside0.mk hC2
 have HC1b := Aside0.mk (Kd.C_below HC1.out hb2)
 have HB2 := Aside0.mk (HB1.out.trans (hb2.mono HB1.out.size))
 clear hR2 hC2 hb2 HC1 HB1 B1 h10 h11 h12 h13
 rw [HSL.out] at HC2 ⊢
 go_wp2_with fail
 go_loopw [6, 20] (fun v6 v20 wr => ∃ k : Nat, k ≤ nn ∧ v20 = .int .i64 k ∧ Aside0 (Below w2.heap.size w2 wr) ∧ w2.heap.size ≤ wr.heap.size ∧ Aside0 ((Kd.int .i64).R 3 wr w2.heap.size (fun b => w2.heap.size ≤ b) v6 (offAt Bs Ss k))) (fun _ v20 _ => nn - (intOf v20).toNat)
 case atStart => exact ⟨0, Nat.zero_le _, rfl, ⟨Below.refl _ _⟩, Nat.le_refl _, ⟨Kd.R_nil _ _ _ _ _⟩⟩
 case round =>
  obtain ⟨k, hk, rfl, HB, hsr, HR⟩ := hrel
  by_cases hkl : k < nn
  ·have HSU := Aside0.mk (offAt_succ Bs Ss k)
   have HLE := Aside0.mk (offAt_len Bs Ss k)
   obtain ⟨ad, e, hx⟩ := Kd.at_int (Kd.C_below HC2.out HB.out) (k : Int) (by omega) (by omega)
   cases e
   simp only [Int.toNat_natCast] at hx
   rw [show rd Ss (k : Int) = Ss.getD k 0 from by simp [rd]] at hx
   have hbl := HBL.out
   obtain ⟨ab, e, hq0, hq1⟩ := at_T71 (Kd.C_below HC1b.out HB.out) (k : Int) (by omega) (by omega)
   cases e
   clear hbl
   simp only [Int.toNat_natCast] at hq0 hq1
   rw [show rd_T71 Bs (k : Int) = Bs.getD k z71 from by simp [rd_T71]] at hq0 hq1
   obtain ⟨o1, o2, o3, o4, o5, o6⟩ := HOK.out k hkl
   obtain ⟨n, hn⟩ : ∃ x, Ss.getD k 0 = x := ⟨_, rfl⟩
   obtain ⟨bl, hbl⟩ : ∃ x, (Bs.getD k z71).f0 = x := ⟨_, rfl⟩
   obtain ⟨bh, hbh⟩ : ∃ x, (Bs.getD k z71).f1 = x := ⟨_, rfl⟩
   rw [hn] at hx HSU o5 o6
   rw [hbl] at hq0 HSU o1 o2
   rw [hbh] at hq1 HSU o3 o4
   clear hn hbl hbh
   have hw1 : wrap64 (bh - n) = bh - n := IntWalk.wrap64_in _ (by omega)
   have hw2 : wrap64 (n - bl) = n - bl := IntWalk.wrap64_in _ (by omega)
   have hkb : (k : Int) < Bs.length := by have := HBL.out; omega
   go_wp2_with fail
   refine start_ (n := 19) (S := fun w' => w'.cell? ⟨(ab.add (k * 2)).block, (ab.add (k * 2)).off + 1, none⟩ = some (.int .i64 bh) ∧ w'.cell? (ab.add (k * 2)) = some (.int .i64 bl)) (ds := [16, 17]) #[O,O,O,O,O,O,O,O,O,O,O,O,O,O,O,O,O,O,O] (by kernel_rfl) rfl rfl ⟨hq1, hq0⟩ (fun hHeld => ?_); refine with_tabW of.tab8 of.bits8 (fun HT_ HW_ => ?_)
   have HBd := Aside0.mk (show Below w2.heap.size w2 wr.drew from below_drew HB.out)
   have HRd := Aside0.mk (Kd.R_drew HR.out)
   have hsd : w2.heap.size ≤ wr.drew.heap.size := hsr
   clear HB HR hsr hq0 hq1
   generalize wr.drew = wd at HBd HRd hsd hHeld ⊢
   refine pu_ 0 25 #[I,O,O,O,O,O,O,O,O,O,O,O,O,O,O,O,O,O,O] HT_ (h := ?_)
   refine pu_ 1 26 #[I,I,O,O,O,O,O,O,O,O,O,O,O,O,O,O,O,O,O] HT_ (h := ?_)
   refine pu_ 2 27 #[I,I,I,O,O,O,O,O,O,O,O,O,O,O,O,O,O,O,O] HT_ (h := ?_)
   refine pu_ 3 28 #[I,I,I,I,O,O,O,O,O,O,O,O,O,O,O,O,O,O,O] HT_ (h := ?_)
   refine pu_ 4 29 #[I,I,I,I,I,O,O,O,O,O,O,O,O,O,O,O,O,O,O] HT_ (h := ?_)
   refine ta_ 5 30 #[I,I,I,I,I,I,O,O,O,O,O,O,O,O,O,O,O,O,O] HT_ HW_ hHeld (hy := by (rintro w' ⟨s0, s1⟩; go_simp; with_reducible rfl)) (h := ?_)
   refine pu_ 6 31 #[I,I,I,I,I,I,I,O,O,O,O,O,O,O,O,O,O,O,O] HT_ (h := ?_)
   refine pu_ 7 32 #[I,I,I,I,I,I,I,I,O,O,O,O,O,O,O,O,O,O,O] HT_ (h := ?_)
   refine pu_ 8 33 #[I,I,I,I,I,I,I,I,I,O,O,O,O,O,O,O,O,O,O] HT_ (h := ?_)
   refine pu_ 9 34 #[I,I,I,I,I,I,I,I,I,I,O,O,O,O,O,O,O,O,O] HT_ (h := ?_)
   refine pu_ 10 35 #[I,I,I,I,I,I,I,I,I,I,I,O,O,O,O,O,O,O,O] HT_ (h := ?_)
   refine pu_ 11 36 #[I,I,I,I,I,I,I,I,I,I,I,I,O,O,O,O,O,O,O] HT_ (h := ?_)
   refine pu_ 12 37 #[I,I,I,I,I,I,I,I,I,I,I,I,I,O,O,O,O,O,O] HT_ (h := ?_)
   refine ta_ 13 38 #[I,I,I,I,I,I,I,I,I,I,I,I,I,I,O,O,O,O,O] HT_ HW_ hHeld (hy := by (rintro w' ⟨s0, s1⟩; go_simp; with_reducible rfl)) (h := ?_)
   refine pu_ 14 39 #[I,I,I,I,I,I,I,I,I,I,I,I,I,I,I,O,O,O,O] HT_ (h := ?_)
   refine pure_ (i := 15) (N := some 40) (v := .int .i64 (max (bh - n) (n - bl))) (a' := ?_) #[I,I,I,I,I,I,I,I,I,I,I,I,I,I,I,I,O,O,O] rfl rfl (any_of HT_.out (by kernel_rfl)) (fun _ _ _ h => h) (Or.inl ⟨by rfl, ?_⟩) ?_ ?_
   ·intro w'
    go_simp
    exact max_if _ _
   rotate_left
   ·simp only [Act.put, sb0, sb1, sb2, i64_w, i32_w]
    rfl
   refine last_ (i := 16) (N := some 41) #[I,I,I,I,I,I,I,I,I,I,I,I,I,I,I,I,I,O,O] rfl rfl (one_of HT_.out (by kernel_rfl)) (by decide) (fun K hK => ?_)
   refine value_ (w1 := ?_) (v := ?_) (by rfl) rfl ?_ ?_
   rotate_left 2
   ·go_simp
    constructor <;> rfl
   refine hK.out _ _ ?_
   clear hK K
   refine norm_ (by simp only [Act.put, sb0, sb1, sb2]; rfl) ?_
   refine last_ (i := 17) (N := some 42) #[I,I,I,I,I,I,I,I,I,I,I,I,I,I,I,I,I,I,O] rfl rfl (one_of HT_.out (by kernel_rfl)) (by decide) (fun K hK => ?_)
   refine Kd.R_append_step (Kd.int .i64) (w0 := wd) w2.heap.size (by rfl) (.tmp 25) (.tmp 41) 26 3 (.int .i64 0) 8 rfl Try.underlying26 info3 rfl (by decide) (by omega) u6 (offAt Bs Ss k) (max (bh - n) (n - bl)) [.int .i64 (max (bh - n) (n - bl))] (fun b => w2.heap.size ≤ b) (fun _ => False) rfl rfl rfl (fun _ hk => hk.elim) (fun b hb => Nat.le_trans hsd hb) HRd.out (Below.refl _ _) hsd (by rw [HLE.out]; omega) ?_
   intro vn wn hon hbn hgn hatn
   have HRn := Aside0.mk hon
   have HBn := Aside0.mk (HBd.out.trans (hbn.mono (Nat.le_refl _)))
   have hsn := Nat.le_trans hsd hbn.size
   clear hon hbn hgn hatn
   refine hK.out _ _ ?_
   clear hK K
   refine norm_ (by simp only [Act.put, sb0, sb1, sb2]; rfl) ?_
   refine pu_ 18 6 #[I,I,I,I,I,I,I,I,I,I,I,I,I,I,I,I,I,I,I] HT_ (h := ?_)
   refine done_ (done_of HT_.out (by kernel_rfl)) ?_
   go_wp2_with fail
   exact ⟨⟨k + 1, by omega, by go_num, HBn, hsn, ⟨by rw [HSU.out]; exact HRn.out⟩⟩, by simp [intOf]; omega⟩
  ·obtain rfl : k = nn := by omega
   go_wp2_with fail
   go_ret2
   have h2 := HB2.out.size
   exact ⟨⟨_, rfl, Kd.R_mono (Kd.R_lower HR.out h2) (fun _ _ => trivial)⟩, HB2.out.trans (HB.out.mono h2)⟩
end Go.Proofs.Ytiddkceahbnolaa
