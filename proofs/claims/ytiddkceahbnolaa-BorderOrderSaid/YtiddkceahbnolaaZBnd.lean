/- border's Bounds: the bounds of all new districts. -/
import Derived.Test.YtiddkceahbnolaaZSize
import Derived.Test.YtiddkceahbnolaaWMore
namespace Go.Proofs.Ytiddkceahbnolaa
open Go.RowKit Go.Shelf Go.Proofs.Ytiddkceahbnolaa.PBorderOrder Go.Proofs.YtiddkceahbnolaaW.PrintWords Go.Proofs.YtiddkceahbnolaaW.PrintLast
set_option linter.all false
theorem infoRange : (Try.prog.info? 71).map (fun i => (i.zero, i.size, i.bytes)) = some (some (.agg #[.int .i64 0, .int .i64 0]), 2, 16) := by kernel_rfl
theorem streets1_calls {g1 : Nat} {i : Int} {w : World} (h1 : Blk w g1 [.int .i64 i] 3) (x : Nat) :
  Calls Try.prog 52 (#[.int .i64 (x : Int)] ++ #[.pointer (some ⟨g1, 0, none⟩)]) w fun e w' => e = .returned (.bool ((x : Int) == i)) ∧ Below w.heap.size w w' := by
 simp only [List.append_toArray, List.nil_append, List.cons_append]
 have hd := h1.cell 0
 simp only [List.getElem?_cons_zero] at hd
 have hl1 := h1.lt
 clear h1
 go_enter Try.func52, Try.ntmps52
 go_wp2_with fail
 go_ret
 exact ⟨rfl, rfl, rfl, rfl, Nat.le_refl _, fun _ _ => rfl⟩
def mkR (p : Int × Int) : S71 := ⟨p.1, p.2⟩
def streetsAt (old : List Int) (ss : List S115) (k : Nat) : List S71 := (List.range k).map (fun i : Nat => mkR (partF old ss (enc_rd_Street ss i).f0 (fun x => x == (i : Int))))
theorem streetsAt_succ (old : List Int) (ss : List S115) (k : Nat) : streetsAt old ss (k + 1) = streetsAt old ss k ++ [mkR (partF old ss (enc_rd_Street ss k).f0 (fun x => x == (k : Int)))] := by
 unfold streetsAt
 rw [List.range_succ, List.map_append]
 rfl
theorem streetsAt_len (old : List Int) (ss : List S115) (k : Nat) : (streetsAt old ss k).length = k := by simp [streetsAt]
def streetsF (old : List Int) (nw : Int) (ss : List S115) (js : List S119) : List S71 × Int := if consE old nw ss js = 0 then (streetsAt old ss ss.length, 0) else ([], consE old nw ss js)
theorem consE_chk {old : List Int} {nw : Int} {ss : List S115} {js : List S119} (h : consE old nw ss js = 0) : chkB old nw ss js = 0 := by
 unfold consE at h
 by_cases hc : chkB old nw ss js = 0
 ·exact hc
 ·rw [if_neg hc] at h
  exact absurd h hc
set_option maxRecDepth 100000 in
set_option maxHeartbeats 40000000 in
theorem Streets_calls {A0 : Option Addr} {c0 : Nat} {old : List Int} {nw : Int} {A2 : Option Addr} {c2 : Nat} {ss : List S115} {A3 : Option Addr} {c3 : Nat} {js : List S119} {w : World} (h : IsB w A0 c0 old A2 c2 ss A3 c3 js) :
  Calls Try.prog 19 #[.agg #[.slice A0 old.length c0, .int .i64 nw, .slice A2 ss.length c2, .slice A3 js.length c3]] w fun e w' => (∃ v, e = .returned (.tuple #[v, .int .i64 (streetsF old nw ss js).2]) ∧ k71.R 71 w' w.heap.size (fun _ => True) v (streetsF old nw ss js).1) ∧ Below w.heap.size w w' := by
 have H := Aside0.mk h
 clear h
 go_enter Try.func19, Try.ntmps19
 go_wp2_with fail
 have hb0 := below_alloc (Below.refl w.heap.size w) (.cells #[.slice A0 old.length c0, .int .i64 nw, .slice A2 ss.length c2, .slice A3 js.length c3] 69)
 have B0 := Blk.new w [.slice A0 old.length c0, .int .i64 nw, .slice A2 ss.length c2, .slice A3 js.length c3] 69
 refine (consistent_calls (H.out.below hb0)).mono ?_
 rintro e w1 ⟨rfl, hb1⟩
 have B1 := Aside0.mk (B0.below hb1)
 have HB1 := Aside0.mk (hb0.trans (hb1.mono (by simp)))
 have h10 := B1.out.cell 0
 have h11 := B1.out.cell 1
 have h12 := B1.out.cell 2
 have h13 := B1.out.cell 3
 simp only [sb3, sb4] at h10 h11 h12 h13
 clear hb0 hb1 B0
 by_cases hc : consE old nw ss js = 0
 rotate_left
 ·have hcb : (consE old nw ss js != 0) = true := by simp [hc]
  go_wp2_with fail
  have hfew : streetsF old nw ss js = ([], consE old nw ss js) := by unfold streetsF; rw [if_neg hc]
  go_ret2
  rw [hfew]
  exact ⟨⟨_, rfl, Kd.R_nil _ _ _ _ _⟩, HB1.out⟩
 obtain ⟨ho0, ho4, hs0, hs8, hj, hol, hn1, hn4, hst, hwe, hjo⟩ := chkB_ok (consE_chk hc)
 have HF := Aside0.mk (show streetsF old nw ss js = (streetsAt old ss ss.length, 0) by unfold streetsF; rw [if_pos hc])
 have HST := Aside0.mk hst
 have HOL := Aside0.mk hol
 have hcb : (consE old nw ss js != 0) = false := by simp [hc]
 rw [hc]
 clear hc hst hol hwe hjo hn1 hn4 hj hcb
 go_wp2_with fail
 clear h10 h11 h12 h13
 have hs1 := HB1.out.size
 go_loopw [5, 16] (fun v5 v16 wr => ∃ k : Nat, k ≤ ss.length ∧ v16 = .int .i64 k ∧ Aside0 (Below w.heap.size w wr) ∧ Aside0 (Blk wr w.heap.size [.slice A0 old.length c0, .int .i64 nw, .slice A2 ss.length c2, .slice A3 js.length c3] 69) ∧ w1.heap.size ≤ wr.heap.size ∧ Aside0 (k71.R 71 wr w1.heap.size (fun b => w1.heap.size ≤ b) v5 (streetsAt old ss k))) (fun _ v16 _ => ss.length - (intOf v16).toNat)
 case atStart => exact ⟨0, Nat.zero_le _, rfl, HB1, B1, Nat.le_refl _, ⟨Kd.R_nil _ _ _ _ _⟩⟩
 case round =>
  have hB1 : w.heap.size < w1.heap.size := B1.out.lt
  clear HB1 B1
  obtain ⟨k, hk, rfl, HB, B3, hsr, HR⟩ := hrel
  by_cases hkl : k < ss.length
  ·obtain ⟨ad, e, h0, h1, h2, h3, h4⟩ := at_T115 (H.out.below HB.out).kst (k : Int) (by omega) (by omega)
   cases e
   simp only [Int.toNat_natCast] at h0 h1 h2 h3 h4
   have hsu := streetsAt_succ old ss k
   have hle := streetsAt_len old ss k
   have hok := HST.out _ (street_mem ss k hkl)
   have hrr : enc_rd_Street ss k = rd_T115 ss (k : Int) := rfl
   rw [hrr] at hsu hok
   obtain ⟨r, hr⟩ : ∃ r, rd_T115 ss (k : Int) = r := ⟨_, rfl⟩
   rw [hr] at h0 h1 h2 h3 h4 hsu hok
   obtain ⟨d, hd⟩ : ∃ d : Nat, r.f0 = (d : Int) := ⟨r.f0.toNat, by have := hok.o0; omega⟩
   have hdl : d < old.length := by have := hok.o1; omega
   rw [hd] at hsu
   have HSU := Aside0.mk hsu
   have HD := Aside0.mk hd
   have HLE := Aside0.mk hle
   clear hsu hr hrr hok hd hle
   have HB4 := Aside0.mk (below_alloc (below_alloc HB.out (.cells #[.int .i64 (k : Int)] 3)) (.cells #[.int .i64 r.f0, .int .i64 r.f1, .int .i64 r.f2, .int .i64 r.f3.f0, .int .i64 r.f3.f1] 115))
   have B34 := Aside0.mk ((B3.out.alloc (.cells #[.int .i64 (k : Int)] 3)).alloc (.cells #[.int .i64 r.f0, .int .i64 r.f1, .int .i64 r.f2, .int .i64 r.f3.f0, .int .i64 r.f3.f1] 115))
   have B44 := Aside0.mk ((Blk.new wr [.int .i64 (k : Int)] 3).alloc (.cells #[.int .i64 r.f0, .int .i64 r.f1, .int .i64 r.f2, .int .i64 r.f3.f0, .int .i64 r.f3.f1] 115))
   have HR4 := Aside0.mk (Kd.R_alloc (Kd.R_alloc HR.out (.cells #[.int .i64 (k : Int)] 3)) (.cells #[.int .i64 r.f0, .int .i64 r.f1, .int .i64 r.f2, .int .i64 r.f3.f0, .int .i64 r.f3.f1] 115))
   have hs4 : w1.heap.size ≤ ((wr.alloc (.cells #[.int .i64 (k : Int)] 3)).alloc (.cells #[.int .i64 r.f0, .int .i64 r.f1, .int .i64 r.f2, .int .i64 r.f3.f0, .int .i64 r.f3.f1] 115)).heap.size := by simp; omega
   have hg := B3.out.lt
   have h30 := B3.out.cell 0
   have h31 := B3.out.cell 1
   have h32 := B3.out.cell 2
   have h33 := B3.out.cell 3
   simp only [sb3, sb4] at h30 h31 h32 h33
   go_wp2_with fail
   clear h0 h1 h2 h3 h4 h30 h31 h32 h33 HB HR B3
   generalize (wr.alloc (.cells #[.int .i64 (k : Int)] 3)).alloc (.cells #[.int .i64 r.f0, .int .i64 r.f1, .int .i64 r.f2, .int .i64 r.f3.f0, .int .i64 r.f3.f1] 115) = w4 at HB4 B34 B44 HR4 hs4 ⊢
   rw [HD.out]
   refine (part_calls (H.out.below HB4.out) hs8 HST.out HOL.out d hdl 52 #[.pointer (some ⟨wr.heap.size, 0, none⟩)] (enters Try.func52 (by kernel_rfl) rfl) (fun x => x == (k : Int)) (fun W x _ hW => streets1_calls (B44.out.below hW) x)).mono ?_
   rintro e w5 ⟨rfl, hb_⟩
   have HB5 := Aside0.mk (HB4.out.trans (hb_.mono HB4.out.size))
   have B35 := Aside0.mk (B34.out.below hb_)
   have HR5 := Aside0.mk (Kd.R_below HR4.out hb_)
   have hs5 := Nat.le_trans hs4 hb_.size
   obtain ⟨pp, hpp⟩ : ∃ p, partF old ss (d : Int) (fun x => x == (k : Int)) = p := ⟨_, rfl⟩
   rw [hpp] at HSU ⊢
   clear hb_ hpp HB4 B34 B44 HR4 hs4
   go_wp2_with ((with_reducible refine gate_builtin (b := .append) (xs := #[.tmp 21, .tmp 27]) rfl ?_); at_builtin; refine Kd.R_append k71 (w0 := w5) w1.heap.size rfl (.tmp 21) (.tmp 27) 63 71 (.agg #[.int .i64 0, .int .i64 0]) 16 rfl Try.underlying63 infoRange rfl (by decide) (by omega) u5 (streetsAt old ss k) (mkR pp) [.int .i64 pp.1, .int .i64 pp.2] (fun b => w1.heap.size ≤ b) (fun _ => False) rfl rfl ?aP (fun _ hk => hk.elim) ?aF ?aO ?aB ?aS ?aL ?_; (case aP => exact k71_mkM _ _ _ (mkR pp)); (case aF => exact (fun b hb => Nat.le_trans hs5 hb)); (case aO => exact HR5.out); (case aB => exact Below.refl _ _); (case aS => exact hs5); (case aL => rw [HLE.out]; omega); intro vn wn hon hbn hgn hatn; have HRn := Aside0.mk hon; have HBn := Aside0.mk (HB5.out.trans (hbn.mono hs1)); have Bn := Aside0.mk (B35.out.move (hbn.block _ (by omega))); have hsn := Nat.le_trans hs5 hbn.size; clear hon hbn hgn hatn)
   go_roundw
   case rel => exact ⟨k + 1, by omega, by go_num, HBn, Bn, hsn, ⟨by rw [HSU.out]; exact HRn.out⟩⟩
   case measure => simp [intOf]; omega
  ·obtain rfl : k = ss.length := by omega
   go_wp2_with fail
   go_ret2
   rw [HF.out]
   exact ⟨⟨_, rfl, Kd.R_mono (Kd.R_lower HR.out hs1) (fun _ _ => trivial)⟩, HB.out⟩
end Go.Proofs.Ytiddkceahbnolaa
namespace Go.Proofs.Ytiddkceahbnolaa
open Go.RowKit Go.Shelf Go.Proofs.Ytiddkceahbnolaa.PBorderOrder Go.Proofs.YtiddkceahbnolaaW.PrintWords Go.Proofs.YtiddkceahbnolaaW.PrintLast Go.Proofs.YtiddkceahbnolaaW.PrintMore
set_option linter.all false
def bo.T8 : Bool × List (List Nat × List Nat) := (true, [([], []), ([], []), ([], []), ([2], [2]), ([], []), ([1, 3, 4, 3], [1, 3, 4]), ([5], [5]), ([0, 6, 5], [0, 6]), ([7, 7, 0, 1, 2, 3, 4, 5, 6, 7], [0, 7])])
def bo.B8 : List Nat := [0, 0, 0, 4, 0, 30, 62, 127, 255]
theorem bo.tab8 : rtab .any (opsOf Try.f21 8) = bo.T8 := by kernel_rfl
theorem bo.bits8 : waitsOk bo.T8.2 bo.B8 = true := by kernel_rfl
def boundsAt (old : List Int) (ss : List S115) (k : Nat) : List S71 := (List.range k).map (fun d : Nat => mkR (sizeF old ss (ownL ss) (d : Int)))
theorem boundsAt_succ (old : List Int) (ss : List S115) (k : Nat) : boundsAt old ss (k + 1) = boundsAt old ss k ++ [mkR (sizeF old ss (ownL ss) (k : Int))] := by
 unfold boundsAt
 rw [List.range_succ, List.map_append]
 rfl
theorem boundsAt_len (old : List Int) (ss : List S115) (k : Nat) : (boundsAt old ss k).length = k := by simp [boundsAt]
def boundsF (old : List Int) (nw : Int) (ss : List S115) (js : List S119) : List S71 × Int := if consE old nw ss js = 0 then (boundsAt old ss nw.toNat, 0) else ([], consE old nw ss js)
set_option maxRecDepth 100000 in
set_option maxHeartbeats 40000000 in
theorem Bounds_calls {A0 : Option Addr} {c0 : Nat} {old : List Int} {nw : Int} {A2 : Option Addr} {c2 : Nat} {ss : List S115} {A3 : Option Addr} {c3 : Nat} {js : List S119} {w : World} (h : IsB w A0 c0 old A2 c2 ss A3 c3 js) :
  Calls Try.prog 21 #[.agg #[.slice A0 old.length c0, .int .i64 nw, .slice A2 ss.length c2, .slice A3 js.length c3]] w fun e w' => (∃ v, e = .returned (.tuple #[v, .int .i64 (boundsF old nw ss js).2]) ∧ k71.R 71 w' w.heap.size (fun _ => True) v (boundsF old nw ss js).1) ∧ Below w.heap.size w w' := by
 have H := Aside0.mk h
 clear h
 go_enter Try.func21, Try.ntmps21
 go_wp2_with fail
 have hb0 := below_alloc (Below.refl w.heap.size w) (.cells #[.slice A0 old.length c0, .int .i64 nw, .slice A2 ss.length c2, .slice A3 js.length c3] 69)
 have B0 := Blk.new w [.slice A0 old.length c0, .int .i64 nw, .slice A2 ss.length c2, .slice A3 js.length c3] 69
 refine (consistent_calls (H.out.below hb0)).mono ?_
 rintro e w1 ⟨rfl, hb1⟩
 have B1 := Aside0.mk (B0.below hb1)
 have HB1 := Aside0.mk (hb0.trans (hb1.mono (by simp)))
 have h10 := B1.out.cell 0
 have h11 := B1.out.cell 1
 have h12 := B1.out.cell 2
 have h13 := B1.out.cell 3
 simp only [sb3, sb4] at h10 h11 h12 h13
 clear hb0 hb1 B0
 by_cases hc : consE old nw ss js = 0
 rotate_left
 ·have hcb : (consE old nw ss js != 0) = true := by simp [hc]
  go_wp2_with fail
  have hfew : boundsF old nw ss js = ([], consE old nw ss js) := by unfold boundsF; rw [if_neg hc]
  go_ret2
  rw [hfew]
  exact ⟨⟨_, rfl, Kd.R_nil _ _ _ _ _⟩, HB1.out⟩
 obtain ⟨ho0, ho4, hs0, hs8, hj, hol, hn1, hn4, hst, hwe, hjo⟩ := chkB_ok (consE_chk hc)
 have HF := Aside0.mk (show boundsF old nw ss js = (boundsAt old ss nw.toNat, 0) by unfold boundsF; rw [if_pos hc])
 have HST := Aside0.mk hst
 have HOL := Aside0.mk hol
 have hcb : (consE old nw ss js != 0) = false := by simp [hc]
 rw [hc]
 clear hc hst hol hwe hjo hj hcb
 go_wp2_with fail
 clear h10 h11 h12 h13
 have hs1 := HB1.out.size
 obtain ⟨nn, hnn⟩ : ∃ n : Nat, nw.toNat = n := ⟨_, rfl⟩
 have HNW := Aside0.mk (show nw = (nn : Int) by omega)
 rw [hnn] at HF
 have hnn4 : nn ≤ 4 := by omega
 clear hn1 hn4 hnn
 go_loopw [5, 14] (fun v5 v14 wr => ∃ k : Nat, k ≤ nn ∧ v14 = .int .i64 k ∧ Aside0 (Below w.heap.size w wr) ∧ Aside0 (Blk wr w.heap.size [.slice A0 old.length c0, .int .i64 nw, .slice A2 ss.length c2, .slice A3 js.length c3] 69) ∧ w1.heap.size ≤ wr.heap.size ∧ Aside0 (k71.R 71 wr w1.heap.size (fun b => w1.heap.size ≤ b) v5 (boundsAt old ss k))) (fun _ v14 _ => nn - (intOf v14).toNat)
 case atStart => exact ⟨0, Nat.zero_le _, rfl, HB1, B1, Nat.le_refl _, ⟨Kd.R_nil _ _ _ _ _⟩⟩
 case round =>
  have hB1 : w.heap.size < w1.heap.size := B1.out.lt
  clear HB1 B1
  obtain ⟨k, hk, rfl, HB, B3, hsr, HR⟩ := hrel
  by_cases hkl : k < nn
  ·have hklb : decide ((k : Int) < nw) = true := by have := HNW.out; simp; omega
   have HSU := Aside0.mk (boundsAt_succ old ss k)
   have HLE := Aside0.mk (boundsAt_len old ss k)
   go_wp2_with fail
   refine start_ (n := 9) (S := fun w' => w'.cell? ⟨w.heap.size, 0, none⟩ = some (.slice A0 old.length c0) ∧ w'.cell? ⟨w.heap.size, 1, none⟩ = some (.int .i64 nw) ∧ w'.cell? ⟨w.heap.size, 2, none⟩ = some (.slice A2 ss.length c2) ∧ w'.cell? ⟨w.heap.size, 3, none⟩ = some (.slice A3 js.length c3)) (ds := [5, 6, 7]) #[O,O,O,O,O,O,O,O,O] (by kernel_rfl) rfl rfl ⟨(by simpa using B3.out.cell 0), (by simpa using B3.out.cell 1), (by simpa using B3.out.cell 2), (by simpa using B3.out.cell 3)⟩ (fun hHeld => ?_); refine with_tabW bo.tab8 bo.bits8 (fun HT_ HW_ => ?_)
   have HBd := Aside0.mk (below_drew HB.out)
   have B3d := Aside0.mk (B3.out.move rfl : Blk wr.drew _ _ _)
   have HRd := Aside0.mk (Kd.R_drew HR.out)
   have hsd : w1.heap.size ≤ wr.drew.heap.size := hsr
   clear HB B3 HR hsr
   generalize wr.drew = wd at HBd B3d HRd hsd hHeld ⊢
   refine pu_ 0 17 #[I,O,O,O,O,O,O,O,O] HT_ (h := ?_)
   refine ta_ 1 18 #[I,I,O,O,O,O,O,O,O] HT_ HW_ hHeld (hy := by (rintro w' ⟨s0, s1, s2, s3⟩; go_simp; with_reducible rfl)) (h := ?_)
   refine ta_ 2 19 #[I,I,I,O,O,O,O,O,O] HT_ HW_ hHeld (hy := by (rintro w' ⟨s0, s1, s2, s3⟩; go_simp; with_reducible rfl)) (h := ?_)
   refine pu_ 4 21 #[I,I,I,O,I,O,O,O,O] HT_ (h := ?_)
   refine one_ (i := 3) (N := some 20) #[I,I,I,I,I,O,O,O,O] rfl rfl (one_of HT_.out (by kernel_rfl)) (by decide) (fun K hK => ?_)
   refine goes_ Try.func55 (by kernel_rfl) rfl #[.agg #[.slice A0 old.length c0, .int .i64 nw, .slice A2 ss.length c2, .slice A3 js.length c3]] (by rfl) rfl rfl (by (try simp only [List.map_toArray, List.map_cons, List.map_nil]); rfl) ?_
   refine (own_calls (H.out.below HBd.out) hs8).mono ?_
   rintro e_ w_ ⟨rfl, hbx⟩
   refine ⟨_, rfl, hK.out _ _ ⟨(by simpa using (B3d.out.below hbx).cell 0), (by simpa using (B3d.out.below hbx).cell 1), (by simpa using (B3d.out.below hbx).cell 2), (by simpa using (B3d.out.below hbx).cell 3)⟩ (fun hHeld => ?_)⟩
   clear hK K
   have HBe := Aside0.mk (HBd.out.trans (hbx.mono HBd.out.size))
   have B3e := Aside0.mk (B3d.out.below hbx)
   have HRe := Aside0.mk (Kd.R_below HRd.out hbx)
   have hse := Nat.le_trans hsd hbx.size
   clear hbx HBd B3d HRd hsd
   refine norm_ (by simp only [Act.put, sb0, sb1, sb2]; rfl) ?_
   refine last_ (i := 5) (N := some 22) #[I,I,I,I,I,I,O,O,O] rfl rfl (one_of HT_.out (by kernel_rfl)) (by decide) (fun K hK => ?_)
   refine goes_ Try.func54 (by kernel_rfl) rfl #[.agg #[.slice A0 old.length c0, .int .i64 nw, .slice A2 ss.length c2, .slice A3 js.length c3], encL (ownL ss), .int .i64 (k : Int)] (by rfl) rfl rfl (by (try simp only [List.map_toArray, List.map_cons, List.map_nil]); rfl) ?_
   refine (size_calls (H.out.below HBe.out) hs8 HST.out HOL.out ho4 (ownL ss) (k : Int)).mono ?_
   rintro e_ w_ ⟨rfl, hbx⟩
   refine ⟨_, rfl, hK.out _ _ ?_⟩
   clear hK K
   have HBf := Aside0.mk (HBe.out.trans (hbx.mono HBe.out.size))
   have B3f := Aside0.mk (B3e.out.below hbx)
   have HRf := Aside0.mk (Kd.R_below HRe.out hbx)
   have hsf := Nat.le_trans hse hbx.size
   clear hbx HBe B3e HRe hse
   obtain ⟨pp, hpp⟩ : ∃ p, sizeF old ss (ownL ss) (k : Int) = p := ⟨_, rfl⟩
   rw [hpp] at HSU ⊢
   clear hpp
   refine norm_ (by simp only [Act.put, sb0, sb1, sb2]; rfl) ?_
   refine last_ (i := 6) (N := some 23) #[I,I,I,I,I,I,I,O,O] rfl rfl (one_of HT_.out (by kernel_rfl)) (by decide) (fun K hK => ?_)
   refine value_ (w1 := ?_) (v := ?_) (by rfl) rfl ?_ ?_
   rotate_left 2
   ·go_simp
    constructor <;> rfl
   refine hK.out _ _ ?_
   clear hK K
   refine norm_ (by simp only [Act.put, sb0, sb1, sb2]; rfl) ?_
   refine last_ (i := 7) (N := some 24) #[I,I,I,I,I,I,I,I,O] rfl rfl (one_of HT_.out (by kernel_rfl)) (by decide) (fun K hK => ?_)
   refine Kd.R_append_step k71 (w0 := w_) w1.heap.size (by rfl) (.tmp 17) (.tmp 23) 63 71 (.agg #[.int .i64 0, .int .i64 0]) 16 rfl Try.underlying63 infoRange rfl (by decide) (by omega) u5 (boundsAt old ss k) (mkR pp) [.int .i64 pp.1, .int .i64 pp.2] (fun b => w1.heap.size ≤ b) (fun _ => False) rfl rfl (k71_mkM _ _ _ (mkR pp)) (fun _ hk => hk.elim) (fun b hb => Nat.le_trans hsf hb) HRf.out (Below.refl _ _) hsf (by rw [HLE.out]; omega) ?_
   intro vn wn hon hbn hgn hatn
   have HRn := Aside0.mk hon
   have HBn := Aside0.mk (HBf.out.trans (hbn.mono hs1))
   have Bn := Aside0.mk (B3f.out.move (hbn.block _ (by omega)))
   have hsn := Nat.le_trans hsf hbn.size
   clear hon hbn hgn hatn
   refine hK.out _ _ ?_
   clear hK K
   refine norm_ (by simp only [Act.put, sb0, sb1, sb2]; rfl) ?_
   refine pu_ 8 5 #[I,I,I,I,I,I,I,I,I] HT_ (h := ?_)
   refine done_ (done_of HT_.out (by kernel_rfl)) ?_
   go_wp2_with fail
   go_roundw
   case rel => exact ⟨k + 1, by omega, by go_num, HBn, Bn, hsn, ⟨by rw [HSU.out]; exact HRn.out⟩⟩
   case measure => simp [intOf]; omega
  ·obtain rfl : k = nn := by omega
   have hklb : decide ((k : Int) < nw) = false := by have := HNW.out; simp; omega
   go_wp2_with fail
   go_ret2
   rw [HF.out]
   exact ⟨⟨_, rfl, Kd.R_mono (Kd.R_lower HR.out hs1) (fun _ _ => trivial)⟩, HB.out⟩
end Go.Proofs.Ytiddkceahbnolaa
