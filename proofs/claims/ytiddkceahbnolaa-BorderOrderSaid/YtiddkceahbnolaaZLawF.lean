/- border's law: its own code: the joins of the second map. -/
import Derived.Test.YtiddkceahbnolaaZLawA
namespace Go.Proofs.Ytiddkceahbnolaa
open Go.RowKit Go.Shelf Go.Proofs.Ytiddkceahbnolaa.PBorderOrder Go.Proofs.YtiddkceahbnolaaW.PrintWords Go.Proofs.YtiddkceahbnolaaW.PrintLast Go.Proofs.YtiddkceahbnolaaW.PrintMore
set_option linter.all false
def lf.T10 : Bool × List (List Nat × List Nat) := (true, [([], []), ([0], [0]), ([], []), ([], []), ([3], [3]), ([2, 4], [2, 4]), ([], []), ([6], [6]), ([7], [7]), ([5, 8], [5, 8]), ([1, 9], [1, 9]), ([10], [10]), ([], []), ([12, 11, 0, 1, 2, 3, 4, 5, 6, 7, 8, 9, 10, 11, 12], [11, 12])])
def lf.B10 : List Nat := [0, 1, 0, 0, 8, 28, 0, 64, 192, 508, 1023, 2047, 0, 8191]
theorem lf.tab10 : rtab .any (opsOf Try.f4 10) = lf.T10 := by kernel_rfl
theorem lf.bits10 : waitsOk lf.T10.2 lf.B10 = true := by kernel_rfl
def lf.T11 : Bool × List (List Nat × List Nat) := (true, [([], []), ([0], [0]), ([], []), ([1, 2], [1, 2]), ([], []), ([3, 4], [3, 4]), ([], []), ([5, 6], [5, 6]), ([], []), ([8], [8]), ([], []), ([9, 10], [9, 10]), ([], []), ([11, 12], [11, 12]), ([], []), ([13, 14], [13, 14]), ([0, 1, 2, 3, 4, 5, 6, 7, 8, 9], []), ([16, 7, 0, 1, 2, 3, 4, 5, 6, 7, 8, 9], [7, 16]), ([0, 1, 2, 3, 4, 5, 6, 7, 8, 9, 10, 11, 12, 13, 14, 15, 16, 17], []), ([18, 15, 17, 0, 1, 2, 3, 4, 5, 6, 7, 8, 9, 10, 11, 12, 13, 14, 15, 16, 17], [15, 18])])
def lf.B11 : List Nat := [0, 1, 0, 7, 0, 31, 0, 127, 0, 256, 0, 1792, 0, 7936, 0, 32512, 1023, 66559, 262143, 524287]
theorem lf.tab11 : rtab .any (opsOf Try.f4 11) = lf.T11 := by kernel_rfl
theorem lf.bits11 : waitsOk lf.T11.2 lf.B11 = true := by kernel_rfl
theorem infoRJoin : (Try.prog.info? 62).map (fun i => (i.zero, i.size, i.bytes)) = some (some (.agg #[.int .i64 0, .int .i64 0]), 2, 16) := by kernel_rfl
theorem own_ne {α : Type} {d : Kd α} {e base : Nat} {ok : Nat → Prop} {w : World} {v : Value} {l : List α} {g : Nat} {cs : List Value} {t : TypeId} (h : d.R e w base ok v l) (hb : Blk w g cs t) (ht : ∀ q, q ∈ e :: d.E → q ≠ t) : some g ≠ v.ownBlock := fun e_ =>
 ((Kd.R_types h hb ht).1 g e_.symm).2 rfl
def isSeq : Code → Bool
 | .seq _ _ => true
 | _ => false
theorem rightN_succ : ∀ (n : Nat) (c : Code), isSeq (rightN n c) = true → rightN n c = .seq (leftOf (rightN n c)) (rightN (n + 1) c)
 | 0, c, h => by cases c <;> first | rfl | cases h
 | n + 1, c, h => by
  cases c with
  | seq x y => exact rightN_succ n y h
  | _ => cases h
theorem law_step (n : Nat) {Q : Exit → Act → World → Prop} {a : Act} {w : World} (h : isSeq (lawT n) = true) (hh : ∀ K : Act → World → Prop, (∀ a' w', Code.wp Try.prog (lawT (n + 1)) Q a' w' → K a' w') → Code.wp Try.prog (leftOf (lawT n)) (Exit.then K Q) a w) : Code.wp Try.prog (lawT n) Q a w := by
 have e : lawT n = .seq (leftOf (lawT n)) (lawT (n + 1)) := rightN_succ n _ h
 rw [e]
 exact wp_seq_k hh
theorem len_snoc {α : Type} {xs : List α} {k : Nat} {r : α} (h : xs.length = k) : (xs ++ [r]).length = k + 1 := by simp [h]
theorem rem8 (k : Nat) : ∃ q : Nat, (k : Int).tmod 8 = (q : Int) ∧ IntKind.u64.wrap (q : Int) = (q : Int) := by
 refine ⟨k % 8, ?_, ?_⟩
 ·rw [Int.tmod_eq_emod_of_nonneg (by omega)]
  omega
 ·have : k % 8 < 8 := Nat.mod_lt _ (by omega)
  obtain ⟨q, hq⟩ : ∃ q, k % 8 = q := ⟨_, rfl⟩
  rw [hq] at this ⊢
  show (q : Int) % 18446744073709551616 = q
  omega
theorem ren_num {p n k : Nat} (hp : p < n) (hk : k < n) (hn : n ≤ 1000) : ∃ q : Nat, q < n ∧ wrap64 ((p : Int) + n) = (p : Int) + n ∧ wrap64 ((p : Int) + n - k) = (p : Int) + n - k ∧ ((p : Int) + n - k).tmod n = (q : Int) ∧ ((p : Int) + n - k) % n = (q : Int) := by
 refine ⟨(p + n - k) % n, Nat.mod_lt _ (by omega), IntWalk.wrap64_in _ (by omega), IntWalk.wrap64_in _ (by omega), ?_, ?_⟩
 ·rw [Int.tmod_eq_emod_of_nonneg (by omega), Int.natCast_emod]
  congr 1
  omega
 ·rw [Int.natCast_emod]
  congr 1
  omega
set_option maxRecDepth 100000 in
set_option maxHeartbeats 40000000 in
theorem lawF_wp {w0 w : World} {A0 : Option Addr} {c0 : Nat} {old : List Int} {nw : Int} {A2 : Option Addr} {c2 : Nat} {rs : List S118} {A3 : Option Addr} {c3 : Nat} {rj : List S62} {lo hi turn : Int} {bn k b11 : Nat} {X0 : Option Addr} {n0 x0 : Nat} {X2 : Option Addr} {n2 x2 : Nat} {rs2 : List S118} {base0 base2 : Nat} (a : Act) (ha : a = { tmps := lawFr (.int .u8 (bn : Int)) (.int .u8 turn) (.pointer (some ⟨w0.heap.size, 0, none⟩)) (.pointer (some ⟨w0.heap.size + 1, 0, none⟩)) (.int .i64 (rs.length : Int)) (.int .i64 (k : Int)) (.pointer (some ⟨b11, 0, none⟩)) (fun i => a.tmps.getD i undef), defers := [] })
  (HB : Aside0 (Below w0.heap.size w0 w)) (B4 : Aside0 (Blk w w0.heap.size [.slice A0 old.length c0, .int .i64 nw, .slice A2 rs.length c2, .slice A3 rj.length c3] 57)) (B5 : Aside0 (Blk w (w0.heap.size + 1) [.int .i64 lo, .int .i64 hi] 58))
  (BX : Aside0 (Blk w b11 [.slice X0 n0 x0, .int .i64 nw, .slice X2 n2 x2, .slice none 0 0] 57)) (R0 : Aside0 ((Kd.int .i64).R 3 w base0 (fun b => b ≠ b11) (.slice X0 n0 x0) old)) (R2 : Aside0 (k118.R 118 w base2 (fun b => b ≠ b11) (.slice X2 n2 x2) rs2)) (h11 : w0.heap.size + 1 < b11)
  (K0 : Aside0 ((Kd.int .i64).C w0 A0 old.length old)) (K2 : Aside0 (k118.C w0 A2 rs.length rs)) (K3 : Aside0 (k62.C w0 A3 rj.length rj)) (HJ : Aside0 (JV rs.length rj 0)) (hrs2 : rs2 = rs.drop k ++ rs.take k)
  (ht0 : old.length ≤ 7) (ht2 : rs.length ≤ 11) (ht3 : rj.length ≤ 24) (hby1 : (bn : Int) < 256) (htn0 : 0 ≤ turn) (htn1 : turn < 256) (hkl : k < rs.length) : Code.wp Try.prog (lawT 6) (lawQ w0) a w := by
 obtain ⟨u, hu⟩ : ∃ u : Nat → Value, a = { tmps := lawFr (.int .u8 (bn : Int)) (.int .u8 turn) (.pointer (some ⟨w0.heap.size, 0, none⟩)) (.pointer (some ⟨w0.heap.size + 1, 0, none⟩)) (.int .i64 (rs.length : Int)) (.int .i64 (k : Int)) (.pointer (some ⟨b11, 0, none⟩)) u, defers := [] } := ⟨fun i => a.tmps.getD i undef, ha⟩
 clear ha
 subst hu
 unfold lawFr
 refine law_step 6 (by kernel_rfl) (fun K hK => ?_)
 have HRS := Aside0.mk hrs2
 clear hrs2
 have hl11 := BX.out.lt
 have hlw := HB.out.size
 unfold lawT
 conv => arg 2; whnf
 unfold lawQ
 go_wp2_with fail
 go_loopw [12] (fun v12 wr => ∃ (i : Nat) (v3 : Value) (xs : List S62), i ≤ rj.length ∧ v12 = .int .i64 i ∧ w.heap.size ≤ wr.heap.size ∧ Aside0 (xs.length = i) ∧ Aside0 (JRot rs.length k bn rj xs) ∧ Aside0 (Keep w.heap.size (fun b => b = b11) w wr) ∧ Aside0 (Blk wr b11 [.slice X0 n0 x0, .int .i64 nw, .slice X2 n2 x2, v3] 57) ∧ Aside0 (k62.R 62 wr w.heap.size (fun b => w.heap.size ≤ b) v3 xs)) (fun v12 _ => rj.length - (intOf v12).toNat)
 case atStart => exact ⟨0, .slice none 0 0, [], Nat.zero_le _, rfl, Nat.le_refl _, ⟨rfl⟩, ⟨JRot.nil _ _ _ _⟩, ⟨Keep.refl _ _ _⟩, BX, ⟨Kd.R_nil _ _ _ _ _⟩⟩
 case round =>
  clear BX
  obtain ⟨i, v3, xs, hi, rfl, hsr, HXL, HJR, HK, B11, HV3⟩ := hrel
  have B4r := Aside0.mk (B4.out.move (HK.out.block _ (by omega) (by omega)))
  have h43 := B4r.out.cell 3
  simp only [sb3, sb4] at h43
  have HBr := Aside0.mk (show Below w0.heap.size w0 wr from ⟨HK.out.os.trans HB.out.os, HK.out.tape.trans HB.out.tape, HK.out.output.trans HB.out.output, Nat.le_trans HB.out.size HK.out.size, fun k hk => (HK.out.block k (by omega) (by omega)).trans (HB.out.block k hk)⟩)
  by_cases hil : i < rj.length
  ·have hnz : ((rj.length : Int) == 0) = false := by simp only [beq_eq_false_iff_ne]; omega
   have hne : ¬ rj = [] := by rintro rfl; simp at hil
   have hnzs : ((rs.length : Int) == 0) = false := by simp only [beq_eq_false_iff_ne]; omega
   have hnes : ¬ rs = [] := by rintro rfl; simp at hkl
   obtain ⟨q, hq⟩ : ∃ q, (i + bn) % rj.length = q := ⟨_, rfl⟩
   have hql : q < rj.length := by rw [← hq]; exact Nat.mod_lt _ (by omega)
   have hqI : (q : Int) < rj.length := by omega
   have hrem : ((i : Int) + bn).tmod rj.length = (q : Int) := by rw [rem_rot, hq]
   obtain ⟨ad, e, hq0, hq1⟩ := at_T62 (Kd.C_below K3.out HBr.out) (q : Int) (by omega) (by omega)
   cases e
   simp only [Int.toNat_natCast] at hq0 hq1
   obtain ⟨pa, pb, hpa, hpb, hpe⟩ := jv_get HJ.out q hql
   rw [hpe] at hq0 hq1
   have hr1000 : rs.length ≤ 1000 := by omega
   have HWB := Aside0.mk (show wrap64 (bn : Int) = bn from wrap_small (by omega) (by omega))
   have HWK := Aside0.mk (show wrap64 ((i : Int) + bn) = (i : Int) + bn from wrap_small (by omega) (by omega))
   have HX24 := Aside0.mk (show xs.length ≤ 24 by have := HXL.out; omega)
   have HI1 := Aside0.mk (show i + 1 ≤ rj.length by omega)
   have HME := Aside0.mk (show rj.length - (intOf (.int .i64 ((i : Int) + 1))).toNat < rj.length - (intOf (.int .i64 (i : Int))).toNat by simp [intOf]; omega)
   obtain ⟨q8, hk8, hwq⟩ := rem8 i
   obtain ⟨na, hna, a1, a2, a3, a4⟩ := ren_num hpa hkl hr1000
   obtain ⟨nb, hnb, b1, b2, b3, b4⟩ := ren_num hpb hkl hr1000
   have hwb := HWB.out
   have hwk := HWK.out
   have HSN := Aside0.mk (fun (y : S62) (hy : y = ⟨(na : Int), (nb : Int)⟩ ∨ y = ⟨(nb : Int), (na : Int)⟩) => HJR.out.snoc (y := y) (by
    rw [HXL.out, hq, hpe]
    simp only
    rw [a4, b4]
    exact hy))
   have HXI := HXL
   clear HXL hq hpe a4 b4 B4r HBr
   have HXL := HX24
   go_wp2_with fail
   refine start_ (n := 14) (S := fun w' => w'.cell? ⟨w0.heap.size, 3, none⟩ = some (.slice (some ad) rj.length c3) ∧ w'.cell? (ad.add (q * 2)) = some (.int .i64 (pa : Int)) ∧ w'.cell? ⟨(ad.add (q * 2)).block, (ad.add (q * 2)).off + 1, none⟩ = some (.int .i64 (pb : Int))) (ds := [13]) #[O,O,O,O,O,O,O,O,O,O,O,O,O,O] (by kernel_rfl) rfl rfl ⟨h43, hq0, hq1⟩ (fun hHeld => ?_); refine with_tabW lf.tab10 lf.bits10 (fun HT_ HW_ => ?_)
   have HKd := Aside0.mk HK.out.drew
   have B11d := Aside0.mk (B11.out.move rfl : Blk wr.drew _ _ _)
   have HVd := Aside0.mk (Kd.R_drew HV3.out)
   have hsd : w.heap.size ≤ wr.drew.heap.size := hsr
   clear HK B11 HV3 hsr h43 hq0 hq1
   generalize wr.drew = wd at HKd B11d HVd hsd hHeld ⊢
   refine pu_ 0 74 #[I,O,O,O,O,O,O,O,O,O,O,O,O,O] HT_ (h := ?_)
   refine ta_ 1 75 #[I,I,O,O,O,O,O,O,O,O,O,O,O,O] HT_ HW_ hHeld (hy := by (rintro w' ⟨s0, s1, s2⟩; go_simp; with_reducible rfl)) (h := ?_)
   refine pu_ 2 76 #[I,I,I,O,O,O,O,O,O,O,O,O,O,O] HT_ (h := ?_)
   refine pu_ 3 77 #[I,I,I,I,O,O,O,O,O,O,O,O,O,O] HT_ (h := ?_)
   refine pu_ 4 78 #[I,I,I,I,I,O,O,O,O,O,O,O,O,O] HT_ (h := ?_)
   refine pu_ 5 79 #[I,I,I,I,I,I,O,O,O,O,O,O,O,O] HT_ (h := ?_)
   refine pu_ 6 80 #[I,I,I,I,I,I,I,O,O,O,O,O,O,O] HT_ (h := ?_)
   refine ta_ 7 81 #[I,I,I,I,I,I,I,I,O,O,O,O,O,O] HT_ HW_ hHeld (hy := by (rintro w' ⟨s0, s1, s2⟩; go_simp; with_reducible rfl)) (h := ?_)
   refine pu_ 8 82 #[I,I,I,I,I,I,I,I,I,O,O,O,O,O] HT_ (h := ?_)
   refine pu_ 9 83 #[I,I,I,I,I,I,I,I,I,I,O,O,O,O] HT_ (h := ?_)
   refine pu_ 10 84 #[I,I,I,I,I,I,I,I,I,I,I,O,O,O] HT_ (h := ?_)
   refine ta_ 11 85 #[I,I,I,I,I,I,I,I,I,I,I,I,O,O] HT_ HW_ hHeld (hy := by (rintro w' ⟨s0, s1, s2⟩; go_simp; with_reducible rfl)) (h := ?_)
   refine one_ (i := 12) (N := some 13) #[I,I,I,I,I,I,I,I,I,I,I,I,I,O] rfl rfl (one_of HT_.out (by kernel_rfl)) (by decide) (fun K hK => ?_)
   refine value_ (w1 := ?_) (v := ?_) (by rfl) rfl ?_ ?_
   rotate_left 2
   ·go_simp
    constructor <;> rfl
   refine hK.out _ _ ⟨((below_alloc (Below.refl _ _) (.cells #[.int .i64 0, .int .i64 0] 62)).cell (World.block_lt_of_cell? _ _ hHeld.1)).trans hHeld.1, ((below_alloc (Below.refl _ _) (.cells #[.int .i64 0, .int .i64 0] 62)).cell (World.block_lt_of_cell? _ _ hHeld.2.1)).trans hHeld.2.1, ((below_alloc (Below.refl _ _) (.cells #[.int .i64 0, .int .i64 0] 62)).cell (World.block_lt_of_cell? _ _ hHeld.2.2)).trans hHeld.2.2⟩ (fun hHeld => ?_)
   clear hK K
   have B13 := Blk.new wd [.int .i64 0, .int .i64 0] 62
   have h130 := B13.cell 0
   have h131 := B13.cell 1
   have h130f := B13.frozen 0
   have h131f := B13.frozen 1
   simp only [sb3, sb4] at h130 h131
   clear B13
   refine norm_ (by simp only [Act.put, sb0, sb1, sb2]; rfl) ?_
   refine last_ (i := 13) (N := none) #[I,I,I,I,I,I,I,I,I,I,I,I,I,I] rfl rfl (one_of HT_.out (by kernel_rfl)) (by decide) (fun K hK => ?_)
   have hst_ := h130
   have hfr_ := h130f
   refine skip_ (w1 := ?_) (by rfl) rfl ?_ ?_
   rotate_left
   ·go_simp
    rfl
   refine hK.out _ _ ?_
   clear hK K hst_ hfr_ h130 h131 h130f h131f
   refine done_ (done_of HT_.out (by kernel_rfl)) ?_
   have B13 := Aside0.mk (Blk.new wd [.int .i64 (pa : Int), .int .i64 (pb : Int)] 62)
   have HK := Aside0.mk (HKd.out.alloc hsd (.cells #[.int .i64 (pa : Int), .int .i64 (pb : Int)] 62))
   have B11 := Aside0.mk (B11d.out.alloc (.cells #[.int .i64 (pa : Int), .int .i64 (pb : Int)] 62))
   have HV3 := Aside0.mk (Kd.R_alloc (Kd.R_mono (Kd.R_bound HVd.out) (fun b hb => (⟨hb.2.1, Nat.ne_of_lt hb.2.2.1⟩ : w.heap.size ≤ b ∧ b ≠ wd.heap.size))) (.cells #[.int .i64 (pa : Int), .int .i64 (pb : Int)] 62))
   have hs7 := size_alloc wd (.cells #[.int .i64 (pa : Int), .int .i64 (pb : Int)] 62)
   have hsr := Nat.le_trans hsd (Nat.le_of_lt hs7)
   have hb13 : b11 ≠ wd.heap.size := Nat.ne_of_lt (Nat.lt_of_lt_of_le hl11 hsd)
   have hg13 := hsd
   clear HKd B11d HVd hsd hs7 HT_ HW_
   generalize wd.alloc (.cells #[.int .i64 (pa : Int), .int .i64 (pb : Int)] 62) = w7 at B13 HK B11 HV3 hsr ⊢
   generalize wd.heap.size = g13 at B13 HV3 hb13 hg13 ⊢
   have h130 := B13.out.cell 0
   have h131 := B13.out.cell 1
   simp only [sb3, sb4] at h130 h131
   go_wp2_with fail
   refine start_ (n := 20) (S := fun w' => w'.cell? ⟨g13, 0, none⟩ = some (.int .i64 (pa : Int)) ∧ w'.cell? ⟨g13, 1, none⟩ = some (.int .i64 (pb : Int))) (ds := [17, 19]) #[O,O,O,O,O,O,O,O,O,O,O,O,O,O,O,O,O,O,O,O] (by kernel_rfl) rfl rfl ⟨h130, h131⟩ (fun hHeld => ?_); refine with_tabW lf.tab11 lf.bits11 (fun HT_ HW_ => ?_)
   replace B13 := Aside0.mk (B13.out.move rfl : Blk w7.drew _ _ _)
   replace HK := Aside0.mk HK.out.drew
   replace B11 := Aside0.mk (B11.out.move rfl : Blk w7.drew _ _ _)
   replace HV3 := Aside0.mk (Kd.R_drew HV3.out)
   replace hsr : w.heap.size ≤ w7.drew.heap.size := hsr
   replace h130 : w7.drew.cell? ⟨g13, 0, none⟩ = some (.int .i64 (pa : Int)) := h130
   replace h131 : w7.drew.cell? ⟨g13, 1, none⟩ = some (.int .i64 (pb : Int)) := h131
   generalize w7.drew = wd2 at B13 HK B11 HV3 hsr h130 h131 hHeld ⊢
   refine pu_ 0 86 #[I,O,O,O,O,O,O,O,O,O,O,O,O,O,O,O,O,O,O,O] HT_ (h := ?_)
   refine ta_ 1 87 #[I,I,O,O,O,O,O,O,O,O,O,O,O,O,O,O,O,O,O,O] HT_ HW_ hHeld (hy := by (rintro w' ⟨s0, s1⟩; go_simp; with_reducible rfl)) (h := ?_)
   refine pu_ 2 88 #[I,I,I,O,O,O,O,O,O,O,O,O,O,O,O,O,O,O,O,O] HT_ (h := ?_)
   refine pu_ 3 89 #[I,I,I,I,O,O,O,O,O,O,O,O,O,O,O,O,O,O,O,O] HT_ (h := ?_)
   refine pu_ 4 90 #[I,I,I,I,I,O,O,O,O,O,O,O,O,O,O,O,O,O,O,O] HT_ (h := ?_)
   refine pu_ 5 91 #[I,I,I,I,I,I,O,O,O,O,O,O,O,O,O,O,O,O,O,O] HT_ (h := ?_)
   refine pu_ 6 92 #[I,I,I,I,I,I,I,O,O,O,O,O,O,O,O,O,O,O,O,O] HT_ (h := ?_)
   refine pu_ 7 93 #[I,I,I,I,I,I,I,I,O,O,O,O,O,O,O,O,O,O,O,O] HT_ (h := ?_)
   refine pu_ 8 94 #[I,I,I,I,I,I,I,I,I,O,O,O,O,O,O,O,O,O,O,O] HT_ (h := ?_)
   refine ta_ 9 95 #[I,I,I,I,I,I,I,I,I,I,O,O,O,O,O,O,O,O,O,O] HT_ HW_ hHeld (hy := by (rintro w' ⟨s0, s1⟩; go_simp; with_reducible rfl)) (h := ?_)
   refine pu_ 10 96 #[I,I,I,I,I,I,I,I,I,I,I,O,O,O,O,O,O,O,O,O] HT_ (h := ?_)
   refine pu_ 11 97 #[I,I,I,I,I,I,I,I,I,I,I,I,O,O,O,O,O,O,O,O] HT_ (h := ?_)
   refine pu_ 12 98 #[I,I,I,I,I,I,I,I,I,I,I,I,I,O,O,O,O,O,O,O] HT_ (h := ?_)
   refine pu_ 13 99 #[I,I,I,I,I,I,I,I,I,I,I,I,I,I,O,O,O,O,O,O] HT_ (h := ?_)
   refine pu_ 14 100 #[I,I,I,I,I,I,I,I,I,I,I,I,I,I,I,O,O,O,O,O] HT_ (h := ?_)
   refine pu_ 15 101 #[I,I,I,I,I,I,I,I,I,I,I,I,I,I,I,I,O,O,O,O] HT_ (h := ?_)
   refine pu_ 16 102 #[I,I,I,I,I,I,I,I,I,I,I,I,I,I,I,I,I,O,O,O] HT_ (h := ?_)
   refine last_ (i := 17) (N := none) #[I,I,I,I,I,I,I,I,I,I,I,I,I,I,I,I,I,I,O,O] rfl rfl (one_of HT_.out (by kernel_rfl)) (by decide) (fun K hK => ?_)
   have hst_ := h130
   have hfr_ := (B13.out.frozen 0)
   refine skip_ (w1 := ?_) (by rfl) rfl ?_ ?_
   rotate_left
   ·go_simp
    rfl
   refine hK.out _ _ ?_
   clear hK K hst_ hfr_ 
   have B13a := Aside0.mk (show Blk _ g13 [.int .i64 (na : Int), .int .i64 (pb : Int)] _ from blk_set B13.out 0 (.int .i64 (na : Int)))
   have HKa := Aside0.mk (HK.out.setCell (p := ⟨g13, 0, none⟩) (.inr hg13) (.int .i64 (na : Int)))
   have B11a := Aside0.mk (B11.out.move (Below.heap_setCell wd2 ⟨g13, 0, none⟩ (.int .i64 (na : Int)) _ hb13))
   have HVa := Aside0.mk (Kd.R_far HV3.out (p := ⟨g13, 0, none⟩) (fun b hb => hb.2) (.int .i64 (na : Int)))
   have hsa : w.heap.size ≤ (wd2.setCell ⟨g13, 0, none⟩ (.int .i64 (na : Int))).heap.size := by rw [size_set]; exact hsr
   have h131a := B13a.out.cell 1
   simp only [sb3, sb4] at h131a
   clear B13 HK B11 HV3 hsr h130 h131
   generalize wd2.setCell ⟨g13, 0, none⟩ (.int .i64 (na : Int)) = we at B13a HKa B11a HVa hsa h131a ⊢
   refine pu_ 18 103 #[I,I,I,I,I,I,I,I,I,I,I,I,I,I,I,I,I,I,I,O] HT_ (h := ?_)
   refine last_ (i := 19) (N := none) #[I,I,I,I,I,I,I,I,I,I,I,I,I,I,I,I,I,I,I,I] rfl rfl (one_of HT_.out (by kernel_rfl)) (by decide) (fun K hK => ?_)
   have hst_ := h131a
   have hfr_ := (B13a.out.frozen 1)
   refine skip_ (w1 := ?_) (by rfl) rfl ?_ ?_
   rotate_left
   ·go_simp
    rfl
   refine hK.out _ _ ?_
   clear hK K hst_ hfr_ 
   have B13b := Aside0.mk (show Blk _ g13 [.int .i64 (na : Int), .int .i64 (nb : Int)] _ from blk_set B13a.out 1 (.int .i64 (nb : Int)))
   have HKb := Aside0.mk (HKa.out.setCell (p := ⟨g13, 1, none⟩) (.inr hg13) (.int .i64 (nb : Int)))
   have B11b := Aside0.mk (B11a.out.move (Below.heap_setCell we ⟨g13, 1, none⟩ (.int .i64 (nb : Int)) _ hb13))
   have HVb := Aside0.mk (Kd.R_far HVa.out (p := ⟨g13, 1, none⟩) (fun b hb => hb.2) (.int .i64 (nb : Int)))
   have hsb : w.heap.size ≤ (we.setCell ⟨g13, 1, none⟩ (.int .i64 (nb : Int))).heap.size := by rw [size_set]; exact hsa
   clear B13a HKa B11a HVa hsa h131a
   generalize we.setCell ⟨g13, 1, none⟩ (.int .i64 (nb : Int)) = wf at B13b HKb B11b HVb hsb ⊢
   refine done_ (done_of HT_.out (by kernel_rfl)) ?_
   clear HT_ HW_ a1 a2 a3 b1 b2 b3 hwb hwk hnz hne hnzs hnes
   obtain ⟨bt, hbt⟩ : ∃ b, (Go.bits .and .u8 (turn / 2 ^ min q8 8) 1 == 1) = b := ⟨_, rfl⟩
   have h130 := B13b.out.cell 0
   have h131 := B13b.out.cell 1
   have h130f := B13b.out.frozen 0
   have h131f := B13b.out.frozen 1
   have h113 := B11b.out.cell 3
   have h113f := B11b.out.frozen 3
   simp only [sb3, sb4] at h130 h131 h113
   cases bt
   ·go_wp2_with ((with_reducible refine gate_builtin (b := .append) (xs := #[.tmp 118, .tmp 120]) rfl ?_); refine Kd.R_append k62 (w0 := wf) w.heap.size rfl (.tmp 118) (.tmp 120) 55 62 (.agg #[.int .i64 0, .int .i64 0]) 16 rfl Try.underlying55 infoRJoin rfl (by decide) (by decide) v3 xs ⟨(na : Int), (nb : Int)⟩ [.int .i64 (na : Int), .int .i64 (nb : Int)] (fun b => w.heap.size ≤ b) (fun _ => False) rfl rfl (k62_mkM _ _ _ ⟨(na : Int), (nb : Int)⟩) (fun _ hk => hk.elim) (fun b hb => Nat.le_trans hsb hb) (Kd.R_mono HVb.out (fun _ h => h.1)) (Below.refl _ _) hsb (by have := HXL.out; omega) ?_; intro vn wn hon hbn hgn hatn; obtain ⟨An, nn, cn, rfl⟩ := slice_of hon; have HVn := Aside0.mk hon; have B11n := Aside0.mk (B11b.out.move (hbn.block _ hl11)); have HKn := Aside0.mk (HKb.out.trans (Keep.of_below hbn (Nat.le_refl _))); have hsn := Nat.le_trans hsb hbn.size; clear hon hbn hgn hatn; have h113n := B11n.out.cell 3; have f113n := B11n.out.frozen 3; simp only [sb3, sb4] at h113n)
    exact ⟨⟨i + 1, .slice An nn cn, xs ++ [⟨(na : Int), (nb : Int)⟩], HI1.out, congrArg (Value.int .i64) (Int.natCast_succ i).symm, (size_set wn _ _).symm ▸ hsn, ⟨len_snoc HXI.out⟩, ⟨HSN.out _ (.inl rfl)⟩, ⟨HKn.out.setCell (p := ⟨b11, 3, none⟩) (.inl rfl) _⟩, ⟨blk_set B11n.out 3 (.slice An nn cn)⟩, ⟨Kd.R_far HVn.out (p := ⟨b11, 3, none⟩) (fun b hb => Nat.ne_of_gt (Nat.lt_of_lt_of_le hl11 hb)) _⟩⟩, HME.out⟩
   ·obtain ⟨w8, hw8⟩ : ∃ w8, (wf.setCell ⟨g13, 0, none⟩ (.int .i64 (nb : Int))).setCell ⟨g13, 1, none⟩ (.int .i64 (na : Int)) = w8 := ⟨_, rfl⟩
    have B138 := Aside0.mk (show Blk w8 g13 [.int .i64 (nb : Int), .int .i64 (na : Int)] 62 by rw [← hw8]; exact blk_set (blk_set B13b.out 0 _) 1 _)
    have HK8 := Aside0.mk (show Keep w.heap.size (fun b => b = b11) w w8 by rw [← hw8]; exact (HKb.out.setCell (p := ⟨g13, 0, none⟩) (.inr hg13) _).setCell (p := ⟨g13, 1, none⟩) (.inr hg13) _)
    have B118 := Aside0.mk (show Blk w8 b11 [.slice X0 n0 x0, .int .i64 nw, .slice X2 n2 x2, v3] 57 by rw [← hw8]; exact (B11b.out.move (Below.heap_setCell wf ⟨g13, 0, none⟩ _ _ hb13)).move (Below.heap_setCell _ ⟨g13, 1, none⟩ _ _ hb13))
    have HV8 := Aside0.mk (show k62.R 62 w8 w.heap.size (fun b => w.heap.size ≤ b ∧ b ≠ g13) v3 xs by rw [← hw8]; exact Kd.R_far (Kd.R_far HVb.out (p := ⟨g13, 0, none⟩) (fun b hb => hb.2) _) (p := ⟨g13, 1, none⟩) (fun b hb => hb.2) _)
    have hs8 : w.heap.size ≤ w8.heap.size := by rw [← hw8, size_set, size_set]; exact hsb
    have h130' := B138.out.cell 0
    have h131' := B138.out.cell 1
    have h113' := B118.out.cell 3
    simp only [sb3, sb4] at h130' h131' h113'
    clear B13b HKb B11b HVb hsb
    go_wp2_with ((with_reducible refine gate_builtin (b := .append) (xs := #[.tmp 118, .tmp 120]) rfl ?_); refine Kd.R_append k62 (w0 := w8) w.heap.size rfl (.tmp 118) (.tmp 120) 55 62 (.agg #[.int .i64 0, .int .i64 0]) 16 rfl Try.underlying55 infoRJoin rfl (by decide) (by decide) v3 xs ⟨(nb : Int), (na : Int)⟩ [.int .i64 (nb : Int), .int .i64 (na : Int)] (fun b => w.heap.size ≤ b) (fun _ => False) rfl rfl (k62_mkM _ _ _ ⟨(nb : Int), (na : Int)⟩) (fun _ hk => hk.elim) (fun b hb => Nat.le_trans hs8 hb) (Kd.R_mono HV8.out (fun _ h => h.1)) (Below.refl _ _) hs8 (by have := HXL.out; omega) ?_; intro vn wn hon hbn hgn hatn; obtain ⟨An, nn, cn, rfl⟩ := slice_of hon; have HVn := Aside0.mk hon; have B11n := Aside0.mk (B118.out.move (hbn.block _ hl11)); have HKn := Aside0.mk (HK8.out.trans (Keep.of_below hbn (Nat.le_refl _))); have hsn := Nat.le_trans hs8 hbn.size; clear hon hbn hgn hatn; have h113n := B11n.out.cell 3; have f113n := B11n.out.frozen 3; simp only [sb3, sb4] at h113n)
    exact ⟨⟨i + 1, .slice An nn cn, xs ++ [⟨(nb : Int), (na : Int)⟩], HI1.out, congrArg (Value.int .i64) (Int.natCast_succ i).symm, (size_set wn _ _).symm ▸ hsn, ⟨len_snoc HXI.out⟩, ⟨HSN.out _ (.inr rfl)⟩, ⟨HKn.out.setCell (p := ⟨b11, 3, none⟩) (.inl rfl) _⟩, ⟨blk_set B11n.out 3 (.slice An nn cn)⟩, ⟨Kd.R_far HVn.out (p := ⟨b11, 3, none⟩) (fun b hb => Nat.ne_of_gt (Nat.lt_of_lt_of_le hl11 hb)) _⟩⟩, HME.out⟩
  ·obtain rfl : i = rj.length := by omega
   obtain ⟨Z0, nz, zc, rfl⟩ := slice_of HV3.out
   have hR0 := Kd.R_step R0.out (fun b hb hlt => HK.out.block b hlt hb)
   have hR2 := Kd.R_step R2.out (fun b hb hlt => HK.out.block b hlt hb)
   obtain ⟨_, _, e0, hd0, hC0⟩ := Kd.R_reads hR0
   obtain ⟨rfl, rfl, rfl⟩ := slice_inj e0
   obtain ⟨_, _, e2, hd2, hC2⟩ := Kd.R_reads hR2
   obtain ⟨rfl, rfl, rfl⟩ := slice_inj e2
   obtain ⟨_, _, e3, hd3, hC3⟩ := Kd.R_reads HV3.out
   obtain ⟨rfl, rfl, rfl⟩ := slice_inj e3
   have hxl := HXL.out
   have B5r := B5.out.move (HK.out.block _ (by omega) (by omega))
   have L := Aside0.mk (LS.mk HBr.out B4r.out B5r B11.out (Kd.C_below K0.out HBr.out) (Kd.C_below K2.out HBr.out) (Kd.C_below K3.out HBr.out) hC0 hC2 hC3)
   have hrl : rs2.length = rs.length := by rw [HRS.out, List.length_append, List.length_drop, List.length_take]; omega
   have HZ := Aside0.mk (LZ.mk (old := old) (rs := rs) (rs2 := rs2) (rj := rj) (xs := xs) (by omega) (by omega) (by omega) (by omega) (by omega))
   have HS := Aside0.mk (sameM_of (rot_ren hkl) hrl (fun j hj => by rw [HRS.out]; exact rot_get _ rs k hkl j hj) HJ.out (HJR.out.rel hxl HJ.out hkl))
   have hr1000 : rs.length ≤ 1000 := by omega
   go_wp2_with fail
   refine law_step 7 (by kernel_rfl) (fun K7 hK7 => ?_)
   refine lawA_wp _ ?_ L.out HZ.out HS.out hkl hr1000 K7 hK7
   rfl
end Go.Proofs.Ytiddkceahbnolaa
