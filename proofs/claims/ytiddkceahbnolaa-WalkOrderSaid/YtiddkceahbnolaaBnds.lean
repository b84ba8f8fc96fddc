/- walk's Bounds. -/
import Derived.Test.YtiddkceahbnolaaExt
import Derived.Laws.EntriesVeiled
namespace Go.Proofs.Ytiddkceahbnolaa
open Go.RowKit Go.Shelf Go.Proofs.Ytiddkceahbnolaa.PWalkOrder Go.Proofs.YtiddkceahbnolaaW.PrintWords Go.Proofs.YtiddkceahbnolaaW.PrintLast
set_option linter.unusedVariables false
set_option linter.unusedSimpArgs false
def tf.T4 : Bool × List (List Nat × List Nat) := (true, [([], []), ([], []), ([1], [1]), ([], []), ([], []), ([4], [4]), ([], []), ([6], [6]), ([5, 7], [5, 7]), ([8], [8]), ([], []), ([10], [10]), ([], []), ([11, 12], [11, 12]), ([13], [13]), ([3, 9, 14], [3, 9, 14]), ([2, 15], [2, 15]), ([16], [16]), ([0, 17], [0, 17]), ([18, 15, 0, 1, 2, 3, 4, 5, 6, 7, 8, 9, 10, 11, 12, 13, 14, 15, 16, 17, 18], [0, 18])])
def tf.B4 : List Nat := [0, 0, 2, 0, 0, 16, 0, 64, 240, 496, 0, 1024, 0, 7168, 15360, 32760, 65534, 131070, 262143, 524287]
theorem tf.tab4 : rtab .any (opsOf Try.f66 4) = tf.T4 := by kernel_rfl
theorem tf.bits4 : waitsOk tf.T4.2 tf.B4 = true := by kernel_rfl
def wayS (R : List S94) (l tr : List Int) : Nat → Int
 | 0 => 0
 | k + 1 => wayS R l tr k + rd tr (roadI R (rd l (k : Int)) (rd l ((k + 1 : Nat) : Int)))
def cntS (cs tw : List Int) : Nat → Int
 | 0 => 0
 | k + 1 => cntS cs tw k + rd tw (rd cs (k : Int))
def timeF (R : List S94) (l cs tw tr : List Int) : Int := wayS R l tr (l.length - 1) + cntS cs tw cs.length
structure TimeOk (R : List S94) (l cs tw tr : List Int) : Prop where
 roads : ∀ k, k + 1 < l.length → 0 ≤ roadI R (rd l (k : Int)) (rd l ((k + 1 : Nat) : Int)) ∧ roadI R (rd l (k : Int)) (rd l ((k + 1 : Nat) : Int)) < tr.length ∧ 0 ≤ rd tr (roadI R (rd l (k : Int)) (rd l ((k + 1 : Nat) : Int))) ∧ rd tr (roadI R (rd l (k : Int)) (rd l ((k + 1 : Nat) : Int))) ≤ 1000
 works : ∀ k, k < cs.length → 0 ≤ rd cs (k : Int) ∧ rd cs (k : Int) < tw.length ∧ 0 ≤ rd tw (rd cs (k : Int)) ∧ rd tw (rd cs (k : Int)) ≤ 1000
theorem wayS_bound {R : List S94} {l cs tw tr : List Int} (h : TimeOk R l cs tw tr) : ∀ k, k + 1 ≤ l.length → 0 ≤ wayS R l tr k ∧ wayS R l tr k ≤ 1000 * k
 | 0, _ => by simp [wayS]
 | k + 1, hk => by
  have := wayS_bound h k (by omega)
  have h1 := h.roads k (by omega)
  unfold wayS
  omega
theorem cntS_bound {R : List S94} {l cs tw tr : List Int} (h : TimeOk R l cs tw tr) : ∀ k, k ≤ cs.length → 0 ≤ cntS cs tw k ∧ cntS cs tw k ≤ 1000 * k
 | 0, _ => by simp [cntS]
 | k + 1, hk => by
  have := cntS_bound h k (by omega)
  have h1 := h.works k (by omega)
  unfold cntS
  omega

set_option maxRecDepth 100000 in
set_option maxHeartbeats 40000000 in
theorem time_calls {A0 : Option Addr} {c0 : Nat} {Wk : List S77} {A1 : Option Addr} {c1 : Nat} {R : List S94} {w : World} (h : IsMap w A0 c0 Wk A1 c1 R)
  (l cs tw tr : List Int) {Al Ac Aw Ar : Option Addr} {cl cc cw cr : Nat} (hl : Kd.C (Kd.int .i64) w Al l.length l) (hlb : l.length < 1000000) (hl0 : 0 < l.length) (hcs : Kd.C (Kd.int .i64) w Ac cs.length cs) (hcb : cs.length < 1000000)
  (htw : Kd.C (Kd.int .i64) w Aw tw.length tw) (htr : Kd.C (Kd.int .i64) w Ar tr.length tr) (hok : TimeOk R l cs tw tr) :
  Calls Try.prog 66 #[.agg #[.slice A0 Wk.length c0, .slice A1 R.length c1], .agg #[.slice Al l.length cl, .slice Ac cs.length cc], .agg #[.slice Aw tw.length cw, .slice Ar tr.length cr]] w fun e w' => e = .returned (.int .i64 (timeF R l cs tw tr)) ∧ Below w.heap.size w w' := by
 have H := Aside0.mk h
 have HL := Aside0.mk hl
 have HCS := Aside0.mk hcs
 have HTW := Aside0.mk htw
 have HTR := Aside0.mk htr
 have HOK := Aside0.mk hok
 clear h hl hcs htw htr hok
 go_enter Try.func66, Try.ntmps66
 have B3 := Aside0.mk (((Blk.new w [.slice A0 Wk.length c0, .slice A1 R.length c1] 41).alloc (.cells #[.slice Al l.length cl, .slice Ac cs.length cc] 44)).alloc (.cells #[.slice Aw tw.length cw, .slice Ar tr.length cr] 139))
 have B4 := Aside0.mk (show Blk _ (w.heap.size + 1) _ _ by simpa using (Blk.new (w.alloc (.cells #[.slice A0 Wk.length c0, .slice A1 R.length c1] 41)) [.slice Al l.length cl, .slice Ac cs.length cc] 44).alloc (.cells #[.slice Aw tw.length cw, .slice Ar tr.length cr] 139))
 have B5 := Aside0.mk (show Blk _ (w.heap.size + 1 + 1) _ _ by simpa using Blk.new ((w.alloc (.cells #[.slice A0 Wk.length c0, .slice A1 R.length c1] 41)).alloc (.cells #[.slice Al l.length cl, .slice Ac cs.length cc] 44)) [.slice Aw tw.length cw, .slice Ar tr.length cr] 139)
 have HB := Aside0.mk (below_alloc (below_alloc (below_alloc (Below.refl w.heap.size w) (.cells #[.slice A0 Wk.length c0, .slice A1 R.length c1] 41)) (.cells #[.slice Al l.length cl, .slice Ac cs.length cc] 44)) (.cells #[.slice Aw tw.length cw, .slice Ar tr.length cr] 139))
 have hs0 : w.heap.size + 3 ≤ (((w.alloc (.cells #[.slice A0 Wk.length c0, .slice A1 R.length c1] 41)).alloc (.cells #[.slice Al l.length cl, .slice Ac cs.length cc] 44)).alloc (.cells #[.slice Aw tw.length cw, .slice Ar tr.length cr] 139)).heap.size := by simp
 go_wp2_with fail
 generalize (((w.alloc (.cells #[.slice A0 Wk.length c0, .slice A1 R.length c1] 41)).alloc (.cells #[.slice Al l.length cl, .slice Ac cs.length cc] 44)).alloc (.cells #[.slice Aw tw.length cw, .slice Ar tr.length cr] 139)) = w2 at B3 B4 B5 HB hs0 ⊢
 go_loopw [6, 7] (fun v6 v7 wr => ∃ (j : Nat) (i : Int), i = (j : Int) + 1 ∧ j + 1 ≤ l.length ∧ v7 = .int .i64 i ∧ v6 = .int .i64 (wayS R l tr j) ∧ Aside0 (Below w2.heap.size w2 wr)) (fun _ v7 _ => l.length - (intOf v7).toNat)
 case atStart => exact ⟨0, 1, rfl, by omega, rfl, rfl, ⟨Below.refl _ _⟩⟩
 case round =>
  obtain ⟨j, i, hi, hjl, rfl, rfl, HR⟩ := hrel
  have HBr := Aside0.mk (HB.out.trans (HR.out.mono HB.out.size))
  have B3r := Aside0.mk (B3.out.below HR.out)
  have B4r := Aside0.mk (B4.out.below HR.out)
  have B5r := Aside0.mk (B5.out.below HR.out)
  have hsr := HR.out.size
  have h30 := B3r.out.cell 0
  have h31 := B3r.out.cell 1
  have h40 := B4r.out.cell 0
  have h41 := B4r.out.cell 1
  have h50 := B5r.out.cell 0
  have h51 := B5r.out.cell 1
  simp only [sb3, sb4] at h30 h31 h40 h41 h50 h51
  by_cases hij : i < l.length
  ·obtain ⟨ad, e, hp⟩ := Kd.at_int (Kd.C_below HL.out HBr.out) (j : Int) (by omega) (by omega)
   cases e
   obtain ⟨ad0, e, hq⟩ := Kd.at_int (Kd.C_below HL.out HBr.out) i (by omega) (by omega)
   cases e
   simp only [Int.toNat_natCast] at hp
   have hi0 : (0 : Int) ≤ i := by omega
   have hj0 : (j : Int) < l.length := by omega
   have hw : wrap64 (i - 1) = (j : Int) := by unfold wrap64; omega
   have hi1 : i = ((j + 1 : Nat) : Int) := by omega
   have hro := HOK.out.roads j (by omega)
   have hwb := wayS_bound HOK.out j (by omega)
   have hws : wayS R l tr (j + 1) = wayS R l tr j + rd tr (roadI R (rd l (j : Int)) (rd l ((j + 1 : Nat) : Int))) := rfl
   rw [← hi1] at hro hws
   obtain ⟨y0, hy0⟩ : ∃ x, rd l (j : Int) = x := ⟨_, rfl⟩
   obtain ⟨y1, hy1⟩ : ∃ x, rd l i = x := ⟨_, rfl⟩
   rw [hy0] at hp hro hws
   rw [hy1] at hq hro hws
   obtain ⟨ri, hri⟩ : ∃ x, roadI R y0 y1 = x := ⟨_, rfl⟩
   rw [hri] at hro hws
   obtain ⟨hri0, hri1, hri2, hri3⟩ := hro
   obtain ⟨ar, e, ht⟩ := Kd.at_int (Kd.C_below HTR.out HBr.out) ri hri0 hri1
   cases e
   obtain ⟨y, hy⟩ : ∃ x, rd tr ri = x := ⟨_, rfl⟩
   rw [hy] at ht hws hri2 hri3
   obtain ⟨sm, hsm⟩ : ∃ x, wayS R l tr j = x := ⟨_, rfl⟩
   rw [hsm] at hwb hws
   rw [hsm]
   have hsum : wrap64 (sm + y) = sm + y := IntWalk.wrap64_in _ (by omega)
   have HI := Aside0.mk hi
   have HWS := Aside0.mk hws
   have HRI := Aside0.mk hri
   clear hy0 hy1 hi1 hi hws hri hy hsm hwb hri2 hri3
   go_wp2_with fail
   refine start_ (n := 20) (S := fun w' => w'.cell? ⟨w.heap.size, 0, none⟩ = some (.slice A0 Wk.length c0) ∧ w'.cell? ⟨w.heap.size, 1, none⟩ = some (.slice A1 R.length c1) ∧ w'.cell? ⟨w.heap.size + 1, 0, none⟩ = some (.slice (some ad) l.length cl) ∧ w'.cell? (ad.add j) = some (.int .i64 y0) ∧ w'.cell? (ad.add i.toNat) = some (.int .i64 y1) ∧ w'.cell? ⟨w.heap.size + 1 + 1, 1, none⟩ = some (.slice (some ar) tr.length cr) ∧ w'.cell? (ar.add ri.toNat) = some (.int .i64 y)) (ds := []) #[false, false, false, false, false, false, false, false, false, false, false, false, false, false, false, false, false, false, false, false] (by kernel_rfl) rfl rfl ⟨h30, h31, h40, hp, hq, h51, ht⟩ (fun hHeld => ?_); refine with_tabW tf.tab4 tf.bits4 (fun HT_ HW_ => ?_)
   have HH := Aside0.mk (H.out.below (below_drew HBr.out))
   have HRd := Aside0.mk (below_drew HR.out)
   clear HBr HR B3r B4r B5r h30 h31 h40 h41 h50 h51 hp hq ht
   generalize wr.drew = wd at HH HRd hHeld ⊢
   refine pure_ (i := 0) (N := some 17) (v := ?_) (a' := ?_) #[true, false, false, false, false, false, false, false, false, false, false, false, false, false, false, false, false, false, false, false] rfl rfl (any_of HT_.out (by kernel_rfl)) (fun _ _ _ h => h) (Or.inl ⟨by rfl, ?_⟩) ?_ ?_
   rotate_left
   ·intro w'
    go_simp
    with_reducible rfl
   rotate_left
   ·simp only [Act.put, sb0, sb1, sb2, i64_w, i32_w]
    rfl
   refine pure_ (i := 1) (N := some 18) (v := ?_) (a' := ?_) #[true, true, false, false, false, false, false, false, false, false, false, false, false, false, false, false, false, false, false, false] rfl rfl (any_of HT_.out (by kernel_rfl)) (fun _ _ _ h => h) (Or.inl ⟨by rfl, ?_⟩) ?_ ?_
   rotate_left
   ·intro w'
    go_simp
    with_reducible rfl
   rotate_left
   ·simp only [Act.put, sb0, sb1, sb2, i64_w, i32_w]
    rfl
   refine take_ (i := 2) (N := some 19) (v := ?_) (a' := ?_) #[true, true, true, false, false, false, false, false, false, false, false, false, false, false, false, false, false, false, false, false] rfl rfl (take_ofW HT_.out HW_.out (by kernel_rfl)) (fun _ _ _ h => h) (Or.inl ⟨by rfl, ?_⟩) hHeld ?_ ?_
   rotate_left
   ·rintro w' ⟨s0, s1, s2, s3, s4, s5, s6⟩
    go_simp
    with_reducible rfl
   rotate_left
   ·simp only [Act.put, sb0, sb1, sb2, i64_w, i32_w]
    rfl
   refine take_ (i := 3) (N := some 20) (v := ?_) (a' := ?_) #[true, true, true, true, false, false, false, false, false, false, false, false, false, false, false, false, false, false, false, false] rfl rfl (take_ofW HT_.out HW_.out (by kernel_rfl)) (fun _ _ _ h => h) (Or.inl ⟨by rfl, ?_⟩) hHeld ?_ ?_
   rotate_left
   ·rintro w' ⟨s0, s1, s2, s3, s4, s5, s6⟩
    go_simp
    with_reducible rfl
   rotate_left
   ·simp only [Act.put, sb0, sb1, sb2, i64_w, i32_w]
    rfl
   refine pure_ (i := 4) (N := some 21) (v := ?_) (a' := ?_) #[true, true, true, true, true, false, false, false, false, false, false, false, false, false, false, false, false, false, false, false] rfl rfl (any_of HT_.out (by kernel_rfl)) (fun _ _ _ h => h) (Or.inl ⟨by rfl, ?_⟩) ?_ ?_
   rotate_left
   ·intro w'
    go_simp
    with_reducible rfl
   rotate_left
   ·simp only [Act.put, sb0, sb1, sb2, i64_w, i32_w]
    rfl
   refine take_ (i := 5) (N := some 22) (v := ?_) (a' := ?_) #[true, true, true, true, true, true, false, false, false, false, false, false, false, false, false, false, false, false, false, false] rfl rfl (take_ofW HT_.out HW_.out (by kernel_rfl)) (fun _ _ _ h => h) (Or.inl ⟨by rfl, ?_⟩) hHeld ?_ ?_
   rotate_left
   ·rintro w' ⟨s0, s1, s2, s3, s4, s5, s6⟩
    go_simp
    with_reducible rfl
   rotate_left
   ·simp only [Act.put, sb0, sb1, sb2, i64_w, i32_w]
    rfl
   refine pure_ (i := 6) (N := some 23) (v := ?_) (a' := ?_) #[true, true, true, true, true, true, true, false, false, false, false, false, false, false, false, false, false, false, false, false] rfl rfl (any_of HT_.out (by kernel_rfl)) (fun _ _ _ h => h) (Or.inl ⟨by rfl, ?_⟩) ?_ ?_
   rotate_left
   ·intro w'
    go_simp
    with_reducible rfl
   rotate_left
   ·simp only [Act.put, sb0, sb1, sb2, i64_w, i32_w]
    rfl
   refine pure_ (i := 7) (N := some 24) (v := ?_) (a' := ?_) #[true, true, true, true, true, true, true, true, false, false, false, false, false, false, false, false, false, false, false, false] rfl rfl (any_of HT_.out (by kernel_rfl)) (fun _ _ _ h => h) (Or.inl ⟨by rfl, ?_⟩) ?_ ?_
   rotate_left
   ·intro w'
    go_simp
    with_reducible rfl
   rotate_left
   ·simp only [Act.put, sb0, sb1, sb2, i64_w, i32_w]
    rfl
   refine pure_ (i := 8) (N := some 25) (v := ?_) (a' := ?_) #[true, true, true, true, true, true, true, true, true, false, false, false, false, false, false, false, false, false, false, false] rfl rfl (any_of HT_.out (by kernel_rfl)) (fun _ _ _ h => h) (Or.inl ⟨by rfl, ?_⟩) ?_ ?_
   rotate_left
   ·intro w'
    go_simp
    with_reducible rfl
   rotate_left
   ·simp only [Act.put, sb0, sb1, sb2, i64_w, i32_w]
    rfl
   refine take_ (i := 9) (N := some 26) (v := ?_) (a' := ?_) #[true, true, true, true, true, true, true, true, true, true, false, false, false, false, false, false, false, false, false, false] rfl rfl (take_ofW HT_.out HW_.out (by kernel_rfl)) (fun _ _ _ h => h) (Or.inl ⟨by rfl, ?_⟩) hHeld ?_ ?_
   rotate_left
   ·rintro w' ⟨s0, s1, s2, s3, s4, s5, s6⟩
    go_simp
    with_reducible rfl
   rotate_left
   ·simp only [Act.put, sb0, sb1, sb2, i64_w, i32_w]
    rfl
   refine pure_ (i := 10) (N := some 27) (v := ?_) (a' := ?_) #[true, true, true, true, true, true, true, true, true, true, true, false, false, false, false, false, false, false, false, false] rfl rfl (any_of HT_.out (by kernel_rfl)) (fun _ _ _ h => h) (Or.inl ⟨by rfl, ?_⟩) ?_ ?_
   rotate_left
   ·intro w'
    go_simp
    with_reducible rfl
   rotate_left
   ·simp only [Act.put, sb0, sb1, sb2, i64_w, i32_w]
    rfl
   refine take_ (i := 11) (N := some 28) (v := ?_) (a' := ?_) #[true, true, true, true, true, true, true, true, true, true, true, true, false, false, false, false, false, false, false, false] rfl rfl (take_ofW HT_.out HW_.out (by kernel_rfl)) (fun _ _ _ h => h) (Or.inl ⟨by rfl, ?_⟩) hHeld ?_ ?_
   rotate_left
   ·rintro w' ⟨s0, s1, s2, s3, s4, s5, s6⟩
    go_simp
    with_reducible rfl
   rotate_left
   ·simp only [Act.put, sb0, sb1, sb2, i64_w, i32_w]
    rfl
   refine pure_ (i := 12) (N := some 29) (v := ?_) (a' := ?_) #[true, true, true, true, true, true, true, true, true, true, true, true, true, false, false, false, false, false, false, false] rfl rfl (any_of HT_.out (by kernel_rfl)) (fun _ _ _ h => h) (Or.inl ⟨by rfl, ?_⟩) ?_ ?_
   rotate_left
   ·intro w'
    go_simp
    with_reducible rfl
   rotate_left
   ·simp only [Act.put, sb0, sb1, sb2, i64_w, i32_w]
    rfl
   refine pure_ (i := 13) (N := some 30) (v := ?_) (a' := ?_) #[true, true, true, true, true, true, true, true, true, true, true, true, true, true, false, false, false, false, false, false] rfl rfl (any_of HT_.out (by kernel_rfl)) (fun _ _ _ h => h) (Or.inl ⟨by rfl, ?_⟩) ?_ ?_
   rotate_left
   ·intro w'
    go_simp
    with_reducible rfl
   rotate_left
   ·simp only [Act.put, sb0, sb1, sb2, i64_w, i32_w]
    rfl
   refine take_ (i := 14) (N := some 31) (v := ?_) (a' := ?_) #[true, true, true, true, true, true, true, true, true, true, true, true, true, true, true, false, false, false, false, false] rfl rfl (take_ofW HT_.out HW_.out (by kernel_rfl)) (fun _ _ _ h => h) (Or.inl ⟨by rfl, ?_⟩) hHeld ?_ ?_
   rotate_left
   ·rintro w' ⟨s0, s1, s2, s3, s4, s5, s6⟩
    go_simp
    with_reducible rfl
   rotate_left
   ·simp only [Act.put, sb0, sb1, sb2, i64_w, i32_w]
    rfl
   refine one_ (i := 15) (N := some 32) #[true, true, true, true, true, true, true, true, true, true, true, true, true, true, true, true, false, false, false, false] rfl rfl (one_of HT_.out (by kernel_rfl)) (by decide) (fun K hK => ?_)
   refine goes_ Try.func98 (by kernel_rfl) rfl #[.agg #[.slice A0 Wk.length c0, .slice A1 R.length c1], .int .i64 y0, .int .i64 y1] (by rfl) rfl rfl (by (try simp only [List.map_toArray, List.map_cons, List.map_nil]); rfl) ?_
   refine (road_calls y0 y1 HH.out).mono ?_
   rintro e_ w_ ⟨rfl, hbx⟩
   refine ⟨_, rfl, hK.out _ _ ⟨(hbx.cell (World.block_lt_of_cell? _ _ hHeld.1)).trans hHeld.1, (hbx.cell (World.block_lt_of_cell? _ _ hHeld.2.1)).trans hHeld.2.1, (hbx.cell (World.block_lt_of_cell? _ _ hHeld.2.2.1)).trans hHeld.2.2.1, (hbx.cell (World.block_lt_of_cell? _ _ hHeld.2.2.2.1)).trans hHeld.2.2.2.1, (hbx.cell (World.block_lt_of_cell? _ _ hHeld.2.2.2.2.1)).trans hHeld.2.2.2.2.1, (hbx.cell (World.block_lt_of_cell? _ _ hHeld.2.2.2.2.2.1)).trans hHeld.2.2.2.2.2.1, (hbx.cell (World.block_lt_of_cell? _ _ hHeld.2.2.2.2.2.2)).trans hHeld.2.2.2.2.2.2⟩ (fun hHeld => ?_)⟩
   clear hK K
   have HRx := Aside0.mk (HRd.out.trans (hbx.mono HRd.out.size))
   rw [HRI.out]
   clear hbx HH HRd
   refine norm_ (by simp only [Act.put, sb0, sb1, sb2]; rfl) ?_
   refine pure_ (i := 16) (N := some 33) (v := ?_) (a' := ?_) #[true, true, true, true, true, true, true, true, true, true, true, true, true, true, true, true, true, false, false, false] rfl rfl (any_of HT_.out (by kernel_rfl)) (fun _ _ _ h => h) (Or.inl ⟨by rfl, ?_⟩) ?_ ?_
   rotate_left
   ·intro w'
    go_simp
    with_reducible rfl
   rotate_left
   ·simp only [Act.put, sb0, sb1, sb2, i64_w, i32_w]
    rfl
   refine take_ (i := 17) (N := some 34) (v := ?_) (a' := ?_) #[true, true, true, true, true, true, true, true, true, true, true, true, true, true, true, true, true, true, false, false] rfl rfl (take_ofW HT_.out HW_.out (by kernel_rfl)) (fun _ _ _ h => h) (Or.inl ⟨by rfl, ?_⟩) hHeld ?_ ?_
   rotate_left
   ·rintro w' ⟨s0, s1, s2, s3, s4, s5, s6⟩
    go_simp
    with_reducible rfl
   rotate_left
   ·simp only [Act.put, sb0, sb1, sb2, i64_w, i32_w]
    rfl
   refine pure_ (i := 18) (N := some 35) (v := ?_) (a' := ?_) #[true, true, true, true, true, true, true, true, true, true, true, true, true, true, true, true, true, true, true, false] rfl rfl (any_of HT_.out (by kernel_rfl)) (fun _ _ _ h => h) (Or.inl ⟨by rfl, ?_⟩) ?_ ?_
   rotate_left
   ·intro w'
    go_simp
    with_reducible rfl
   rotate_left
   ·simp only [Act.put, sb0, sb1, sb2, i64_w, i32_w]
    rfl
   refine pure_ (i := 19) (N := some 6) (v := ?_) (a' := ?_) #[true, true, true, true, true, true, true, true, true, true, true, true, true, true, true, true, true, true, true, true] rfl rfl (any_of HT_.out (by kernel_rfl)) (fun _ _ _ h => h) (Or.inl ⟨by rfl, ?_⟩) ?_ ?_
   rotate_left
   ·intro w'
    go_simp
    with_reducible rfl
   rotate_left
   ·simp only [Act.put, sb0, sb1, sb2, i64_w, i32_w]
    rfl
   refine done_ (done_of HT_.out (by kernel_rfl)) ?_
   go_wp2_with fail
   go_roundw
   case rel => exact ⟨j + 1, i + 1, by have := HI.out; omega, by have := HI.out; omega, by have := HI.out; go_num, by rw [HWS.out], HRx⟩
   case measure => have := HI.out; simp [intOf]; omega
  ·have hij1 : decide (i < (l.length : Int)) = false := by simpa using hij
   have HLL := Aside0.mk (show l.length - 1 = j by omega)
   clear hi hij
   have hwb := wayS_bound HOK.out j (by omega)
   obtain ⟨sm, hsm⟩ : ∃ x, wayS R l tr j = x := ⟨_, rfl⟩
   rw [hsm] at hwb
   rw [hsm]
   have HSM := Aside0.mk hsm
   clear hsm
   go_wp2_with fail
   go_loopw [6, 39] (fun v6 v39 wq => ∃ k : Nat, k ≤ cs.length ∧ v39 = .int .i64 k ∧ v6 = .int .i64 (sm + cntS cs tw k) ∧ wq = wr) (fun _ v39 _ => cs.length - (intOf v39).toNat)
   case atStart => exact ⟨0, Nat.zero_le _, rfl, by simp [cntS], rfl⟩
   case round =>
    obtain ⟨k, hk, rfl, rfl, rfl⟩ := hrel
    by_cases hkl : k < cs.length
    ·obtain ⟨ad, e, hx⟩ := Kd.at_int (Kd.C_below HCS.out HBr.out) (k : Int) (by omega) (by omega)
     cases e
     simp only [Int.toNat_natCast] at hx
     have hwo := HOK.out.works k hkl
     have hcb2 := cntS_bound HOK.out k hk
     have hws : cntS cs tw (k + 1) = cntS cs tw k + rd tw (rd cs (k : Int)) := rfl
     obtain ⟨n, hn⟩ : ∃ x, rd cs (k : Int) = x := ⟨_, rfl⟩
     rw [hn] at hx hwo hws
     obtain ⟨hn0, hn1, hn2, hn3⟩ := hwo
     obtain ⟨aw, e, ht⟩ := Kd.at_int (Kd.C_below HTW.out HBr.out) n hn0 hn1
     cases e
     obtain ⟨y, hy⟩ : ∃ x, rd tw n = x := ⟨_, rfl⟩
     rw [hy] at ht hws hn2 hn3
     obtain ⟨sn, hsn⟩ : ∃ x, cntS cs tw k = x := ⟨_, rfl⟩
     rw [hsn] at hcb2 hws
     rw [hsn]
     have hsum : wrap64 (sm + sn + y) = sm + sn + y := IntWalk.wrap64_in _ (by omega)
     have HWS := Aside0.mk hws
     clear hn hy hsn hws
     go_wp2_with fail
     go_roundw
     case rel => exact ⟨k + 1, by omega, by go_num, by rw [HWS.out, Int.add_assoc], trivial⟩
     case measure => simp [intOf]; omega
    ·obtain rfl : k = cs.length := by omega
     go_wp2_with fail
     go_ret
     exact ⟨ret_int (by unfold timeF; rw [HLL.out, HSM.out]), HBr.out⟩
end Go.Proofs.Ytiddkceahbnolaa

namespace Go.Proofs.Ytiddkceahbnolaa
open Go.RowKit Go.Shelf Go.Proofs.Ytiddkceahbnolaa.PWalkOrder Go.Proofs.YtiddkceahbnolaaW.PrintWords Go.Proofs.YtiddkceahbnolaaW.PrintLast
set_option linter.unusedVariables false
set_option linter.unusedSimpArgs false
def bd.T7 : Bool × List (List Nat × List Nat) := (true, [([], []), ([], []), ([], []), ([], []), ([2, 3], [2, 3]), ([0, 1, 4, 4], [0, 1, 4]), ([], []), ([], []), ([], []), ([8, 5], [8]), ([6, 7, 9, 9], [6, 7, 9]), ([5, 10], [5, 10]), ([11, 10, 0, 1, 2, 3, 4, 5, 6, 7, 8, 9, 10, 11], [11]), ([12, 0, 1, 2, 3, 4, 5, 6, 7, 8, 9, 10, 11, 12], [])])
def bd.B7 : List Nat := [0, 0, 0, 0, 12, 31, 0, 0, 0, 319, 1023, 2047, 4095, 8191]
theorem bd.tab7 : rtab .any (opsOf Try.f27 7) = bd.T7 := by kernel_rfl
theorem bd.bits7 : waitsOk bd.T7.2 bd.B7 = true := by kernel_rfl
theorem fi_some {α : Type} (p : α → Bool) : ∀ (xs : List α) (i : Nat), 0 ≤ fi p xs i → ∃ k, ∃ hk : k < xs.length, fi p xs i = ((i + k : Nat) : Int) ∧ p xs[k] = true
 | [], i, h => by simp [fi] at h
 | x :: xs, i, h => by
  unfold fi at h ⊢
  by_cases hx : p x = true
  ·rw [if_pos hx]
   exact ⟨0, by simp, rfl, hx⟩
  ·rw [if_neg hx] at h ⊢
   obtain ⟨k, hk, h1, h2⟩ := fi_some p xs (i + 1) h
   exact ⟨k + 1, by simpa using hk, by rw [h1]; congr 1; omega, h2⟩
theorem rd_map {α : Type} (f : α → Int) (l : List α) (k : Nat) (h : k < l.length) : rd (l.map f) (k : Int) = f l[k] := by simp [rd, List.getD, h]
theorem rd_get (l : List Int) (k : Nat) (h : k < l.length) : rd l (k : Int) = l[k] := by simp [rd, List.getD, h]
theorem joins_ends {N : Nat} {r : S94} (hr : RoadOk N r) {a b : Int} (h : joinsB r a b = true) : 0 ≤ a ∧ a < N ∧ 0 ≤ b ∧ b < N := by
 unfold joinsB at h
 simp only [Bool.or_eq_true, Bool.and_eq_true, beq_iff_eq] at h
 have h1 := hr.a0; have h2 := hr.a1; have h3 := hr.b0; have h4 := hr.b1
 omega
theorem walk_ok {R : List S94} {l cs : List Int} (h : walkE R l cs = 0) : 0 < l.length ∧ l.length ≤ 64 ∧ rd l 0 = 0 ∧ legsB R l (l.length - 1) = true ∧ cs.all (fun v => l.any (fun y => v == y)) = true := by
 unfold walkE at h
 by_cases h1 : 64 < l.length
 ·rw [if_pos h1] at h; cases h
 ·rw [if_neg h1] at h
  by_cases h2 : l.length = 0
  ·rw [if_pos h2] at h; cases h
  ·rw [if_neg h2] at h
   by_cases h3 : rd l 0 = 0
   ·rw [if_neg (by simpa using h3)] at h
    by_cases h4 : rd l ((l.length : Int) - 1) = 0
    ·rw [if_neg (by simpa using h4)] at h
     cases h5 : legsB R l (l.length - 1)
     ·rw [h5, if_pos rfl] at h; cases h
     ·rw [h5, if_neg (by simp)] at h
      cases h6 : risesB cs
      ·rw [h6, if_pos rfl] at h; cases h
      ·rw [h6, if_neg (by simp)] at h
       cases h7 : cs.all (fun v => l.any (fun y => v == y))
       ·rw [h7, if_neg (by simp)] at h; cases h
       ·exact ⟨by omega, by omega, h3, rfl, rfl⟩
    ·rw [if_pos (by simpa using h4)] at h; cases h
   ·rw [if_pos (by simpa using h3)] at h; cases h
theorem timeOk_of {W : List S77} {R : List S94} {l cs : List Int} (hc : chkMap W R = 0) (hw : walkE R l cs = 0) (p : S77 → Int) (hp : ∀ x : S77, 0 ≤ x.f0 → x.f0 ≤ x.f1 → x.f1 ≤ 50 → 0 ≤ p x ∧ p x ≤ 50) :
  TimeOk R l cs (W.map p) (R.map (fun r => p r.f2)) := by
 obtain ⟨hN0, hN, _, hW, hR, _⟩ := chk_ok hc
 obtain ⟨hl0, hl, hl1, hlegs, hvis⟩ := walk_ok hw
 have hleg : ∀ k, k + 1 < l.length → ∃ q, ∃ hq : q < R.length, roadI R (rd l (k : Int)) (rd l ((k + 1 : Nat) : Int)) = (q : Int) ∧ joinsB R[q] (rd l (k : Int)) (rd l ((k + 1 : Nat) : Int)) = true := by
  intro k hk
  have := List.all_eq_true.1 hlegs k (List.mem_range.2 (by omega))
  simp only [Bool.not_eq_true', decide_eq_false_iff_not] at this
  obtain ⟨q, hq, h1, h2⟩ := fi_some (fun r => joinsB r (rd l (k : Int)) (rd l ((k + 1 : Nat) : Int))) R 0 (by
   have e : fi (fun r => joinsB r (rd l (k : Int)) (rd l ((k + 1 : Nat) : Int))) R 0 = roadI R (rd l (k : Int)) (rd l ((k + 1 : Nat) : Int)) := rfl
   rw [e]; omega)
  refine ⟨q, hq, ?_, h2⟩
  have e : fi (fun r => joinsB r (rd l (k : Int)) (rd l ((k + 1 : Nat) : Int))) R 0 = roadI R (rd l (k : Int)) (rd l ((k + 1 : Nat) : Int)) := rfl
  rw [← e, h1]
  congr 1
  omega
 have hplace : ∀ k, k < l.length → 0 ≤ rd l (k : Int) ∧ rd l (k : Int) < W.length := by
  intro k hk
  by_cases h0 : k = 0
  ·subst h0
   have : rd l ((0 : Nat) : Int) = 0 := hl1
   omega
  ·obtain ⟨j, rfl⟩ : ∃ j, k = j + 1 := ⟨k - 1, by omega⟩
   obtain ⟨q, hq, _, h2⟩ := hleg j hk
   have := joins_ends (hR _ (List.getElem_mem hq)) h2
   exact ⟨this.2.2.1, this.2.2.2⟩
 refine ⟨fun k hk => ?_, fun k hk => ?_⟩
 ·obtain ⟨q, hq, h1, h2⟩ := hleg k hk
  have hr := hR _ (List.getElem_mem hq)
  have hb := hp R[q].f2 (by have := hr.lo; omega) hr.le hr.hi
  rw [h1, rd_map (fun r : S94 => p r.f2) R q hq, List.length_map]
  exact ⟨by omega, by omega, hb.1, by have := hb.2; omega⟩
 ·have hm : rd cs (k : Int) ∈ cs := by rw [rd_get cs k hk]; exact List.getElem_mem hk
  obtain ⟨y, hy, e⟩ := List.any_eq_true.1 (List.all_eq_true.1 hvis _ hm)
  obtain ⟨j, hj, rfl⟩ := List.getElem_of_mem hy
  have e2 : rd cs (k : Int) = l[j] := by simpa using e
  have h3 := hplace j hj
  rw [rd_get l j hj] at h3
  rw [e2, List.length_map]
  obtain ⟨n, hn⟩ : ∃ n : Nat, l[j] = (n : Int) := ⟨l[j].toNat, by omega⟩
  rw [hn] at h3 ⊢
  have hnl : n < W.length := by omega
  have hw2 := hW _ (List.getElem_mem hnl)
  have hb := hp W[n] hw2.1 hw2.2.1 hw2.2.2
  rw [rd_map p W n hnl]
  exact ⟨by omega, by omega, hb.1, by have := hb.2; omega⟩

set_option maxRecDepth 100000 in
set_option maxHeartbeats 40000000 in
theorem slow_calls {A0 : Option Addr} {c0 : Nat} {Wk : List S77} {A1 : Option Addr} {c1 : Nat} {R : List S94} {w : World} (h : IsMap w A0 c0 Wk A1 c1 R) (hW : Wk.length ≤ 1000) (hR : R.length ≤ 1000) :
  Calls Try.prog 69 #[.agg #[.slice A0 Wk.length c0, .slice A1 R.length c1]] w fun e w' => (∃ v0 v1, e = .returned (.agg #[v0, v1]) ∧ (Kd.int .i64).R 3 w' w.heap.size (fun _ => True) v0 (Wk.map (fun x => x.f1)) ∧ (Kd.int .i64).R 3 w' w.heap.size (fun _ => True) v1 (R.map (fun r => r.f2.f1))) ∧ Below w.heap.size w w' := by
 have H := Aside0.mk h
 clear h
 go_enter Try.func69, Try.ntmps69
 go_wp2_with fail
 have hb0 := below_alloc (below_alloc (Below.refl w.heap.size w) (.cells #[.slice A0 Wk.length c0, .slice A1 R.length c1] 41)) (.cells #[.slice none 0 0, .slice none 0 0] 139)
 have B2 := Aside0.mk (show Blk _ (w.heap.size + 1) _ _ by simpa using Blk.new (w.alloc (.cells #[.slice A0 Wk.length c0, .slice A1 R.length c1] 41)) [.slice none 0 0, .slice none 0 0] 139)
 have hs0 : w.heap.size + 2 ≤ ((w.alloc (.cells #[.slice A0 Wk.length c0, .slice A1 R.length c1] 41)).alloc (.cells #[.slice none 0 0, .slice none 0 0] 139)).heap.size := by simp
 refine (extreme_calls 101 (enters Try.func101 (by kernel_rfl) rfl) _ high_end (H.out.below hb0) hW hR).mono ?_
 rintro e w1 ⟨⟨v0, v1, rfl, hR0, hR1⟩, hb1⟩
 have B21 := Aside0.mk (B2.out.below hb1)
 have HB1 := Aside0.mk (hb0.trans (hb1.mono (by omega)))
 obtain ⟨Av, nv, cv, rfl⟩ : ∃ A n c, v0 = .slice A n c := by
  obtain ⟨a_, b_, e_, _, _⟩ := Kd.R_reads hR0
  exact ⟨_, _, _, e_⟩
 obtain ⟨Au, nu, cu, rfl⟩ : ∃ A n c, v1 = .slice A n c := by
  obtain ⟨a_, b_, e_, _, _⟩ := Kd.R_reads hR1
  exact ⟨_, _, _, e_⟩
 have h20 := B21.out.cell 0
 have h21 := B21.out.cell 1
 have h20f := B21.out.frozen 0
 have h21f := B21.out.frozen 1
 simp only [sb3, sb4] at h20 h21
 have HR0 := Aside0.mk (Kd.R_mono (Kd.R_bound hR0) (fun b hb => (show w.heap.size + 2 ≤ b by have := hb.2.1; omega)))
 have HR1 := Aside0.mk (Kd.R_mono (Kd.R_bound hR1) (fun b hb => (show w.heap.size + 2 ≤ b by have := hb.2.1; omega)))
 have HS0 := Aside0.mk hs0
 clear hR0 hR1 hb0 hb1 hs0 B2
 go_wp2_with fail
 refine bodyPost_ret (results_cell_row rfl _ _ (w.heap.size + 1) 139 #[.slice Av nv cv, .slice Au nu cu] (0, 0) _ rfl (B21.out.set2 _ _) Try.underlying139 rfl (by kernel_rfl)) rfl ?_
 refine ⟨⟨_, _, rfl, ?_, ?_⟩, (HB1.out.setCell (p := ⟨w.heap.size + 1, 0, none⟩) (by simp only; omega) _).setCell (p := ⟨w.heap.size + 1, 1, none⟩) (by simp only; omega) _⟩
 ·exact Kd.R_mono (Kd.R_lower (Kd.R_far (Kd.R_far HR0.out (p := ⟨w.heap.size + 1, 0, none⟩) (fun b hb => by simp only; omega) _) (p := ⟨w.heap.size + 1, 1, none⟩) (fun b hb => by simp only; omega) _) (by have := HS0.out; omega)) (fun _ _ => trivial)
 ·exact Kd.R_mono (Kd.R_lower (Kd.R_far (Kd.R_far HR1.out (p := ⟨w.heap.size + 1, 0, none⟩) (fun b hb => by simp only; omega) _) (p := ⟨w.heap.size + 1, 1, none⟩) (fun b hb => by simp only; omega) _) (by have := HS0.out; omega)) (fun _ _ => trivial)

def boundsF (W : List S77) (R : List S94) (l cs : List Int) : Int × Int × Int :=
 if chkMap W R = 0 then (if walkE R l cs = 0 then (timeF R l cs (W.map fun x => x.f0) (R.map fun r => r.f2.f0), timeF R l cs (W.map fun x => x.f1) (R.map fun r => r.f2.f1), 0) else (0, 0, walkE R l cs)) else (0, 0, chkMap W R)

set_option maxRecDepth 100000 in
set_option maxHeartbeats 40000000 in
theorem Bounds_calls {A0 : Option Addr} {c0 : Nat} {Wk : List S77} {A1 : Option Addr} {c1 : Nat} {R : List S94} {w : World} (h : IsMap w A0 c0 Wk A1 c1 R)
  (l cs : List Int) {Al Ac : Option Addr} {cl cc : Nat} (hl : Kd.C (Kd.int .i64) w Al l.length l) (hll : l.length ≤ cl) (hlb : l.length < 1000000) (hcs : Kd.C (Kd.int .i64) w Ac cs.length cs) (hcl : cs.length ≤ cc) (hcsb : cs.length < 1000000) :
  Calls Try.prog 27 #[.agg #[.slice A0 Wk.length c0, .slice A1 R.length c1], .agg #[.slice Al l.length cl, .slice Ac cs.length cc]] w fun e w' => e = .returned (.tuple #[.agg #[.int .i64 (boundsF Wk R l cs).1, .int .i64 (boundsF Wk R l cs).2.1], .int .i64 (boundsF Wk R l cs).2.2]) ∧ Below w.heap.size w w' := by
 have H := Aside0.mk h
 have HL := Aside0.mk hl
 have HCS := Aside0.mk hcs
 clear h hl hcs
 go_enter Try.func27, Try.ntmps27
 go_wp2_with fail
 have B2 := Aside0.mk (((Blk.new w [.slice A0 Wk.length c0, .slice A1 R.length c1] 41).alloc (.cells #[.slice Al l.length cl, .slice Ac cs.length cc] 44)).alloc (.cells #[.int .i64 0, .int .i64 0] 77))
 have B3 := Aside0.mk (show Blk _ (w.heap.size + 1) _ _ by simpa using (Blk.new (w.alloc (.cells #[.slice A0 Wk.length c0, .slice A1 R.length c1] 41)) [.slice Al l.length cl, .slice Ac cs.length cc] 44).alloc (.cells #[.int .i64 0, .int .i64 0] 77))
 have B4 := Aside0.mk (show Blk _ (w.heap.size + 1 + 1) _ _ by simpa using Blk.new ((w.alloc (.cells #[.slice A0 Wk.length c0, .slice A1 R.length c1] 41)).alloc (.cells #[.slice Al l.length cl, .slice Ac cs.length cc] 44)) [.int .i64 0, .int .i64 0] 77)
 have HB := Aside0.mk (below_alloc (below_alloc (below_alloc (Below.refl w.heap.size w) (.cells #[.slice A0 Wk.length c0, .slice A1 R.length c1] 41)) (.cells #[.slice Al l.length cl, .slice Ac cs.length cc] 44)) (.cells #[.int .i64 0, .int .i64 0] 77))
 have hs0 : w.heap.size + 3 ≤ (((w.alloc (.cells #[.slice A0 Wk.length c0, .slice A1 R.length c1] 41)).alloc (.cells #[.slice Al l.length cl, .slice Ac cs.length cc] 44)).alloc (.cells #[.int .i64 0, .int .i64 0] 77)).heap.size := by simp
 generalize (((w.alloc (.cells #[.slice A0 Wk.length c0, .slice A1 R.length c1] 41)).alloc (.cells #[.slice Al l.length cl, .slice Ac cs.length cc] 44)).alloc (.cells #[.int .i64 0, .int .i64 0] 77)) = w0 at B2 B3 B4 HB hs0 ⊢
 refine (CheckMap_calls (H.out.below HB.out)).mono ?_
 rintro e w1 ⟨rfl, hb1⟩
 have B21 := Aside0.mk (B2.out.below hb1)
 have B31 := Aside0.mk (B3.out.below hb1)
 have B41 := Aside0.mk (B4.out.below hb1)
 have HB1 := Aside0.mk (HB.out.trans (hb1.mono (by omega)))
 have hs1 := Nat.le_trans hs0 hb1.size
 have h20 := B21.out.cell 0
 have h21 := B21.out.cell 1
 have h30 := B31.out.cell 0
 have h31 := B31.out.cell 1
 have h40 := B41.out.cell 0
 have h41 := B41.out.cell 1
 have h40f := B41.out.frozen 0
 have h41f := B41.out.frozen 1
 simp only [sb3, sb4] at h20 h21 h30 h31 h40 h41
 clear B2 B3 B4 HB hb1 hs0
 by_cases hc : chkMap Wk R = 0
 ·have hcb : (chkMap Wk R != 0) = false := by simp [hc]
  obtain ⟨hN0, hN, hR20, hW, hR, _⟩ := chk_ok hc
  have HC := Aside0.mk hc
  rw [hc]
  clear hc
  go_wp2_with fail
  refine (walk_calls (H.out.below HB1.out) l cs (Kd.C_below HL.out HB1.out) hll hlb (Kd.C_below HCS.out HB1.out) hcl hcsb).mono ?_
  rintro e w2 ⟨rfl, hb2⟩
  have B22 := Aside0.mk (B21.out.below hb2)
  have B32 := Aside0.mk (B31.out.below hb2)
  have B42 := Aside0.mk (B41.out.below hb2)
  have HB2 := Aside0.mk (HB1.out.trans (hb2.mono HB1.out.size))
  have hs2 := Nat.le_trans hs1 hb2.size
  clear B21 B31 B41 HB1 hs1 hb2 h20 h21 h30 h31 h40 h41 h40f h41f
  have h20 := B22.out.cell 0
  have h21 := B22.out.cell 1
  have h30 := B32.out.cell 0
  have h31 := B32.out.cell 1
  have h40 := B42.out.cell 0
  have h41 := B42.out.cell 1
  have h40f := B42.out.frozen 0
  have h41f := B42.out.frozen 1
  simp only [sb3, sb4] at h20 h21 h30 h31 h40 h41
  by_cases hw : walkE R l cs = 0
  ·have HLO := Aside0.mk (timeOk_of HC.out hw (fun x => x.f0) (fun x h1 h2 h3 => ⟨h1, by omega⟩))
   have HHI := Aside0.mk (timeOk_of HC.out hw (fun x => x.f1) (fun x h1 h2 h3 => ⟨by omega, h3⟩))
   have hl0 := (walk_ok hw).1
   have HFW := Aside0.mk (show boundsF Wk R l cs = (timeF R l cs (Wk.map fun x => x.f0) (R.map fun r => r.f2.f0), timeF R l cs (Wk.map fun x => x.f1) (R.map fun r => r.f2.f1), 0) by unfold boundsF; rw [if_pos HC.out, if_pos hw])
   obtain ⟨twl, htwl⟩ : ∃ t, Wk.map (fun x => x.f0) = t := ⟨_, rfl⟩
   obtain ⟨trl, htrl⟩ : ∃ t, R.map (fun r => r.f2.f0) = t := ⟨_, rfl⟩
   obtain ⟨twh, htwh⟩ : ∃ t, Wk.map (fun x => x.f1) = t := ⟨_, rfl⟩
   obtain ⟨trh, htrh⟩ : ∃ t, R.map (fun r => r.f2.f1) = t := ⟨_, rfl⟩
   rw [htwl, htrl, htwh, htrh] at HFW
   have HLO := Aside0.mk (show TimeOk R l cs twl trl by rw [← htwl, ← htrl]; exact HLO.out)
   have HHI := Aside0.mk (show TimeOk R l cs twh trh by rw [← htwh, ← htrh]; exact HHI.out)
   have Htwl := Aside0.mk htwl
   have Htrl := Aside0.mk htrl
   have Htwh := Aside0.mk htwh
   have Htrh := Aside0.mk htrh
   rw [hw]
   clear hw htwl htrl htwh htrh
   go_wp2_with fail
   refine start_ (n := 14) (S := fun w' => w'.cell? ⟨w.heap.size, 0, none⟩ = some (.slice A0 Wk.length c0) ∧ w'.cell? ⟨w.heap.size, 1, none⟩ = some (.slice A1 R.length c1) ∧ w'.cell? ⟨w.heap.size + 1, 0, none⟩ = some (.slice Al l.length cl) ∧ w'.cell? ⟨w.heap.size + 1, 1, none⟩ = some (.slice Ac cs.length cc)) (ds := [10, 12]) #[false, false, false, false, false, false, false, false, false, false, false, false, false, false] (by kernel_rfl) rfl rfl ⟨h20, h21, h30, h31⟩ (fun hHeld => ?_); refine with_tabW bd.tab7 bd.bits7 (fun HT_ HW_ => ?_)
   have HB3 := Aside0.mk (below_drew HB2.out)
   have B43 := Aside0.mk (B42.out.move rfl : Blk w2.drew _ _ _)
   have hs3 : w.heap.size + 3 ≤ w2.drew.heap.size := hs2
   clear HB2 B22 B32 B42 hs2 h20 h21 h30 h31 h40 h41 h40f h41f
   generalize w2.drew = wd at HB3 B43 hs3 hHeld ⊢
   refine take_ (i := 0) (N := some 21) (v := ?_) (a' := ?_) #[true, false, false, false, false, false, false, false, false, false, false, false, false, false] rfl rfl (take_ofW HT_.out HW_.out (by kernel_rfl)) (fun _ _ _ h => h) (Or.inl ⟨by rfl, ?_⟩) hHeld ?_ ?_
   rotate_left
   ·rintro w' ⟨s0, s1, s2, s3⟩
    go_simp
    with_reducible rfl
   rotate_left
   ·simp only [Act.put, sb0, sb1, sb2, i64_w, i32_w]
    rfl
   refine take_ (i := 1) (N := some 22) (v := ?_) (a' := ?_) #[true, true, false, false, false, false, false, false, false, false, false, false, false, false] rfl rfl (take_ofW HT_.out HW_.out (by kernel_rfl)) (fun _ _ _ h => h) (Or.inl ⟨by rfl, ?_⟩) hHeld ?_ ?_
   rotate_left
   ·rintro w' ⟨s0, s1, s2, s3⟩
    go_simp
    with_reducible rfl
   rotate_left
   ·simp only [Act.put, sb0, sb1, sb2, i64_w, i32_w]
    rfl
   refine take_ (i := 2) (N := some 23) (v := ?_) (a' := ?_) #[true, true, true, false, false, false, false, false, false, false, false, false, false, false] rfl rfl (take_ofW HT_.out HW_.out (by kernel_rfl)) (fun _ _ _ h => h) (Or.inl ⟨by rfl, ?_⟩) hHeld ?_ ?_
   rotate_left
   ·rintro w' ⟨s0, s1, s2, s3⟩
    go_simp
    with_reducible rfl
   rotate_left
   ·simp only [Act.put, sb0, sb1, sb2, i64_w, i32_w]
    rfl
   refine pure_ (i := 3) (N := some 24) (v := ?_) (a' := ?_) #[true, true, true, true, false, false, false, false, false, false, false, false, false, false] rfl rfl (any_of HT_.out (by kernel_rfl)) (fun _ _ _ h => h) (Or.inl ⟨by rfl, ?_⟩) ?_ ?_
   rotate_left
   ·intro w'
    go_simp
    with_reducible rfl
   rotate_left
   ·simp only [Act.put, sb0, sb1, sb2, i64_w, i32_w]
    rfl
   refine take_ (i := 6) (N := some 27) (v := ?_) (a' := ?_) #[true, true, true, true, false, false, true, false, false, false, false, false, false, false] rfl rfl (take_ofW HT_.out HW_.out (by kernel_rfl)) (fun _ _ _ h => h) (Or.inl ⟨by rfl, ?_⟩) hHeld ?_ ?_
   rotate_left
   ·rintro w' ⟨s0, s1, s2, s3⟩
    go_simp
    with_reducible rfl
   rotate_left
   ·simp only [Act.put, sb0, sb1, sb2, i64_w, i32_w]
    rfl
   refine take_ (i := 7) (N := some 28) (v := ?_) (a' := ?_) #[true, true, true, true, false, false, true, true, false, false, false, false, false, false] rfl rfl (take_ofW HT_.out HW_.out (by kernel_rfl)) (fun _ _ _ h => h) (Or.inl ⟨by rfl, ?_⟩) hHeld ?_ ?_
   rotate_left
   ·rintro w' ⟨s0, s1, s2, s3⟩
    go_simp
    with_reducible rfl
   rotate_left
   ·simp only [Act.put, sb0, sb1, sb2, i64_w, i32_w]
    rfl
   refine take_ (i := 8) (N := some 29) (v := ?_) (a' := ?_) #[true, true, true, true, false, false, true, true, true, false, false, false, false, false] rfl rfl (take_ofW HT_.out HW_.out (by kernel_rfl)) (fun _ _ _ h => h) (Or.inl ⟨by rfl, ?_⟩) hHeld ?_ ?_
   rotate_left
   ·rintro w' ⟨s0, s1, s2, s3⟩
    go_simp
    with_reducible rfl
   rotate_left
   ·simp only [Act.put, sb0, sb1, sb2, i64_w, i32_w]
    rfl
   refine one_ (i := 4) (N := some 25) #[true, true, true, true, true, false, true, true, true, false, false, false, false, false] rfl rfl (one_of HT_.out (by kernel_rfl)) (by decide) (fun K hK => ?_)
   refine goes_ Try.func67 (by kernel_rfl) rfl #[.agg #[.slice A0 Wk.length c0, .slice A1 R.length c1], .agg #[.func (.func 68) #[] #[]]] (by rfl) rfl rfl (by (try simp only [List.map_toArray, List.map_cons, List.map_nil]); rfl) ?_
   refine (extreme_calls 68 (enters Try.func68 (by kernel_rfl) rfl) _ low_end (H.out.below HB3.out) (by omega) (by omega)).mono ?_
   rintro e_ w_ ⟨⟨vA, vB, rfl, hRA, hRB⟩, hbx⟩
   refine ⟨_, rfl, hK.out _ _ ⟨(hbx.cell (World.block_lt_of_cell? _ _ hHeld.1)).trans hHeld.1, (hbx.cell (World.block_lt_of_cell? _ _ hHeld.2.1)).trans hHeld.2.1, (hbx.cell (World.block_lt_of_cell? _ _ hHeld.2.2.1)).trans hHeld.2.2.1, (hbx.cell (World.block_lt_of_cell? _ _ hHeld.2.2.2)).trans hHeld.2.2.2⟩ (fun hHeld => ?_)⟩
   clear hK K
   obtain ⟨Aw3, nw, cw3, rfl, hnw, hCw⟩ : ∃ A n c, vA = .slice A n c ∧ n = twl.length ∧ Kd.C (Kd.int .i64) w_ A n twl := by rw [← Htwl.out]; obtain ⟨a_, b_, e_, _, h_⟩ := Kd.R_reads hRA; exact ⟨_, _, _, e_, rfl, h_⟩
   subst hnw
   obtain ⟨Ar3, nr, cr3, rfl, hnr, hCr⟩ : ∃ A n c, vB = .slice A n c ∧ n = trl.length ∧ Kd.C (Kd.int .i64) w_ A n trl := by rw [← Htrl.out]; obtain ⟨a_, b_, e_, _, h_⟩ := Kd.R_reads hRB; exact ⟨_, _, _, e_, rfl, h_⟩
   subst hnr
   have HB4 := Aside0.mk (HB3.out.trans (hbx.mono HB3.out.size))
   have B44 := Aside0.mk (B43.out.below hbx)
   have HCW4 := Aside0.mk hCw
   have HCR4 := Aside0.mk hCr
   clear hbx hCw hCr hRA hRB HB3 B43
   refine norm_ (by simp only [Act.put, sb0, sb1, sb2]; rfl) ?_
   refine one_ (i := 5) (N := some 26) #[true, true, true, true, true, true, true, true, true, false, false, false, false, false] rfl rfl (one_of HT_.out (by kernel_rfl)) (by decide) (fun K hK => ?_)
   refine goes_ Try.func66 (by kernel_rfl) rfl #[.agg #[.slice A0 Wk.length c0, .slice A1 R.length c1], .agg #[.slice Al l.length cl, .slice Ac cs.length cc], .agg #[.slice Aw3 twl.length cw3, .slice Ar3 trl.length cr3]] (by rfl) rfl rfl (by (try simp only [List.map_toArray, List.map_cons, List.map_nil]); rfl) ?_
   refine (time_calls (H.out.below HB4.out) l cs twl trl (Kd.C_below HL.out HB4.out) hlb hl0 (Kd.C_below HCS.out HB4.out) hcsb HCW4.out HCR4.out HLO.out).mono ?_
   rintro e_ w_ ⟨rfl, hbx⟩
   refine ⟨_, rfl, hK.out _ _ ⟨(hbx.cell (World.block_lt_of_cell? _ _ hHeld.1)).trans hHeld.1, (hbx.cell (World.block_lt_of_cell? _ _ hHeld.2.1)).trans hHeld.2.1, (hbx.cell (World.block_lt_of_cell? _ _ hHeld.2.2.1)).trans hHeld.2.2.1, (hbx.cell (World.block_lt_of_cell? _ _ hHeld.2.2.2)).trans hHeld.2.2.2⟩ (fun hHeld => ?_)⟩
   clear hK K
   have HB5 := Aside0.mk (HB4.out.trans (hbx.mono HB4.out.size))
   have B45 := Aside0.mk (B44.out.below hbx)
   clear hbx HB4 B44 HCW4 HCR4
   refine norm_ (by simp only [Act.put, sb0, sb1, sb2]; rfl) ?_
   refine one_ (i := 9) (N := some 30) #[true, true, true, true, true, true, true, true, true, true, false, false, false, false] rfl rfl (one_of HT_.out (by kernel_rfl)) (by decide) (fun K hK => ?_)
   refine goes_ Try.func69 (by kernel_rfl) rfl #[.agg #[.slice A0 Wk.length c0, .slice A1 R.length c1]] (by rfl) rfl rfl (by (try simp only [List.map_toArray, List.map_cons, List.map_nil]); rfl) ?_
   refine (slow_calls (H.out.below HB5.out) (by omega) (by omega)).mono ?_
   rintro e_ w_ ⟨⟨vA, vB, rfl, hRA, hRB⟩, hbx⟩
   refine ⟨_, rfl, hK.out _ _ ⟨(hbx.cell (World.block_lt_of_cell? _ _ hHeld.1)).trans hHeld.1, (hbx.cell (World.block_lt_of_cell? _ _ hHeld.2.1)).trans hHeld.2.1, (hbx.cell (World.block_lt_of_cell? _ _ hHeld.2.2.1)).trans hHeld.2.2.1, (hbx.cell (World.block_lt_of_cell? _ _ hHeld.2.2.2)).trans hHeld.2.2.2⟩ (fun hHeld => ?_)⟩
   clear hK K
   obtain ⟨Aw5, nw, cw5, rfl, hnw, hCw⟩ : ∃ A n c, vA = .slice A n c ∧ n = twh.length ∧ Kd.C (Kd.int .i64) w_ A n twh := by rw [← Htwh.out]; obtain ⟨a_, b_, e_, _, h_⟩ := Kd.R_reads hRA; exact ⟨_, _, _, e_, rfl, h_⟩
   subst hnw
   obtain ⟨Ar5, nr, cr5, rfl, hnr, hCr⟩ : ∃ A n c, vB = .slice A n c ∧ n = trh.length ∧ Kd.C (Kd.int .i64) w_ A n trh := by rw [← Htrh.out]; obtain ⟨a_, b_, e_, _, h_⟩ := Kd.R_reads hRB; exact ⟨_, _, _, e_, rfl, h_⟩
   subst hnr
   have HB6 := Aside0.mk (HB5.out.trans (hbx.mono HB5.out.size))
   have B46 := Aside0.mk (B45.out.below hbx)
   have HCW6 := Aside0.mk hCw
   have HCR6 := Aside0.mk hCr
   clear hbx hCw hCr hRA hRB HB5 B45
   refine norm_ (by simp only [Act.put, sb0, sb1, sb2]; rfl) ?_
   refine last_ (i := 10) (N := some 31) #[true, true, true, true, true, true, true, true, true, true, true, false, false, false] rfl rfl (one_of HT_.out (by kernel_rfl)) (by decide) (fun K hK => ?_)
   refine goes_ Try.func66 (by kernel_rfl) rfl #[.agg #[.slice A0 Wk.length c0, .slice A1 R.length c1], .agg #[.slice Al l.length cl, .slice Ac cs.length cc], .agg #[.slice Aw5 twh.length cw5, .slice Ar5 trh.length cr5]] (by rfl) rfl rfl (by (try simp only [List.map_toArray, List.map_cons, List.map_nil]); rfl) ?_
   refine (time_calls (H.out.below HB6.out) l cs twh trh (Kd.C_below HL.out HB6.out) hlb hl0 (Kd.C_below HCS.out HB6.out) hcsb HCW6.out HCR6.out HHI.out).mono ?_
   rintro e_ w_ ⟨rfl, hbx⟩
   refine ⟨_, rfl, hK.out _ _ ?_⟩
   clear hK K
   have HB7 := Aside0.mk (HB6.out.trans (hbx.mono HB6.out.size))
   have B47 := Aside0.mk (B46.out.below hbx)
   clear hbx HB6 B46 HCW6 HCR6
   have h40 := B47.out.cell 0
   have h41 := B47.out.cell 1
   have h40f := B47.out.frozen 0
   have h41f := B47.out.frozen 1
   simp only [sb3, sb4] at h40 h41
   refine norm_ (by simp only [Act.put, sb0, sb1, sb2]; rfl) ?_
   refine pure_ (i := 11) (N := some 32) (v := ?_) (a' := ?_) #[true, true, true, true, true, true, true, true, true, true, true, true, false, false] rfl rfl (any_of HT_.out (by kernel_rfl)) (fun _ _ _ h => h) (Or.inl ⟨by rfl, ?_⟩) ?_ ?_
   rotate_left
   ·intro w'
    go_simp
    with_reducible rfl
   rotate_left
   ·simp only [Act.put, sb0, sb1, sb2, i64_w, i32_w]
    rfl
   refine last_ (i := 12) (N := none) #[true, true, true, true, true, true, true, true, true, true, true, true, true, false] rfl rfl (one_of HT_.out (by kernel_rfl)) (by decide) (fun K hK => ?_)
   have hst_ := h40
   have hfr_ := h40f
   refine skip_ (w1 := ?_) (by rfl) rfl ?_ ?_
   rotate_left
   ·go_simp
    rfl
   refine hK.out _ _ ?_
   clear hK K hst_ hfr_ 
   refine pure_ (i := 13) (N := some 5) (v := ?_) (a' := ?_) #[true, true, true, true, true, true, true, true, true, true, true, true, true, true] rfl rfl (any_of HT_.out (by kernel_rfl)) (fun _ _ _ h => h) (Or.inl ⟨by rfl, ?_⟩) ?_ ?_
   rotate_left
   ·intro w'
    go_simp
    with_reducible rfl
   rotate_left
   ·simp only [Act.put, sb0, sb1, sb2, i64_w, i32_w]
    rfl
   refine done_ (done_of HT_.out (by kernel_rfl)) ?_
   go_wp2_with fail
   refine bodyPost_ret (results_ct rfl _ _ (w.heap.size + 1 + 1) 77 #[.int .i64 (timeF R l cs twl trl), .int .i64 (timeF R l cs twh trh)] (0, 0) _ rfl (B47.out.set2 _ _) Try.underlying77 rfl (by kernel_rfl)) rfl ?_
   rw [HFW.out]
   exact ⟨rfl, (HB7.out.setCell (p := ⟨w.heap.size + 1 + 1, 0, none⟩) (by simp only; omega) _).setCell (p := ⟨w.heap.size + 1 + 1, 1, none⟩) (by simp only; omega) _⟩
  ·have hwb : (walkE R l cs != 0) = true := by simp [hw]
   have HFW := Aside0.mk (show boundsF Wk R l cs = (0, 0, walkE R l cs) by unfold boundsF; rw [if_pos HC.out, if_neg hw])
   clear hw
   go_wp2_with fail
   refine bodyPost_ret (results_ct rfl _ _ (w.heap.size + 1 + 1) 77 #[.int .i64 0, .int .i64 0] (0, 0) _ rfl (B42.out.set2 _ _) Try.underlying77 rfl (by kernel_rfl)) rfl ?_
   rw [HFW.out]
   exact ⟨rfl, (HB2.out.setCell (p := ⟨w.heap.size + 1 + 1, 0, none⟩) (by simp only; omega) _).setCell (p := ⟨w.heap.size + 1 + 1, 1, none⟩) (by simp only; omega) _⟩
 ·have hcb : (chkMap Wk R != 0) = true := by simp [hc]
  have HFW := Aside0.mk (show boundsF Wk R l cs = (0, 0, chkMap Wk R) by unfold boundsF; rw [if_neg hc])
  clear hc
  go_wp2_with fail
  refine bodyPost_ret (results_ct rfl _ _ (w.heap.size + 1 + 1) 77 #[.int .i64 0, .int .i64 0] (0, 0) _ rfl (B41.out.set2 _ _) Try.underlying77 rfl (by kernel_rfl)) rfl ?_
  rw [HFW.out]
  exact ⟨rfl, (HB1.out.setCell (p := ⟨w.heap.size + 1 + 1, 0, none⟩) (by simp only; omega) _).setCell (p := ⟨w.heap.size + 1 + 1, 1, none⟩) (by simp only; omega) _⟩
end Go.Proofs.Ytiddkceahbnolaa
