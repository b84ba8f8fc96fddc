/- walk's inner test of a walk: the error of a walk. -/
import Derived.Test.YtiddkceahbnolaaWalkA
import Derived.Laws.EntriesVeiled
namespace Go.Proofs.Ytiddkceahbnolaa
open Go.RowKit Go.Shelf Go.Proofs.Ytiddkceahbnolaa.PWalkOrder Go.Proofs.YtiddkceahbnolaaW.PrintWords Go.Proofs.YtiddkceahbnolaaW.PrintLast
set_option linter.unusedVariables false
set_option linter.unusedSimpArgs false
def wk.T8 : Bool × List (List Nat × List Nat) := (true, [([], []), ([], []), ([1], [1]), ([], []), ([3], [3]), ([2, 4], [2, 4]), ([5], [5]), ([], []), ([7], [7]), ([], []), ([8, 9], [8, 9]), ([10], [10]), ([0, 6, 11], [0, 6, 11]), ([12], [12])])
def wk.B8 : List Nat := [0, 0, 2, 0, 8, 30, 62, 0, 128, 0, 896, 1920, 4095, 8191]
theorem wk.tab8 : rtab .any (opsOf Try.f65 8) = wk.T8 := by kernel_rfl
theorem wk.bits8 : waitsOk wk.T8.2 wk.B8 = true := by kernel_rfl

def legsB (R : List S94) (l : List Int) (k : Nat) : Bool := (List.range k).all (fun i => !decide (roadI R (rd l (i : Int)) (rd l ((i + 1 : Nat) : Int)) < 0))
theorem legsB_succ (R : List S94) (l : List Int) (k : Nat) : legsB R l (k + 1) = (legsB R l k && !decide (roadI R (rd l (k : Int)) (rd l ((k + 1 : Nat) : Int)) < 0)) := by
 unfold legsB
 rw [List.range_succ, List.all_append]
 simp
theorem legsB_false {R : List S94} {l : List Int} {k n : Nat} (h : roadI R (rd l (k : Int)) (rd l ((k + 1 : Nat) : Int)) < 0) (hk : k < n) : legsB R l n = false := by
 unfold legsB
 rw [List.all_eq_false]
 exact ⟨k, by simpa using hk, by simpa using h⟩
def walkE (R : List S94) (l cs : List Int) : Int :=
 if 64 < l.length then 3 else if l.length = 0 then 2 else if rd l 0 ≠ 0 then 2 else if rd l ((l.length : Int) - 1) ≠ 0 then 2 else if legsB R l (l.length - 1) = false then 2 else if risesB cs = false then 2 else if cs.all (fun v => l.any (fun y => v == y)) = true then 0 else 2

set_option maxRecDepth 100000 in
set_option maxHeartbeats 40000000 in
theorem walk_calls {A0 : Option Addr} {c0 : Nat} {Wk : List S77} {A1 : Option Addr} {c1 : Nat} {R : List S94} {w : World} (h : IsMap w A0 c0 Wk A1 c1 R)
  (l cs : List Int) {Al Ac : Option Addr} {cl cc : Nat} (hl : Kd.C (Kd.int .i64) w Al l.length l) (hll : l.length ≤ cl) (hlb : l.length < 1000000) (hcs : Kd.C (Kd.int .i64) w Ac cs.length cs) (hcl : cs.length ≤ cc) (hcb : cs.length < 1000000) :
  Calls Try.prog 65 #[.agg #[.slice A0 Wk.length c0, .slice A1 R.length c1], .agg #[.slice Al l.length cl, .slice Ac cs.length cc]] w fun e w' => e = .returned (.int .i64 (walkE R l cs)) ∧ Below w.heap.size w w' := by
 have H := Aside0.mk h
 have HL := Aside0.mk hl
 have HCS := Aside0.mk hcs
 clear h hl hcs
 go_enter Try.func65, Try.ntmps65
 have hb0 := below_alloc (below_alloc (Below.refl w.heap.size w) (.cells #[.slice A0 Wk.length c0, .slice A1 R.length c1] 41)) (.cells #[.slice Al l.length cl, .slice Ac cs.length cc] 44)
 have B2 := Aside0.mk ((Blk.new w [.slice A0 Wk.length c0, .slice A1 R.length c1] 41).alloc (.cells #[.slice Al l.length cl, .slice Ac cs.length cc] 44))
 have B3 := Aside0.mk (show Blk _ (w.heap.size + 1) _ _ by simpa using Blk.new (w.alloc (.cells #[.slice A0 Wk.length c0, .slice A1 R.length c1] 41)) [.slice Al l.length cl, .slice Ac cs.length cc] 44)
 have HB := Aside0.mk hb0
 clear hb0
 have h30 := B3.out.cell 0
 have h31 := B3.out.cell 1
 simp only [sb3, sb4] at h30 h31
 by_cases hbig : 64 < l.length
 ·have hb : decide (64 < (l.length : Int)) = true := by simp; omega
  have HWE : walkE R l cs = 3 := by unfold walkE; rw [if_pos hbig]
  go_wp2_with fail
  go_ret
  rw [HWE]
  exact ⟨rfl, HB.out⟩
 ·have hb : decide (64 < (l.length : Int)) = false := by simp; omega
  by_cases hz : l.length = 0
  ·have HWE : walkE R l cs = 2 := by unfold walkE; rw [if_neg hbig, if_pos hz]
   have hz1 : ((l.length : Int) == 0) = true := by simp [hz]
   clear hz
   go_wp2_with fail
   go_ret
   rw [HWE]
   exact ⟨rfl, HB.out⟩
  ·have hz1 : ((l.length : Int) == 0) = false := by rw [beq_eq_false_iff_ne]; omega
   have hlz : (0 : Int) < l.length := by omega
   have hlz1 : (0 : Int) ≤ (l.length : Int) - 1 := by omega
   have hlz2 : (l.length : Int) - 1 < l.length := by omega
   have hlw : wrap64 ((l.length : Int) - 1) = (l.length : Int) - 1 := by unfold wrap64; omega
   obtain ⟨ad, e, ha⟩ := Kd.at_int (Kd.C_below HL.out HB.out) 0 (by omega) (by omega)
   cases e
   obtain ⟨ad', e, hz'⟩ := Kd.at_int (Kd.C_below HL.out HB.out) ((l.length : Int) - 1) (by omega) (by omega)
   cases e
   rw [show ad.add (Int.toNat 0) = ad from by cases ad; simp [Addr.add]] at ha
   rw [show ((l.length : Int) - 1).toNat = l.length - 1 by omega] at hz'
   obtain ⟨x0, hx0⟩ : ∃ x, rd l 0 = x := ⟨_, rfl⟩
   obtain ⟨x1, hx1⟩ : ∃ x, rd l ((l.length : Int) - 1) = x := ⟨_, rfl⟩
   rw [hx0] at ha
   rw [hx1] at hz'
   by_cases he0 : x0 = 0
   ·have heb : (x0 != 0) = false := by simp [he0]
    by_cases he1 : x1 = 0
    ·have heb1 : (x1 != 0) = false := by simp [he1]
     have HWE := Aside0.mk (show walkE R l cs = if legsB R l (l.length - 1) = false then 2 else if risesB cs = false then 2 else if cs.all (fun v => l.any (fun y => v == y)) = true then 0 else 2 by unfold walkE; rw [if_neg hbig, if_neg hz, if_neg (by rw [hx0]; simp [he0]), if_neg (by rw [hx1]; simp [he1])])
     clear he0 he1 hx0 hx1
     go_wp2_with fail
     clear ha hz' hz1 heb heb1 hlw hlz1 hlz2 hb h30 h31
     have hs0 : w.heap.size + 2 ≤ ((w.alloc (.cells #[.slice A0 Wk.length c0, .slice A1 R.length c1] 41)).alloc (.cells #[.slice (some ad) l.length cl, .slice Ac cs.length cc] 44)).heap.size := by simp
     generalize (w.alloc (.cells #[.slice A0 Wk.length c0, .slice A1 R.length c1] 41)).alloc (.cells #[.slice (some ad) l.length cl, .slice Ac cs.length cc] 44) = w2 at B2 B3 HB hs0 ⊢
     go_loopw [5] (fun v5 wr => ∃ (j : Nat) (i : Int), i = (j : Int) + 1 ∧ j + 1 ≤ l.length ∧ v5 = .int .i64 i ∧ Aside0 (legsB R l j = true) ∧ Aside0 (Below w2.heap.size w2 wr)) (fun v5 _ => l.length - (intOf v5).toNat)
     case atStart => exact ⟨0, 1, rfl, by omega, rfl, ⟨rfl⟩, ⟨Below.refl _ _⟩⟩
     case round =>
      obtain ⟨j, i, hi, hjl, rfl, HJ, HR⟩ := hrel
      have HBr := Aside0.mk (HB.out.trans (HR.out.mono HB.out.size))
      have B2r := Aside0.mk (B2.out.below HR.out)
      have B3r := Aside0.mk (B3.out.below HR.out)
      have hsr := HR.out.size
      have h20 := B2r.out.cell 0
      have h21 := B2r.out.cell 1
      have h30 := B3r.out.cell 0
      have h31 := B3r.out.cell 1
      simp only [sb3, sb4] at h20 h21 h30 h31
      by_cases hij : i < l.length
      ·obtain ⟨ad0, e, hp⟩ := Kd.at_int (Kd.C_below HL.out HBr.out) (j : Int) (by omega) (by omega)
       cases e
       obtain ⟨ad0, e, hq⟩ := Kd.at_int (Kd.C_below HL.out HBr.out) i (by omega) (by omega)
       cases e
       simp only [Int.toNat_natCast] at hp
       have hi0 : (0 : Int) ≤ i := by omega
       have hj0 : (j : Int) < l.length := by omega
       have hw : wrap64 (i - 1) = (j : Int) := by unfold wrap64; omega
       have hi1 : i = ((j + 1 : Nat) : Int) := by omega
       obtain ⟨y0, hy0⟩ : ∃ x, rd l (j : Int) = x := ⟨_, rfl⟩
       obtain ⟨y1, hy1⟩ : ∃ x, rd l i = x := ⟨_, rfl⟩
       have hls := legsB_succ R l j
       have hlf := legsB_false (R := R) (l := l) (k := j) (n := l.length - 1)
       rw [← hi1] at hls hlf
       rw [hy0] at hp hls hlf
       rw [hy1] at hq hls hlf
       have HLS := Aside0.mk hls
       have HLF := Aside0.mk hlf
       have HI := Aside0.mk hi
       clear hls hlf hy0 hy1 hi1 hi
       go_wp2_with fail
       refine start_ (n := 14) (S := fun w' => w'.cell? ⟨w.heap.size, 0, none⟩ = some (.slice A0 Wk.length c0) ∧ w'.cell? ⟨w.heap.size, 1, none⟩ = some (.slice A1 R.length c1) ∧ w'.cell? ⟨w.heap.size + 1, 0, none⟩ = some (.slice (some ad) l.length cl) ∧ w'.cell? (ad.add j) = some (.int .i64 y0) ∧ w'.cell? (ad.add i.toNat) = some (.int .i64 y1)) (ds := [12]) #[false, false, false, false, false, false, false, false, false, false, false, false, false, false] (by kernel_rfl) rfl rfl ⟨h20, h21, h30, hp, hq⟩ (fun hHeld => ?_); refine with_tabW wk.tab8 wk.bits8 (fun HT_ HW_ => ?_)
       have HH := Aside0.mk (H.out.below (below_drew HBr.out))
       have HRd := Aside0.mk (below_drew HR.out)
       clear HBr HR B2r B3r h20 h21 h30 h31 hp hq
       generalize wr.drew = wd at HH HRd hHeld ⊢
       refine take_ (i := 0) (N := some 40) (v := ?_) (a' := ?_) #[true, false, false, false, false, false, false, false, false, false, false, false, false, false] rfl rfl (take_ofW HT_.out HW_.out (by kernel_rfl)) (fun _ _ _ h => h) (Or.inl ⟨by rfl, ?_⟩) hHeld ?_ ?_
       rotate_left
       ·rintro w' ⟨s0, s1, s2, s3, s4⟩
        go_simp
        with_reducible rfl
       rotate_left
       ·simp only [Act.put, sb0, sb1, sb2, i64_w, i32_w]
        rfl
       refine pure_ (i := 1) (N := some 41) (v := ?_) (a' := ?_) #[true, true, false, false, false, false, false, false, false, false, false, false, false, false] rfl rfl (any_of HT_.out (by kernel_rfl)) (fun _ _ _ h => h) (Or.inl ⟨by rfl, ?_⟩) ?_ ?_
       rotate_left
       ·intro w'
        go_simp
        with_reducible rfl
       rotate_left
       ·simp only [Act.put, sb0, sb1, sb2, i64_w, i32_w]
        rfl
       refine take_ (i := 2) (N := some 42) (v := ?_) (a' := ?_) #[true, true, true, false, false, false, false, false, false, false, false, false, false, false] rfl rfl (take_ofW HT_.out HW_.out (by kernel_rfl)) (fun _ _ _ h => h) (Or.inl ⟨by rfl, ?_⟩) hHeld ?_ ?_
       rotate_left
       ·rintro w' ⟨s0, s1, s2, s3, s4⟩
        go_simp
        with_reducible rfl
       rotate_left
       ·simp only [Act.put, sb0, sb1, sb2, i64_w, i32_w]
        rfl
       refine pure_ (i := 3) (N := some 43) (v := ?_) (a' := ?_) #[true, true, true, true, false, false, false, false, false, false, false, false, false, false] rfl rfl (any_of HT_.out (by kernel_rfl)) (fun _ _ _ h => h) (Or.inl ⟨by rfl, ?_⟩) ?_ ?_
       rotate_left
       ·intro w'
        go_simp
        with_reducible rfl
       rotate_left
       ·simp only [Act.put, sb0, sb1, sb2, i64_w, i32_w]
        rfl
       refine pure_ (i := 4) (N := some 44) (v := ?_) (a' := ?_) #[true, true, true, true, true, false, false, false, false, false, false, false, false, false] rfl rfl (any_of HT_.out (by kernel_rfl)) (fun _ _ _ h => h) (Or.inl ⟨by rfl, ?_⟩) ?_ ?_
       rotate_left
       ·intro w'
        go_simp
        with_reducible rfl
       rotate_left
       ·simp only [Act.put, sb0, sb1, sb2, i64_w, i32_w]
        rfl
       refine pure_ (i := 5) (N := some 45) (v := ?_) (a' := ?_) #[true, true, true, true, true, true, false, false, false, false, false, false, false, false] rfl rfl (any_of HT_.out (by kernel_rfl)) (fun _ _ _ h => h) (Or.inl ⟨by rfl, ?_⟩) ?_ ?_
       rotate_left
       ·intro w'
        go_simp
        with_reducible rfl
       rotate_left
       ·simp only [Act.put, sb0, sb1, sb2, i64_w, i32_w]
        rfl
       refine take_ (i := 6) (N := some 46) (v := ?_) (a' := ?_) #[true, true, true, true, true, true, true, false, false, false, false, false, false, false] rfl rfl (take_ofW HT_.out HW_.out (by kernel_rfl)) (fun _ _ _ h => h) (Or.inl ⟨by rfl, ?_⟩) hHeld ?_ ?_
       rotate_left
       ·rintro w' ⟨s0, s1, s2, s3, s4⟩
        go_simp
        with_reducible rfl
       rotate_left
       ·simp only [Act.put, sb0, sb1, sb2, i64_w, i32_w]
        rfl
       refine pure_ (i := 7) (N := some 47) (v := ?_) (a' := ?_) #[true, true, true, true, true, true, true, true, false, false, false, false, false, false] rfl rfl (any_of HT_.out (by kernel_rfl)) (fun _ _ _ h => h) (Or.inl ⟨by rfl, ?_⟩) ?_ ?_
       rotate_left
       ·intro w'
        go_simp
        with_reducible rfl
       rotate_left
       ·simp only [Act.put, sb0, sb1, sb2, i64_w, i32_w]
        rfl
       refine take_ (i := 8) (N := some 48) (v := ?_) (a' := ?_) #[true, true, true, true, true, true, true, true, true, false, false, false, false, false] rfl rfl (take_ofW HT_.out HW_.out (by kernel_rfl)) (fun _ _ _ h => h) (Or.inl ⟨by rfl, ?_⟩) hHeld ?_ ?_
       rotate_left
       ·rintro w' ⟨s0, s1, s2, s3, s4⟩
        go_simp
        with_reducible rfl
       rotate_left
       ·simp only [Act.put, sb0, sb1, sb2, i64_w, i32_w]
        rfl
       refine pure_ (i := 9) (N := some 49) (v := ?_) (a' := ?_) #[true, true, true, true, true, true, true, true, true, true, false, false, false, false] rfl rfl (any_of HT_.out (by kernel_rfl)) (fun _ _ _ h => h) (Or.inl ⟨by rfl, ?_⟩) ?_ ?_
       rotate_left
       ·intro w'
        go_simp
        with_reducible rfl
       rotate_left
       ·simp only [Act.put, sb0, sb1, sb2, i64_w, i32_w]
        rfl
       refine pure_ (i := 10) (N := some 50) (v := ?_) (a' := ?_) #[true, true, true, true, true, true, true, true, true, true, true, false, false, false] rfl rfl (any_of HT_.out (by kernel_rfl)) (fun _ _ _ h => h) (Or.inl ⟨by rfl, ?_⟩) ?_ ?_
       rotate_left
       ·intro w'
        go_simp
        with_reducible rfl
       rotate_left
       ·simp only [Act.put, sb0, sb1, sb2, i64_w, i32_w]
        rfl
       refine take_ (i := 11) (N := some 51) (v := ?_) (a' := ?_) #[true, true, true, true, true, true, true, true, true, true, true, true, false, false] rfl rfl (take_ofW HT_.out HW_.out (by kernel_rfl)) (fun _ _ _ h => h) (Or.inl ⟨by rfl, ?_⟩) hHeld ?_ ?_
       rotate_left
       ·rintro w' ⟨s0, s1, s2, s3, s4⟩
        go_simp
        with_reducible rfl
       rotate_left
       ·simp only [Act.put, sb0, sb1, sb2, i64_w, i32_w]
        rfl
       refine last_ (i := 12) (N := some 52) #[true, true, true, true, true, true, true, true, true, true, true, true, true, false] rfl rfl (one_of HT_.out (by kernel_rfl)) (by decide) (fun K hK => ?_)
       refine goes_ Try.func98 (by kernel_rfl) rfl #[.agg #[.slice A0 Wk.length c0, .slice A1 R.length c1], .int .i64 y0, .int .i64 y1] (by rfl) rfl rfl (by (try simp only [List.map_toArray, List.map_cons, List.map_nil]); rfl) ?_
       refine (road_calls y0 y1 HH.out).mono ?_
       rintro e_ w_ ⟨rfl, hbx⟩
       refine ⟨_, rfl, hK.out _ _ ?_⟩
       clear hK K
       have HRx := Aside0.mk (HRd.out.trans (hbx.mono HRd.out.size))
       clear hbx HH HRd
       refine norm_ (by simp only [Act.put, sb0, sb1, sb2]; rfl) ?_
       refine pure_ (i := 13) (N := some 53) (v := ?_) (a' := ?_) #[true, true, true, true, true, true, true, true, true, true, true, true, true, true] rfl rfl (any_of HT_.out (by kernel_rfl)) (fun _ _ _ h => h) (Or.inl ⟨by rfl, ?_⟩) ?_ ?_
       rotate_left
       ·intro w'
        go_simp
        with_reducible rfl
       rotate_left
       ·simp only [Act.put, sb0, sb1, sb2, i64_w, i32_w]
        rfl
       refine done_ (done_of HT_.out (by kernel_rfl)) ?_
       generalize roadI R y0 y1 = ri at HLS HLF ⊢
       by_cases hri : ri < 0
       ·have hrb : decide (ri < 0) = true := by simpa using hri
        go_wp2_with fail
        go_ret
        rw [HWE.out, HLF.out hri (by have := HI.out; omega), if_pos rfl]
        exact ⟨rfl, HB.out.trans (HRx.out.mono HB.out.size)⟩
       ·have hrb : decide (ri < 0) = false := by simpa using hri
        go_wp2_with fail
        go_roundw
        case rel => exact ⟨j + 1, i + 1, by have := HI.out; omega, by have := HI.out; omega, by have := HI.out; go_num, ⟨by rw [HLS.out, HJ.out, hrb]; rfl⟩, HRx⟩
        case measure => have := HI.out; simp [intOf]; omega
      ·have hij1 : decide (i < (l.length : Int)) = false := by simpa using hij
       have HLL := Aside0.mk (show l.length - 1 = j by omega)
       have HI := Aside0.mk hi
       clear hi hij
       go_wp2_with fail
       refine (walk_rises.calls (cs.length + 1) Ac cc cs (risesB cs) wr (Kd.C_below HCS.out HBr.out) hcl (rises_ok cs hcb)).mono ?_
       rintro e w5 ⟨rfl, hd5⟩
       have hb5 := hd5.below
       have HB5 := Aside0.mk (HBr.out.trans (hb5.mono HBr.out.size))
       have B35 := Aside0.mk (B3r.out.below hb5)
       have hs5 := hb5.size
       have h50 := B35.out.cell 0
       have h51 := B35.out.cell 1
       simp only [sb3, sb4] at h50 h51
       rw [HLL.out, HJ.out, if_neg (by simp)] at HWE
       clear hd5 hb5 h20 h21 h30 h31
       cases hrs : risesB cs
       ·rw [hrs, if_pos rfl] at HWE
        go_wp2_with fail
        go_ret
        rw [HWE.out]
        exact ⟨rfl, HB5.out⟩
       ·rw [hrs, if_neg (by simp)] at HWE
        clear hrs
        go_wp2_with fail
        refine (all_Num 99 #[] #[.pointer (some ⟨w.heap.size + 1, 0, none⟩)] (enters Try.func99 (by kernel_rfl) rfl) (fun v => l.any (fun y => v == y)) Ac cc cs _ (Kd.C_below HCS.out HB5.out) (by omega) ?_).mono ?_
        ·intro W x hW
         exact visited_calls (w.heap.size + 1) x (some ad) cl l _ W (B35.out.below hW) (Kd.C_below HL.out (HB5.out.trans (hW.mono HB5.out.size))) (by omega)
        rintro e w6 ⟨rfl, hb6⟩
        have HB6 := Aside0.mk (HB5.out.trans (hb6.mono HB5.out.size))
        clear hb6 B35
        cases hal : (cs.all (fun v => l.any (fun y => v == y)))
        ·rw [hal, if_neg (by simp)] at HWE
         go_wp2_with fail
         go_ret
         rw [HWE.out]
         exact ⟨rfl, HB6.out⟩
        ·rw [hal, if_pos rfl] at HWE
         go_wp2_with fail
         go_ret
         rw [HWE.out]
         exact ⟨rfl, HB6.out⟩
    ·have heb1 : (x1 != 0) = true := by simp [he1]
     have HWE : walkE R l cs = 2 := by unfold walkE; rw [if_neg hbig, if_neg hz, if_neg (by rw [hx0]; simp [he0]), if_pos (by rw [hx1]; simp [he1])]
     clear he0 he1 hx0 hx1 hz
     go_wp2_with fail
     go_ret
     rw [HWE]
     exact ⟨rfl, HB.out⟩
   ·have heb : (x0 != 0) = true := by simp [he0]
    have HWE : walkE R l cs = 2 := by unfold walkE; rw [if_neg hbig, if_neg hz, if_pos (by rw [hx0]; simp [he0])]
    clear he0 hx0 hz
    go_wp2_with fail
    go_ret
    rw [HWE]
    exact ⟨rfl, HB.out⟩
end Go.Proofs.Ytiddkceahbnolaa
