/- border's law: its own code: the second map. -/
import Derived.Test.YtiddkceahbnolaaZLawE
namespace Go.Proofs.Ytiddkceahbnolaa
open Go.RowKit Go.Shelf Go.Proofs.Ytiddkceahbnolaa.PBorderOrder Go.Proofs.YtiddkceahbnolaaW.PrintWords Go.Proofs.YtiddkceahbnolaaW.PrintLast Go.Proofs.YtiddkceahbnolaaW.PrintMore
set_option linter.all false
def ld.T5 : Bool × List (List Nat × List Nat) := (true, [([], []), ([], []), ([1], [1]), ([0, 2], [0, 2]), ([], []), ([4], [4]), ([3, 5], [3, 5]), ([], []), ([7, 6, 3, 0, 1, 2, 3, 4, 5, 6, 7], [6, 7])])
def ld.B5 : List Nat := [0, 0, 2, 7, 0, 16, 63, 0, 255]
theorem ld.tab5 : rtab .any (opsOf Try.f4 5) = ld.T5 := by kernel_rfl
theorem ld.bits5 : waitsOk ld.T5.2 ld.B5 = true := by kernel_rfl
def ld.T6 : Bool × List (List Nat × List Nat) := (true, [([], []), ([], []), ([1], [1]), ([], []), ([2, 3], [2, 3]), ([0, 4], [0, 4]), ([], []), ([6], [6]), ([], []), ([7, 8], [7, 8]), ([5, 9, 5], [5, 9]), ([0, 1, 2, 3, 4, 5, 6, 7, 8, 9, 10], []), ([11, 10, 10, 0, 1, 2, 3, 4, 5, 6, 7, 8, 9, 10], [10, 11])])
def ld.B6 : List Nat := [0, 0, 2, 0, 14, 31, 0, 64, 0, 448, 1023, 2047, 4095]
theorem ld.tab6 : rtab .any (opsOf Try.f4 6) = ld.T6 := by kernel_rfl
theorem ld.bits6 : waitsOk ld.T6.2 ld.B6 = true := by kernel_rfl
def ld.T10 : Bool × List (List Nat × List Nat) := (true, [([], []), ([0], [0]), ([], []), ([], []), ([3], [3]), ([2, 4], [2, 4]), ([], []), ([6], [6]), ([7], [7]), ([5, 8], [5, 8]), ([1, 9], [1, 9]), ([10], [10]), ([], []), ([12, 11, 0, 1, 2, 3, 4, 5, 6, 7, 8, 9, 10, 11, 12], [11, 12])])
def ld.B10 : List Nat := [0, 1, 0, 0, 8, 28, 0, 64, 192, 508, 1023, 2047, 0, 8191]
theorem ld.tab10 : rtab .any (opsOf Try.f4 10) = ld.T10 := by kernel_rfl
theorem ld.bits10 : waitsOk ld.T10.2 ld.B10 = true := by kernel_rfl
def ld.T11 : Bool × List (List Nat × List Nat) := (true, [([], []), ([0], [0]), ([], []), ([1, 2], [1, 2]), ([], []), ([3, 4], [3, 4]), ([], []), ([5, 6], [5, 6]), ([], []), ([8], [8]), ([], []), ([9, 10], [9, 10]), ([], []), ([11, 12], [11, 12]), ([], []), ([13, 14], [13, 14]), ([0, 1, 2, 3, 4, 5, 6, 7, 8, 9], []), ([16, 7, 0, 1, 2, 3, 4, 5, 6, 7, 8, 9], [7, 16]), ([0, 1, 2, 3, 4, 5, 6, 7, 8, 9, 10, 11, 12, 13, 14, 15, 16, 17], []), ([18, 15, 17, 0, 1, 2, 3, 4, 5, 6, 7, 8, 9, 10, 11, 12, 13, 14, 15, 16, 17], [15, 18])])
def ld.B11 : List Nat := [0, 1, 0, 7, 0, 31, 0, 127, 0, 256, 0, 1792, 0, 7936, 0, 32512, 1023, 66559, 262143, 524287]
theorem ld.tab11 : rtab .any (opsOf Try.f4 11) = ld.T11 := by kernel_rfl
theorem ld.bits11 : waitsOk ld.T11.2 ld.B11 = true := by kernel_rfl
set_option maxRecDepth 100000 in
set_option maxHeartbeats 40000000 in
theorem lawD_wp {w0 w : World} {A0 : Option Addr} {c0 : Nat} {old : List Int} {nw : Int} {A2 : Option Addr} {c2 : Nat} {rs : List S118} {A3 : Option Addr} {c3 : Nat} {rj : List S62} {lo hi turn : Int} {bn k : Nat} (a : Act) (ha : a = { tmps := lawFr (.int .u8 (bn : Int)) (.int .u8 turn) (.pointer (some ⟨w0.heap.size, 0, none⟩)) (.pointer (some ⟨w0.heap.size + 1, 0, none⟩)) (.int .i64 (rs.length : Int)) (.int .i64 (k : Int)) (a.tmps.getD 11 undef) (fun i => a.tmps.getD i undef), defers := [] })
  (HB : Aside0 (Below w0.heap.size w0 w)) (B4 : Aside0 (Blk w w0.heap.size [.slice A0 old.length c0, .int .i64 nw, .slice A2 rs.length c2, .slice A3 rj.length c3] 57)) (B5 : Aside0 (Blk w (w0.heap.size + 1) [.int .i64 lo, .int .i64 hi] 58))
  (K0 : Aside0 ((Kd.int .i64).C w0 A0 old.length old)) (K2 : Aside0 (k118.C w0 A2 rs.length rs)) (hc2 : rs.length ≤ c2) (K3 : Aside0 (k62.C w0 A3 rj.length rj)) (HV : Aside0 (JV rs.length rj 0))
  (ht0 : old.length ≤ 7) (ht2 : rs.length ≤ 11) (ht3 : rj.length ≤ 24) (hby1 : (bn : Int) < 256) (htn0 : 0 ≤ turn) (htn1 : turn < 256) (hkl : k < rs.length)
  (K : Act → World → Prop) (hK : ∀ a' w', Code.wp Try.prog (lawT 5) (lawQ w0) a' w' → K a' w') : Code.wp Try.prog (leftOf (lawT 4)) (Exit.then K (lawQ w0)) a w := by
 obtain ⟨u, hu⟩ : ∃ u : Nat → Value, a = { tmps := lawFr (.int .u8 (bn : Int)) (.int .u8 turn) (.pointer (some ⟨w0.heap.size, 0, none⟩)) (.pointer (some ⟨w0.heap.size + 1, 0, none⟩)) (.int .i64 (rs.length : Int)) (.int .i64 (k : Int)) (u 11) u, defers := [] } := ⟨fun i => a.tmps.getD i undef, ha⟩
 clear ha
 subst hu
 unfold lawFr
 have h40 := B4.out.cell 0
 have h41 := B4.out.cell 1
 simp only [sb3, sb4] at h40 h41
 unfold lawT
 conv => arg 2; whnf
 unfold lawQ
 refine start_ (n := 9) (S := fun w' => w'.cell? ⟨w0.heap.size, 0, none⟩ = some (.slice A0 old.length c0) ∧ w'.cell? ⟨w0.heap.size, 1, none⟩ = some (.int .i64 nw)) (ds := [8]) #[O,O,O,O,O,O,O,O,O] (by kernel_rfl) rfl rfl ⟨h40, h41⟩ (fun hHeld => ?_); refine with_tabW ld.tab5 ld.bits5 (fun HT_ HW_ => ?_)
 have B4d := Aside0.mk (B4.out.move rfl : Blk w.drew _ _ _)
 have B5d := Aside0.mk (B5.out.move rfl : Blk w.drew _ _ _)
 have HBd := Aside0.mk (below_drew HB.out)
 have hlt : w0.heap.size < w.drew.heap.size := B4.out.lt
 clear B4 B5 HB h40 h41
 generalize w.drew = wd at B4d B5d HBd hlt hHeld ⊢
 have K0d := Aside0.mk (Kd.C_below K0.out HBd.out)
 refine pu_ 1 49 #[O,I,O,O,O,O,O,O,O] HT_ (h := ?_)
 refine ta_ 2 50 #[O,I,I,O,O,O,O,O,O] HT_ HW_ hHeld (hy := by (rintro w' ⟨s0, s1⟩; go_simp; with_reducible rfl)) (h := ?_)
 refine pu_ 4 52 #[O,I,I,O,I,O,O,O,O] HT_ (h := ?_)
 refine ta_ 5 53 #[O,I,I,O,I,I,O,O,O] HT_ HW_ hHeld (hy := by (rintro w' ⟨s0, s1⟩; go_simp; with_reducible rfl)) (h := ?_)
 refine join_ (σ := Value × Value × Nat) 1 #[I,I,I,I,I,I,I,I,O] (fun s => [(48, s.1), (51, s.2.1), (54, .agg #[s.2.1, .int .i64 nw, .slice none 0 0, .slice none 0 0]), (11, .pointer (some ⟨s.2.2, 0, none⟩))]) (fun s w' => (Kd.int .i64).R 3 w' wd.heap.size (fun _ => True) s.2.1 old ∧ Blk w' s.2.2 [.slice none 0 0, .int .i64 0, .slice none 0 0, .slice none 0 0] 57 ∧ wd.heap.size ≤ s.2.2 ∧ Below wd.heap.size wd w') ?cont ?orders
 case orders =>
  intro hcont
  refine two_ (i := 0) (j := 7) (Ni := some 48) (Nj := some 11) #[I,I,I,O,I,I,O,O,O] #[O,I,I,O,I,I,O,I,O] rfl rfl rfl rfl (two_of HT_.out (by kernel_rfl)) (by decide) (by decide) (fun K hK => ?_) (fun K hK => ?_)
  ·refine Kd.R_lit_step (Kd.int .i64) (w0 := wd) wd.heap.size 3 (by rfl) (N := 48) rfl (xs := ([] : List Int)) (inner := []) (ok := fun _ => True) (okp := fun _ => True) ?hr (Reps.none _ _) (fun _ hk => hk) trivial (Below.refl _ _) (Nat.le_refl _) (by simp) ?_
   case hr => first | (go_simp; done) | (go_simp; rfl)
   intro v48 wl hr0 hb0 hg0 hat0
   refine hK.out _ _ ⟨(hb0.cell (p := ⟨w0.heap.size, 0, none⟩) hlt).trans hHeld.1, (hb0.cell (p := ⟨w0.heap.size, 1, none⟩) hlt).trans hHeld.2⟩ (fun _ => ?_)
   clear hK K
   refine norm_ (by simp only [Act.put, sb0, sb1, sb2]; rfl) ?_
   refine two_ (i := 3) (j := 7) (Ni := some 51) (Nj := some 11) #[I,I,I,I,I,I,O,O,O] #[I,I,I,O,I,I,O,I,O] rfl rfl rfl rfl (two_of HT_.out (by kernel_rfl)) (by decide) (by decide) (fun K hK => ?_) (fun K hK => ?_)
   ·refine Kd.R_append_rows_step (Kd.int .i64) (w0 := wd) wd.heap.size (by rfl) (.tmp 48) (.tmp 50) 26 3 (.int .i64 0) 8 rfl Try.underlying26 info3 rfl (by decide) (by omega) v48 [] old _ _ _ (fun _ => True) (fun _ => False) rfl rfl hr0 (Kd.C_below K0d.out hb0) (fun x cs h => h) (fun _ hk => hk.elim) (fun _ _ => trivial) hb0 hb0.size (by simp only [List.length_nil]; omega) ?_
    intro v51 wn hon hbn hgn hatn
    rw [List.nil_append] at hon
    obtain ⟨X0, n0, x0, rfl⟩ := slice_of hon
    refine hK.out _ _ ⟨(hbn.cell (p := ⟨w0.heap.size, 0, none⟩) hlt).trans hHeld.1, (hbn.cell (p := ⟨w0.heap.size, 1, none⟩) hlt).trans hHeld.2⟩ (fun _ => ?_)
    clear hK K
    refine norm_ (by simp only [Act.put, sb0, sb1, sb2]; rfl) ?_
    refine pu_ 6 54 #[I,I,I,I,I,I,I,O,O] HT_ (h := ?_)
    refine one_ (i := 7) (N := some 11) #[I,I,I,I,I,I,I,I,O] rfl rfl (one_of HT_.out (by kernel_rfl)) (by decide) (fun K hK => ?_)
    refine value_ (w1 := ?_) (v := ?_) (by rfl) rfl ?_ ?_
    rotate_left 2
    ·go_simp
     constructor <;> rfl
    refine hK.out _ _ ⟨((hbn.alloc hbn.size (.cells #[.slice none 0 0, .int .i64 0, .slice none 0 0, .slice none 0 0] 57)).cell (p := ⟨w0.heap.size, 0, none⟩) hlt).trans hHeld.1, ((hbn.alloc hbn.size (.cells #[.slice none 0 0, .int .i64 0, .slice none 0 0, .slice none 0 0] 57)).cell (p := ⟨w0.heap.size, 1, none⟩) hlt).trans hHeld.2⟩ (fun _ => ?_)
    clear hK K
    have hfin := hcont (v48, .slice X0 n0 x0, wn.heap.size) _ ⟨Kd.R_alloc hon (.cells #[.slice none 0 0, .int .i64 0, .slice none 0 0, .slice none 0 0] 57), Blk.new wn [.slice none 0 0, .int .i64 0, .slice none 0 0, .slice none 0 0] 57, hbn.size, hbn.alloc hbn.size (.cells #[.slice none 0 0, .int .i64 0, .slice none 0 0, .slice none 0 0] 57)⟩
    refine norm_ ?_ hfin
    (simp only [putAll, Act.put, sb0, sb1, sb2]) <;> rfl
   ·refine value_ (w1 := ?_) (v := ?_) (by rfl) rfl ?_ ?_
    rotate_left 2
    ·go_simp
     constructor <;> rfl
    refine hK.out _ _ ⟨((hb0.alloc hb0.size (.cells #[.slice none 0 0, .int .i64 0, .slice none 0 0, .slice none 0 0] 57)).cell (p := ⟨w0.heap.size, 0, none⟩) hlt).trans hHeld.1, ((hb0.alloc hb0.size (.cells #[.slice none 0 0, .int .i64 0, .slice none 0 0, .slice none 0 0] 57)).cell (p := ⟨w0.heap.size, 1, none⟩) hlt).trans hHeld.2⟩ (fun _ => ?_)
    clear hK K
    have BL := Blk.new wl [.slice none 0 0, .int .i64 0, .slice none 0 0, .slice none 0 0] 57
    have hba := hb0.alloc hb0.size (.cells #[.slice none 0 0, .int .i64 0, .slice none 0 0, .slice none 0 0] 57)
    have hra := Kd.R_alloc hr0 (.cells #[.slice none 0 0, .int .i64 0, .slice none 0 0, .slice none 0 0] 57)
    have hgl := hb0.size
    refine norm_ (by simp only [Act.put, sb0, sb1, sb2]; rfl) ?_
    generalize wl.alloc (.cells #[.slice none 0 0, .int .i64 0, .slice none 0 0, .slice none 0 0] 57) = wa at BL hba hra ⊢
    generalize wl.heap.size = gb at BL hgl ⊢
    refine one_ (i := 3) (N := some 51) #[I,I,I,I,I,I,O,I,O] rfl rfl (one_of HT_.out (by kernel_rfl)) (by decide) (fun K hK => ?_)
    refine Kd.R_append_rows_step (Kd.int .i64) (w0 := wd) wd.heap.size (by rfl) (.tmp 48) (.tmp 50) 26 3 (.int .i64 0) 8 rfl Try.underlying26 info3 rfl (by decide) (by omega) v48 [] old _ _ _ (fun _ => True) (fun _ => False) rfl rfl hra (Kd.C_below K0d.out hba) (fun x cs h => h) (fun _ hk => hk.elim) (fun _ _ => trivial) hba hba.size (by simp only [List.length_nil]; omega) ?_
    intro v51 wn hon hbn hgn hatn
    rw [List.nil_append] at hon
    obtain ⟨X0, n0, x0, rfl⟩ := slice_of hon
    refine hK.out _ _ ⟨(hbn.cell (p := ⟨w0.heap.size, 0, none⟩) hlt).trans hHeld.1, (hbn.cell (p := ⟨w0.heap.size, 1, none⟩) hlt).trans hHeld.2⟩ (fun _ => ?_)
    clear hK K
    refine norm_ (by simp only [Act.put, sb0, sb1, sb2]; rfl) ?_
    refine pu_ 6 54 #[I,I,I,I,I,I,I,I,O] HT_ (h := ?_)
    have hfin := hcont (v48, .slice X0 n0 x0, gb) _ ⟨hon, BL.move (hgn.block _ BL.lt (own_ne hra BL (by decide))), hgl, hbn⟩
    refine norm_ ?_ hfin
    (simp only [putAll, Act.put, sb0, sb1, sb2]) <;> rfl
  ·refine value_ (w1 := ?_) (v := ?_) (by rfl) rfl ?_ ?_
   rotate_left 2
   ·go_simp
    constructor <;> rfl
   refine hK.out _ _ ⟨((below_alloc (Below.refl wd.heap.size wd) (.cells #[.slice none 0 0, .int .i64 0, .slice none 0 0, .slice none 0 0] 57)).cell (p := ⟨w0.heap.size, 0, none⟩) hlt).trans hHeld.1, ((below_alloc (Below.refl wd.heap.size wd) (.cells #[.slice none 0 0, .int .i64 0, .slice none 0 0, .slice none 0 0] 57)).cell (p := ⟨w0.heap.size, 1, none⟩) hlt).trans hHeld.2⟩ (fun _ => ?_)
   clear hK K
   have BL := Blk.new wd [.slice none 0 0, .int .i64 0, .slice none 0 0, .slice none 0 0] 57
   have hba := below_alloc (Below.refl wd.heap.size wd) (.cells #[.slice none 0 0, .int .i64 0, .slice none 0 0, .slice none 0 0] 57)
   refine norm_ (by simp only [Act.put, sb0, sb1, sb2]; rfl) ?_
   generalize wd.alloc (.cells #[.slice none 0 0, .int .i64 0, .slice none 0 0, .slice none 0 0] 57) = wa at BL hba ⊢
   refine one_ (i := 0) (N := some 48) #[I,I,I,O,I,I,O,I,O] rfl rfl (one_of HT_.out (by kernel_rfl)) (by decide) (fun K hK => ?_)
   refine Kd.R_lit_step (Kd.int .i64) (w0 := wd) wd.heap.size 3 (by rfl) (N := 48) rfl (xs := ([] : List Int)) (inner := []) (ok := fun _ => True) (okp := fun _ => True) ?hr (Reps.none _ _) (fun _ hk => hk) trivial hba hba.size (by simp) ?_
   case hr => first | (go_simp; done) | (go_simp; rfl)
   intro v48 wl hr0 hb0 hg0 hat0
   refine hK.out _ _ ⟨(hb0.cell (p := ⟨w0.heap.size, 0, none⟩) hlt).trans hHeld.1, (hb0.cell (p := ⟨w0.heap.size, 1, none⟩) hlt).trans hHeld.2⟩ (fun _ => ?_)
   clear hK K
   have BL2 := BL.move (hg0.block _ BL.lt (fun e => by cases e))
   refine norm_ (by simp only [Act.put, sb0, sb1, sb2]; rfl) ?_
   refine one_ (i := 3) (N := some 51) #[I,I,I,I,I,I,O,I,O] rfl rfl (one_of HT_.out (by kernel_rfl)) (by decide) (fun K hK => ?_)
   refine Kd.R_append_rows_step (Kd.int .i64) (w0 := wd) wd.heap.size (by rfl) (.tmp 48) (.tmp 50) 26 3 (.int .i64 0) 8 rfl Try.underlying26 info3 rfl (by decide) (by omega) v48 [] old _ _ _ (fun _ => True) (fun _ => False) rfl rfl hr0 (Kd.C_below K0d.out hb0) (fun x cs h => h) (fun _ hk => hk.elim) (fun _ _ => trivial) hb0 hb0.size (by simp only [List.length_nil]; omega) ?_
   intro v51 wn hon hbn hgn hatn
   rw [List.nil_append] at hon
   obtain ⟨X0, n0, x0, rfl⟩ := slice_of hon
   refine hK.out _ _ ⟨(hbn.cell (p := ⟨w0.heap.size, 0, none⟩) hlt).trans hHeld.1, (hbn.cell (p := ⟨w0.heap.size, 1, none⟩) hlt).trans hHeld.2⟩ (fun _ => ?_)
   clear hK K
   refine norm_ (by simp only [Act.put, sb0, sb1, sb2]; rfl) ?_
   refine pu_ 6 54 #[I,I,I,I,I,I,I,I,O] HT_ (h := ?_)
   have hfin := hcont (v48, .slice X0 n0 x0, wd.heap.size) _ ⟨hon, BL2.move (hgn.block _ BL2.lt (own_ne hr0 BL2 (by decide))), Nat.le_refl _, hbn⟩
   refine norm_ ?_ hfin
   (simp only [putAll, Act.put, sb0, sb1, sb2]) <;> rfl
 rintro ⟨v48, v51, b11⟩ w6 ⟨hr0, hb3, hlo, hB6⟩
 dsimp only at hr0 hb3 hlo
 refine norm_ (by simp only [putAll, Act.put, sb0, sb1, sb2]; rfl) ?_
 have HR0 := Aside0.mk (Kd.R_types hr0 hb3 (by decide))
 have B46 := Aside0.mk (B4d.out.below hB6)
 have B56 := Aside0.mk (B5d.out.below hB6)
 have B116 := Aside0.mk hb3
 have HB6 := Aside0.mk (HBd.out.trans (hB6.mono HBd.out.size))
 obtain ⟨X0, n0, x0, rfl⟩ := slice_of hr0
 have hl3 := hb3.lt
 have h5l := B5d.out.lt
 have hlw : w0.heap.size + 1 < b11 := by omega
 clear hr0 hb3 hB6 B4d B5d HBd hHeld K0d
 refine last_ (i := 8) (N := none) #[I,I,I,I,I,I,I,I,I] rfl rfl (one_of HT_.out (by kernel_rfl)) (by decide) (fun K hK => ?_)
 have hst_ := (show w6.cell? ⟨b11, 0, none⟩ = some (.slice none 0 0) by simpa using B116.out.cell 0)
 have hfr_ := B116.out.frozen 0
 have hst1_ : w6.cell? ⟨b11, 1, none⟩ = some (.int .i64 0) := by simpa using B116.out.cell 1
 have hst2_ : w6.cell? ⟨b11, 2, none⟩ = some (.slice none 0 0) := by simpa using B116.out.cell 2
 have hst3_ : w6.cell? ⟨b11, 3, none⟩ = some (.slice none 0 0) := by simpa using B116.out.cell 3
 have hfr1_ : w6.frozen? ⟨b11, 1, none⟩ = false := B116.out.frozen 1
 have hfr2_ : w6.frozen? ⟨b11, 2, none⟩ = false := B116.out.frozen 2
 have hfr3_ : w6.frozen? ⟨b11, 3, none⟩ = false := B116.out.frozen 3
 refine skip_ (w1 := ?_) (by rfl) rfl ?_ ?_
 rotate_left
 ·go_simp
  rfl
 refine hK.out _ _ ?_
 clear hK K hst_ hfr_ hst1_ hfr1_ hst2_ hfr2_ hst3_ hfr3_
 refine done_ (done_of HT_.out (by kernel_rfl)) ?_
 clear HT_ HW_
 refine hK _ _ ?_
 have BZ := Aside0.mk (show Blk _ b11 [.slice X0 n0 x0, .int .i64 nw, .slice none 0 0, .slice none 0 0] _ from blk_set (blk_set (blk_set (blk_set B116.out 0 (.slice X0 n0 x0)) 1 (.int .i64 nw)) 2 (.slice none 0 0)) 3 (.slice none 0 0))
 have B4z := Aside0.mk ((((B46.out.move (Below.heap_setCell _ ⟨b11, 0, none⟩ (.slice X0 n0 x0) _ (by simp only; omega))).move (Below.heap_setCell _ ⟨b11, 1, none⟩ (.int .i64 nw) _ (by simp only; omega))).move (Below.heap_setCell _ ⟨b11, 2, none⟩ (.slice none 0 0) _ (by simp only; omega))).move (Below.heap_setCell _ ⟨b11, 3, none⟩ (.slice none 0 0) _ (by simp only; omega)))
 have B5z := Aside0.mk ((((B56.out.move (Below.heap_setCell _ ⟨b11, 0, none⟩ (.slice X0 n0 x0) _ (by simp only; omega))).move (Below.heap_setCell _ ⟨b11, 1, none⟩ (.int .i64 nw) _ (by simp only; omega))).move (Below.heap_setCell _ ⟨b11, 2, none⟩ (.slice none 0 0) _ (by simp only; omega))).move (Below.heap_setCell _ ⟨b11, 3, none⟩ (.slice none 0 0) _ (by simp only; omega)))
 have HBz := Aside0.mk ((((HB6.out.setCell (p := ⟨b11, 0, none⟩) (by simp only; omega) (.slice X0 n0 x0)).setCell (p := ⟨b11, 1, none⟩) (by simp only; omega) (.int .i64 nw)).setCell (p := ⟨b11, 2, none⟩) (by simp only; omega) (.slice none 0 0)).setCell (p := ⟨b11, 3, none⟩) (by simp only; omega) (.slice none 0 0))
 have R0z := Aside0.mk (Kd.R_mono (Kd.R_far (Kd.R_far (Kd.R_far (Kd.R_far HR0.out (p := ⟨b11, 0, none⟩) (fun b hb => hb.2) (.slice X0 n0 x0)) (p := ⟨b11, 1, none⟩) (fun b hb => hb.2) (.int .i64 nw)) (p := ⟨b11, 2, none⟩) (fun b hb => hb.2) (.slice none 0 0)) (p := ⟨b11, 3, none⟩) (fun b hb => hb.2) (.slice none 0 0)) (fun b hb => hb.2))
 clear B116 B46 B56 HB6 HR0 hl3
 generalize ((((w6.setCell ⟨b11, 0, none⟩ (.slice X0 n0 x0)).setCell ⟨b11, 1, none⟩ (.int .i64 nw)).setCell ⟨b11, 2, none⟩ (.slice none 0 0)).setCell ⟨b11, 3, none⟩ (.slice none 0 0)) = wz at BZ B4z B5z HBz R0z ⊢
 refine lawE_wp _ ?_ HBz B4z B5z BZ R0z hlw K0 K2 K3 HV hc2 ht0 ht2 ht3 hby1 htn0 htn1 hkl
 rfl
end Go.Proofs.Ytiddkceahbnolaa
