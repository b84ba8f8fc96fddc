/- walk's extreme: the truth in which each number is at the same end of its range. -/
import Derived.Test.YtiddkceahbnolaaTourE
import Derived.Test.YtiddkceahbnolaaWalkB
import Derived.Laws.EntriesVeiled
namespace Go.Proofs.Ytiddkceahbnolaa
open Go.RowKit Go.Shelf Go.Proofs.Ytiddkceahbnolaa.PWalkOrder Go.Proofs.YtiddkceahbnolaaW.PrintWords Go.Proofs.YtiddkceahbnolaaW.PrintLast
set_option linter.unusedVariables false
set_option linter.unusedSimpArgs false
def ex.T4 : Bool × List (List Nat × List Nat) := (true, [([], []), ([0], [0]), ([], []), ([2], [2]), ([], []), ([3, 4], [3, 4]), ([5], [5]), ([1, 6, 5], [1, 6]), ([0, 1, 2, 3, 4, 5, 6, 7], []), ([8, 7, 7, 0, 1, 2, 3, 4, 5, 6, 7], [7, 8])])
def ex.B4 : List Nat := [0, 1, 0, 4, 0, 28, 60, 127, 255, 511]
theorem ex.tab4 : rtab .any (opsOf Try.f67 4) = ex.T4 := by kernel_rfl
theorem ex.bits4 : waitsOk ex.T4.2 ex.B4 = true := by kernel_rfl
def ex.T9 : Bool × List (List Nat × List Nat) := (true, [([], []), ([0], [0]), ([], []), ([2], [2]), ([], []), ([4], [4]), ([3, 5], [3, 5]), ([6], [6]), ([1, 7, 6], [1, 7]), ([0, 1, 2, 3, 4, 5, 6, 7, 8], []), ([9, 8, 8, 0, 1, 2, 3, 4, 5, 6, 7, 8], [8, 9])])
def ex.B9 : List Nat := [0, 1, 0, 4, 0, 16, 60, 124, 255, 511, 1023]
theorem ex.tab9 : rtab .any (opsOf Try.f67 9) = ex.T9 := by kernel_rfl
theorem ex.bits9 : waitsOk ex.T9.2 ex.B9 = true := by kernel_rfl
theorem take_map {α : Type} (f : α → Int) (l : List α) (k : Nat) (h : k < l.length) : (l.take (k + 1)).map f = (l.take k).map f ++ [f l[k]] := by
 rw [List.take_succ_eq_append_getElem h, List.map_append]
 rfl
/-- A function value that answers p of each range. -/
def EndOf (g : Nat) (p : S77 → Int) : Prop := ∀ (W : World) (x : S77), Calls Try.prog g #[.agg #[.int .i64 x.f0, .int .i64 x.f1]] W fun e w' => e = .returned (.int .i64 (p x)) ∧ Below W.heap.size W w'
theorem low_end : EndOf 68 (fun x => x.f0) := fun W x => walk_Range_low.calls x.f0 x.f1 x.f0 W rfl
theorem high_end : EndOf 101 (fun x => x.f1) := fun W x => walk_Range_high.calls x.f0 x.f1 x.f1 W rfl

set_option maxRecDepth 100000 in
set_option maxHeartbeats 40000000 in
theorem extreme_calls (g : Nat) (hg : ∀ args w, (callFunc g args).run Try.prog w = .ok (.enter g args) w) (p : S77 → Int) (hp : EndOf g p) {A0 : Option Addr} {c0 : Nat} {Wk : List S77} {A1 : Option Addr} {c1 : Nat} {R : List S94} {w : World} (h : IsMap w A0 c0 Wk A1 c1 R) (hW : Wk.length ≤ 1000) (hR : R.length ≤ 1000) :
  Calls Try.prog 67 #[.agg #[.slice A0 Wk.length c0, .slice A1 R.length c1], .agg #[.func (.func g) #[] #[]]] w fun e w' => (∃ v0 v1, e = .returned (.agg #[v0, v1]) ∧ (Kd.int .i64).R 3 w' w.heap.size (fun _ => True) v0 (Wk.map p) ∧ (Kd.int .i64).R 3 w' w.heap.size (fun _ => True) v1 (R.map (fun r => p r.f2))) ∧ Below w.heap.size w w' := by
 have H := Aside0.mk h
 have HP := Aside0.mk hp
 have HG := Aside0.mk hg
 clear h hp hg
 go_enter Try.func67, Try.ntmps67
 have hb0 := below_alloc (below_alloc (below_alloc (Below.refl w.heap.size w) (.cells #[.slice A0 Wk.length c0, .slice A1 R.length c1] 41)) (.cells #[.func (.func g) #[] #[]] 144)) (.cells #[.slice none 0 0, .slice none 0 0] 139)
 have B2 := Aside0.mk (((Blk.new w [.slice A0 Wk.length c0, .slice A1 R.length c1] 41).alloc (.cells #[.func (.func g) #[] #[]] 144)).alloc (.cells #[.slice none 0 0, .slice none 0 0] 139))
 have B3 := Aside0.mk (show Blk _ (w.heap.size + 1) _ _ by simpa using (Blk.new (w.alloc (.cells #[.slice A0 Wk.length c0, .slice A1 R.length c1] 41)) [.func (.func g) #[] #[]] 144).alloc (.cells #[.slice none 0 0, .slice none 0 0] 139))
 have B4 := Aside0.mk (show Blk _ (w.heap.size + 2) _ _ by simpa using Blk.new ((w.alloc (.cells #[.slice A0 Wk.length c0, .slice A1 R.length c1] 41)).alloc (.cells #[.func (.func g) #[] #[]] 144)) [.slice none 0 0, .slice none 0 0] 139)
 have HB := Aside0.mk hb0
 have hs0 : w.heap.size + 3 ≤ (((w.alloc (.cells #[.slice A0 Wk.length c0, .slice A1 R.length c1] 41)).alloc (.cells #[.func (.func g) #[] #[]] 144)).alloc (.cells #[.slice none 0 0, .slice none 0 0] 139)).heap.size := by simp
 have h20 := B2.out.cell 0
 have h21 := B2.out.cell 1
 simp only [sb3, sb4] at h20 h21
 clear hb0
 go_wp2_with fail
 clear h20 h21
 generalize (((w.alloc (.cells #[.slice A0 Wk.length c0, .slice A1 R.length c1] 41)).alloc (.cells #[.func (.func g) #[] #[]] 144)).alloc (.cells #[.slice none 0 0, .slice none 0 0] 139)) = w3 at B2 B3 B4 HB hs0 ⊢
 go_loopw [12] (fun v12 wr => ∃ (k : Nat) (v : Value), k ≤ Wk.length ∧ v12 = .int .i64 k ∧ w3.heap.size ≤ wr.heap.size ∧ Aside0 (Below w.heap.size w wr) ∧ Aside0 (Blk wr w.heap.size [.slice A0 Wk.length c0, .slice A1 R.length c1] 41) ∧ Aside0 (Blk wr (w.heap.size + 1) [.func (.func g) #[] #[]] 144) ∧ Aside0 (Blk wr (w.heap.size + 2) [v, .slice none 0 0] 139) ∧ Aside0 ((Kd.int .i64).R 3 wr w3.heap.size (fun b => w3.heap.size ≤ b) v ((Wk.take k).map p))) (fun v12 _ => Wk.length - (intOf v12).toNat)
 case atStart => exact ⟨0, .slice none 0 0, Nat.zero_le _, rfl, Nat.le_refl _, HB, B2, B3, B4, ⟨Kd.R_nil _ _ _ _ _⟩⟩
 case round =>
  clear HB B2 B3 B4
  obtain ⟨k, v, hk, rfl, hsr, HB, B2, B3, B4, HV⟩ := hrel
  by_cases hkl : k < Wk.length
  ·have hkl1 : (k : Int) < Wk.length := by omega
   obtain ⟨ad, e, hc0, hc1⟩ := at_T77 (Kd.C_below H.out.work HB.out) k (by omega) hkl1
   cases e
   simp only [Int.toNat_natCast] at hc0 hc1
   have hrk : rd_T77 Wk (k : Int) = Wk[k] := by simp [rd_T77, List.getD, hkl]
   rw [hrk] at hc0 hc1
   have HTM := Aside0.mk (take_map p Wk k hkl)
   obtain ⟨x, hx⟩ : ∃ x, Wk[k] = x := ⟨_, rfl⟩
   rw [hx] at hc0 hc1 HTM
   have hlk : ((Wk.take k).map p).length ≤ 1000 := by simp; omega
   obtain ⟨xs, hxs⟩ : ∃ xs, (Wk.take k).map p = xs := ⟨_, rfl⟩
   rw [hxs] at HV HTM hlk
   clear hx hrk hxs
   go_wp2_with fail
   have B6 := Aside0.mk (Blk.new wr [.int .i64 x.f0, .int .i64 x.f1] 77)
   have HBn := Aside0.mk (below_alloc (Below.refl wr.heap.size wr) (.cells #[.int .i64 x.f0, .int .i64 x.f1] 77))
   clear hc0 hc1
   generalize hw4 : wr.alloc (.cells #[.int .i64 x.f0, .int .i64 x.f1] 77) = w4 at B6 HBn ⊢
   clear hw4
   have B24 := Aside0.mk (B2.out.below HBn.out)
   have B34 := Aside0.mk (B3.out.below HBn.out)
   have B44 := Aside0.mk (B4.out.below HBn.out)
   have HV4 := Aside0.mk (Kd.R_below HV.out HBn.out)
   have HB4 := Aside0.mk (HB.out.trans (HBn.out.mono HB.out.size))
   have hs4 := Nat.le_trans hsr HBn.out.size
   have h30 := B34.out.cell 0
   have h40 := B44.out.cell 0
   have h60 := B6.out.cell 0
   have h61 := B6.out.cell 1
   simp only [sb3, sb4] at h30 h40 h60 h61
   clear HBn HB B2 B3 B4 HV hsr
   refine start_ (n := 10) (S := fun w' => w'.cell? ⟨w.heap.size + 1, 0, none⟩ = some (.func (.func g) #[] #[]) ∧ w'.cell? ⟨w.heap.size + 2, 0, none⟩ = some v ∧ w'.cell? ⟨wr.heap.size, 0, none⟩ = some (.int .i64 x.f0) ∧ w'.cell? ⟨wr.heap.size, 1, none⟩ = some (.int .i64 x.f1)) (ds := [7, 9]) #[false, false, false, false, false, false, false, false, false, false] (by kernel_rfl) rfl rfl ⟨h30, h40, h60, h61⟩ (fun hHeld => ?_); refine with_tabW ex.tab4 ex.bits4 (fun HT_ HW_ => ?_)
   have HV4 := Aside0.mk (Kd.R_drew HV4.out)
   have HB4 := Aside0.mk (below_drew HB4.out)
   have B6 := Aside0.mk (B6.out.move rfl : Blk w4.drew _ _ _)
   have B24 := Aside0.mk (B24.out.move rfl : Blk w4.drew _ _ _)
   have B34 := Aside0.mk (B34.out.move rfl : Blk w4.drew _ _ _)
   have B44 := Aside0.mk (B44.out.move rfl : Blk w4.drew _ _ _)
   have hs4 : w3.heap.size ≤ w4.drew.heap.size := hs4
   clear h30 h40 h60 h61
   generalize w4.drew = wd at B6 HV4 HB4 B24 B34 B44 hs4 hHeld ⊢
   refine pure_ (i := 0) (N := some 16) (v := ?_) (a' := ?_) #[true, false, false, false, false, false, false, false, false, false] rfl rfl (any_of HT_.out (by kernel_rfl)) (fun _ _ _ h => h) (Or.inl ⟨by rfl, ?_⟩) ?_ ?_
   rotate_left
   ·intro w'
    go_simp
    with_reducible rfl
   rotate_left
   ·simp only [Act.put, sb0, sb1, sb2, i64_w, i32_w]
    rfl
   refine take_ (i := 1) (N := some 17) (v := ?_) (a' := ?_) #[true, true, false, false, false, false, false, false, false, false] rfl rfl (take_ofW HT_.out HW_.out (by kernel_rfl)) (fun _ _ _ h => h) (Or.inl ⟨by rfl, ?_⟩) hHeld ?_ ?_
   rotate_left
   ·rintro w' ⟨s0, s1, s2, s3⟩
    go_simp
    with_reducible rfl
   rotate_left
   ·simp only [Act.put, sb0, sb1, sb2, i64_w, i32_w]
    rfl
   refine pure_ (i := 2) (N := some 18) (v := ?_) (a' := ?_) #[true, true, true, false, false, false, false, false, false, false] rfl rfl (any_of HT_.out (by kernel_rfl)) (fun _ _ _ h => h) (Or.inl ⟨by rfl, ?_⟩) ?_ ?_
   rotate_left
   ·intro w'
    go_simp
    with_reducible rfl
   rotate_left
   ·simp only [Act.put, sb0, sb1, sb2, i64_w, i32_w]
    rfl
   refine take_ (i := 3) (N := some 19) (v := ?_) (a' := ?_) #[true, true, true, true, false, false, false, false, false, false] rfl rfl (take_ofW HT_.out HW_.out (by kernel_rfl)) (fun _ _ _ h => h) (Or.inl ⟨by rfl, ?_⟩) hHeld ?_ ?_
   rotate_left
   ·rintro w' ⟨s0, s1, s2, s3⟩
    go_simp
    with_reducible rfl
   rotate_left
   ·simp only [Act.put, sb0, sb1, sb2, i64_w, i32_w]
    rfl
   refine take_ (i := 4) (N := some 20) (v := ?_) (a' := ?_) #[true, true, true, true, true, false, false, false, false, false] rfl rfl (take_ofW HT_.out HW_.out (by kernel_rfl)) (fun _ _ _ h => h) (Or.inl ⟨by rfl, ?_⟩) hHeld ?_ ?_
   rotate_left
   ·rintro w' ⟨s0, s1, s2, s3⟩
    go_simp
    with_reducible rfl
   rotate_left
   ·simp only [Act.put, sb0, sb1, sb2, i64_w, i32_w]
    rfl
   refine one_ (i := 5) (N := some 21) #[true, true, true, true, true, true, false, false, false, false] rfl rfl (one_of HT_.out (by kernel_rfl)) (by decide) (fun K hK => ?_)
   refine call_ g #[.agg #[.int .i64 x.f0, .int .i64 x.f1]] (by rfl) rfl ?_ ?_
   ·have he := HG.out #[.agg #[.int .i64 x.f0, .int .i64 x.f1]]
    go_simp
   refine (HP.out _ x).mono ?_
   rintro e_ w_ ⟨rfl, hbc⟩
   refine ⟨_, rfl, hK.out _ _ ⟨(B34.out.below hbc).cell 0, (B44.out.below hbc).cell 0, (B6.out.below hbc).cell 0, (B6.out.below hbc).cell 1⟩ (fun hHeld => ?_)⟩
   clear hK K
   have B65 := Aside0.mk (B6.out.below hbc)
   have B25 := Aside0.mk (B24.out.below hbc)
   have B35 := Aside0.mk (B34.out.below hbc)
   have B45 := Aside0.mk (B44.out.below hbc)
   have HV5 := Aside0.mk (Kd.R_below HV4.out hbc)
   have HB5 := Aside0.mk (HB4.out.trans (hbc.mono HB4.out.size))
   have hs5 := Nat.le_trans hs4 hbc.size
   generalize hy : p x = y at HTM ⊢
   clear hy hbc B24 B34 B44 HV4 HB4 B6
   refine norm_ (by simp only [Act.put, sb0, sb1, sb2]; rfl) ?_
   refine one_ (i := 6) (N := some 22) #[true, true, true, true, true, true, true, false, false, false] rfl rfl (one_of HT_.out (by kernel_rfl)) (by decide) (fun K hK => ?_)
   refine value_ (w1 := ?_) (v := ?_) (by rfl) rfl ?_ ?_
   rotate_left 2
   ·go_simp
    constructor <;> rfl
   refine hK.out _ _ ⟨(B35.out.alloc (.cells #[.int .i64 y] 3)).cell 0, (B45.out.alloc (.cells #[.int .i64 y] 3)).cell 0, (B65.out.alloc (.cells #[.int .i64 y] 3)).cell 0, (B65.out.alloc (.cells #[.int .i64 y] 3)).cell 1⟩ (fun hHeld => ?_)
   clear hK K
   have B26 := Aside0.mk (B25.out.alloc (.cells #[.int .i64 y] 3))
   have B36 := Aside0.mk (B35.out.alloc (.cells #[.int .i64 y] 3))
   have B46 := Aside0.mk (B45.out.alloc (.cells #[.int .i64 y] 3))
   have HV6 := Aside0.mk (Kd.R_alloc (Kd.R_mono (Kd.R_bound HV5.out) (fun b hb => (⟨hb.2.1, by have := hb.2.2.1; omega⟩ : w3.heap.size ≤ b ∧ b ≠ w_.heap.size))) (.cells #[.int .i64 y] 3))
   have HB6 := Aside0.mk (below_alloc HB5.out (.cells #[.int .i64 y] 3))
   have hgl := (Blk.new w_ [.int .i64 y] 3).cell 0
   simp only [List.getElem?_cons_zero] at hgl
   have hs6 : w3.heap.size ≤ (w_.alloc (.cells #[.int .i64 y] 3)).heap.size := by simp; omega
   have hgt : w_.heap.size < (w_.alloc (.cells #[.int .i64 y] 3)).heap.size := by simp
   generalize hgg : w_.heap.size = gl at HV6 hgl hgt ⊢
   generalize hw6 : w_.alloc (.cells #[.int .i64 y] 3) = w6 at B26 B36 B46 HV6 HB6 hgl hs6 hgt hHeld ⊢
   clear hw6 B25 B35 B45 B65 HV5 HB5 hgg
   refine norm_ (by simp only [Act.put, sb0, sb1, sb2]; rfl) ?_
   refine last_ (i := 7) (N := some 23) #[true, true, true, true, true, true, true, true, false, false] rfl rfl (one_of HT_.out (by kernel_rfl)) (by decide) (fun K hK => ?_)
   refine Kd.R_append_rows_step (Kd.int .i64) (w0 := w6) w3.heap.size (by rfl) (.tmp 17) (.tmp 22) 26 3 (.int .i64 0) 8 rfl Try.underlying26 info3 rfl (by decide) (by omega) v xs [y] (some ⟨gl, 0, none⟩) 1 1 (fun b => w3.heap.size ≤ b ∧ b ≠ gl) (fun _ => False) rfl rfl HV6.out (lit_row hgl) (fun x cs h => h) (fun _ hk => hk.elim) (fun b hb => ⟨by omega, by omega⟩) (Below.refl _ _) (by omega) (by omega) ?_
   intro v7 w7 hR7 hB7 hg7 hat7
   obtain ⟨A7, n7, c7, rfl⟩ : ∃ A n c, v7 = .slice A n c := by obtain ⟨a_, b_, e_⟩ := Kd.R_slice1 hR7 (by simp); exact ⟨_, _, _, e_⟩
   refine hK.out _ _ ?_
   clear hK K
   have B27 := Aside0.mk (B26.out.move (hB7.block _ (by omega)))
   have B37 := Aside0.mk (B36.out.move (hB7.block _ (by omega)))
   have B47 := Aside0.mk (B46.out.move (hB7.block _ (by omega)))
   have HR7 := Aside0.mk (Kd.R_mono hR7 (fun b hb => hb.1))
   have hs7 := Nat.le_trans hs6 hB7.size
   have HB7 := Aside0.mk (HB6.out.trans (hB7.mono (by omega)))
   have h40 := B47.out.cell 0
   have h40f := B47.out.frozen 0
   simp only [List.getElem?_cons_zero] at h40
   clear hR7 hB7 hg7 hat7 HV6 B26 B36 B46 HB6 hgl
   refine norm_ (by simp only [Act.put, sb0, sb1, sb2]; rfl) ?_
   refine pure_ (i := 8) (N := some 24) (v := ?_) (a' := ?_) #[true, true, true, true, true, true, true, true, true, false] rfl rfl (any_of HT_.out (by kernel_rfl)) (fun _ _ _ h => h) (Or.inl ⟨by rfl, ?_⟩) ?_ ?_
   rotate_left
   ·intro w'
    go_simp
    with_reducible rfl
   rotate_left
   ·simp only [Act.put, sb0, sb1, sb2, i64_w, i32_w]
    rfl
   refine last_ (i := 9) (N := none) #[true, true, true, true, true, true, true, true, true, true] rfl rfl (one_of HT_.out (by kernel_rfl)) (by decide) (fun K hK => ?_)
   have hst_ := h40
   have hfr_ := h40f
   refine skip_ (w1 := ?_) (by rfl) rfl ?_ ?_
   rotate_left
   ·go_simp
    rfl
   refine hK.out _ _ ?_
   clear hK K hst_ hfr_ 
   have B4z := Aside0.mk (show Blk _ _ _ _ from (blk_set B47.out 0 (.slice A7 n7 c7)))
   have B2z := Aside0.mk (B27.out.move (Below.heap_setCell w7 ⟨w.heap.size + 2, 0, none⟩ (.slice A7 n7 c7) _ (by simp only; omega)))
   have B3z := Aside0.mk (B37.out.move (Below.heap_setCell w7 ⟨w.heap.size + 2, 0, none⟩ (.slice A7 n7 c7) _ (by simp only; omega)))
   have HRz := Aside0.mk (Kd.R_far HR7.out (p := ⟨w.heap.size + 2, 0, none⟩) (fun b hb => by simp only; omega) (.slice A7 n7 c7))
   have HBz := And.intro (show w3.heap.size ≤ (w7.setCell ⟨w.heap.size + 2, 0, none⟩ (.slice A7 n7 c7)).heap.size by simpa [World.setCell] using hs7) (Aside0.mk (HB7.out.setCell (p := ⟨w.heap.size + 2, 0, none⟩) (by simp) (.slice A7 n7 c7)))
   refine done_ (done_of HT_.out (by kernel_rfl)) ?_
   go_wp2_with fail
   exact ⟨⟨k + 1, .slice A7 n7 c7, by omega, rfl, HBz.1, HBz.2, B2z, B3z, B4z, ⟨by rw [HTM.out]; exact HRz.out⟩⟩, by simp [intOf]; omega⟩
  ·obtain rfl : k = Wk.length := by omega
   rw [List.take_length] at HV
   have h20 := B2.out.cell 0
   have h21 := B2.out.cell 1
   simp only [sb3, sb4] at h20 h21
   have HV0 := Aside0.mk (Kd.R_mono (Kd.R_bound HV.out) (fun b hb => (⟨hb.1, hb.2.2.1⟩ : w3.heap.size ≤ b ∧ b < wr.heap.size)))
   clear HV
   go_wp2_with fail
   clear h20 h21
   generalize hwa : wr = wA at hsr HB B2 B3 B4 HV0 ⊢
   clear hwa
   go_loopw [29] (fun v29 wr => ∃ (k : Nat) (v1 : Value), k ≤ R.length ∧ v29 = .int .i64 k ∧ wA.heap.size ≤ wr.heap.size ∧ Aside0 (Below w.heap.size w wr) ∧ Aside0 (Blk wr w.heap.size [.slice A0 Wk.length c0, .slice A1 R.length c1] 41) ∧ Aside0 (Blk wr (w.heap.size + 1) [.func (.func g) #[] #[]] 144) ∧ Aside0 (Blk wr (w.heap.size + 2) [v, v1] 139) ∧ Aside0 ((Kd.int .i64).R 3 wr w3.heap.size (fun b => w3.heap.size ≤ b ∧ b < wA.heap.size) v (Wk.map p)) ∧ Aside0 ((Kd.int .i64).R 3 wr wA.heap.size (fun b => wA.heap.size ≤ b) v1 ((R.take k).map (fun r => p r.f2)))) (fun v29 _ => R.length - (intOf v29).toNat)
   case atStart => exact ⟨0, .slice none 0 0, Nat.zero_le _, rfl, Nat.le_refl _, HB, B2, B3, B4, HV0, ⟨Kd.R_nil _ _ _ _ _⟩⟩
   case round =>
    clear HB B2 B3 B4 HV0
    obtain ⟨k, v1, hk, rfl, hsw, HB, B2, B3, B4, HV0, HV⟩ := hrel
    by_cases hkl : k < R.length
    ·have hkl1 : (k : Int) < R.length := by omega
     obtain ⟨ad, e, hc0, hc1, hc2, hc3⟩ := at_T94 (Kd.C_below H.out.roads HB.out) k (by omega) hkl1
     cases e
     simp only [Int.toNat_natCast] at hc0 hc1 hc2 hc3
     have hrk : rd_T94 R (k : Int) = R[k] := by simp [rd_T94, List.getD, hkl]
     rw [hrk] at hc0 hc1 hc2 hc3
     have HTM := Aside0.mk (take_map (fun r : S94 => p r.f2) R k hkl)
     obtain ⟨q, hq⟩ : ∃ x, R[k] = x := ⟨_, rfl⟩
     rw [hq] at hc0 hc1 hc2 hc3 HTM
     have hlk : ((R.take k).map (fun r : S94 => p r.f2)).length ≤ 1000 := by simp; omega
     obtain ⟨xs, hxs⟩ : ∃ xs, (R.take k).map (fun r : S94 => p r.f2) = xs := ⟨_, rfl⟩
     rw [hxs] at HV HTM hlk
     clear hq hrk hxs
     obtain ⟨qa, qb, x⟩ := q
     simp only at hc0 hc1 hc2 hc3 HTM
     go_wp2_with fail
     have B6 := Aside0.mk (Blk.new wr [.int .i64 qa, .int .i64 qb, .int .i64 x.f0, .int .i64 x.f1] 94)
     have HBn := Aside0.mk (below_alloc (Below.refl wr.heap.size wr) (.cells #[.int .i64 qa, .int .i64 qb, .int .i64 x.f0, .int .i64 x.f1] 94))
     clear hc0 hc1 hc2 hc3
     generalize hw4 : wr.alloc (.cells #[.int .i64 qa, .int .i64 qb, .int .i64 x.f0, .int .i64 x.f1] 94) = w4 at B6 HBn ⊢
     clear hw4
     have B24 := Aside0.mk (B2.out.below HBn.out)
     have B34 := Aside0.mk (B3.out.below HBn.out)
     have B44 := Aside0.mk (B4.out.below HBn.out)
     have HV4 := Aside0.mk (Kd.R_below HV.out HBn.out)
     have HV04 := Aside0.mk (Kd.R_below HV0.out HBn.out)
     have HB4 := Aside0.mk (HB.out.trans (HBn.out.mono HB.out.size))
     have hs4 := Nat.le_trans hsw HBn.out.size
     have h30 := B34.out.cell 0
     have h40 := B44.out.cell 1
     have h60 := B6.out.cell 2
     have h61 := B6.out.cell 3
     simp only [sb3, sb4] at h30 h40 h60 h61
     clear HBn HB B2 B3 B4 HV HV0 hsw
     refine start_ (n := 11) (S := fun w' => w'.cell? ⟨w.heap.size + 1, 0, none⟩ = some (.func (.func g) #[] #[]) ∧ w'.cell? ⟨w.heap.size + 2, 1, none⟩ = some v1 ∧ w'.cell? ⟨wr.heap.size, 2, none⟩ = some (.int .i64 x.f0) ∧ w'.cell? ⟨wr.heap.size, 3, none⟩ = some (.int .i64 x.f1)) (ds := [8, 10]) #[false, false, false, false, false, false, false, false, false, false, false] (by kernel_rfl) rfl rfl ⟨h30, h40, h60, h61⟩ (fun hHeld => ?_); refine with_tabW ex.tab9 ex.bits9 (fun HT_ HW_ => ?_)
     have HV4 := Aside0.mk (Kd.R_drew HV4.out)
     have HV04 := Aside0.mk (Kd.R_drew HV04.out)
     have HB4 := Aside0.mk (below_drew HB4.out)
     have B6 := Aside0.mk (B6.out.move rfl : Blk w4.drew _ _ _)
     have B24 := Aside0.mk (B24.out.move rfl : Blk w4.drew _ _ _)
     have B34 := Aside0.mk (B34.out.move rfl : Blk w4.drew _ _ _)
     have B44 := Aside0.mk (B44.out.move rfl : Blk w4.drew _ _ _)
     have hs4 : wA.heap.size ≤ w4.drew.heap.size := hs4
     clear h30 h40 h60 h61
     generalize w4.drew = wd at B6 HV4 HV04 HB4 B24 B34 B44 hs4 hHeld ⊢
     refine pure_ (i := 0) (N := some 33) (v := ?_) (a' := ?_) #[true, false, false, false, false, false, false, false, false, false, false] rfl rfl (any_of HT_.out (by kernel_rfl)) (fun _ _ _ h => h) (Or.inl ⟨by rfl, ?_⟩) ?_ ?_
     rotate_left
     ·intro w'
      go_simp
      with_reducible rfl
     rotate_left
     ·simp only [Act.put, sb0, sb1, sb2, i64_w, i32_w]
      rfl
     refine take_ (i := 1) (N := some 34) (v := ?_) (a' := ?_) #[true, true, false, false, false, false, false, false, false, false, false] rfl rfl (take_ofW HT_.out HW_.out (by kernel_rfl)) (fun _ _ _ h => h) (Or.inl ⟨by rfl, ?_⟩) hHeld ?_ ?_
     rotate_left
     ·rintro w' ⟨s0, s1, s2, s3⟩
      go_simp
      with_reducible rfl
     rotate_left
     ·simp only [Act.put, sb0, sb1, sb2, i64_w, i32_w]
      rfl
     refine pure_ (i := 2) (N := some 35) (v := ?_) (a' := ?_) #[true, true, true, false, false, false, false, false, false, false, false] rfl rfl (any_of HT_.out (by kernel_rfl)) (fun _ _ _ h => h) (Or.inl ⟨by rfl, ?_⟩) ?_ ?_
     rotate_left
     ·intro w'
      go_simp
      with_reducible rfl
     rotate_left
     ·simp only [Act.put, sb0, sb1, sb2, i64_w, i32_w]
      rfl
     refine take_ (i := 3) (N := some 36) (v := ?_) (a' := ?_) #[true, true, true, true, false, false, false, false, false, false, false] rfl rfl (take_ofW HT_.out HW_.out (by kernel_rfl)) (fun _ _ _ h => h) (Or.inl ⟨by rfl, ?_⟩) hHeld ?_ ?_
     rotate_left
     ·rintro w' ⟨s0, s1, s2, s3⟩
      go_simp
      with_reducible rfl
     rotate_left
     ·simp only [Act.put, sb0, sb1, sb2, i64_w, i32_w]
      rfl
     refine pure_ (i := 4) (N := some 37) (v := ?_) (a' := ?_) #[true, true, true, true, true, false, false, false, false, false, false] rfl rfl (any_of HT_.out (by kernel_rfl)) (fun _ _ _ h => h) (Or.inl ⟨by rfl, ?_⟩) ?_ ?_
     rotate_left
     ·intro w'
      go_simp
      with_reducible rfl
     rotate_left
     ·simp only [Act.put, sb0, sb1, sb2, i64_w, i32_w]
      rfl
     refine take_ (i := 5) (N := some 38) (v := ?_) (a' := ?_) #[true, true, true, true, true, true, false, false, false, false, false] rfl rfl (take_ofW HT_.out HW_.out (by kernel_rfl)) (fun _ _ _ h => h) (Or.inl ⟨by rfl, ?_⟩) hHeld ?_ ?_
     rotate_left
     ·rintro w' ⟨s0, s1, s2, s3⟩
      go_simp
      with_reducible rfl
     rotate_left
     ·simp only [Act.put, sb0, sb1, sb2, i64_w, i32_w]
      rfl
     refine one_ (i := 6) (N := some 39) #[true, true, true, true, true, true, true, false, false, false, false] rfl rfl (one_of HT_.out (by kernel_rfl)) (by decide) (fun K hK => ?_)
     refine call_ g #[.agg #[.int .i64 x.f0, .int .i64 x.f1]] (by rfl) rfl ?_ ?_
     ·have he := HG.out #[.agg #[.int .i64 x.f0, .int .i64 x.f1]]
      go_simp
     refine (HP.out _ x).mono ?_
     rintro e_ w_ ⟨rfl, hbc⟩
     refine ⟨_, rfl, hK.out _ _ ⟨(B34.out.below hbc).cell 0, (B44.out.below hbc).cell 1, (B6.out.below hbc).cell 2, (B6.out.below hbc).cell 3⟩ (fun hHeld => ?_)⟩
     clear hK K
     have B65 := Aside0.mk (B6.out.below hbc)
     have B25 := Aside0.mk (B24.out.below hbc)
     have B35 := Aside0.mk (B34.out.below hbc)
     have B45 := Aside0.mk (B44.out.below hbc)
     have HV05 := Aside0.mk (Kd.R_below HV04.out hbc)
     have HV5 := Aside0.mk (Kd.R_below HV4.out hbc)
     have HB5 := Aside0.mk (HB4.out.trans (hbc.mono HB4.out.size))
     have hs5 := Nat.le_trans hs4 hbc.size
     generalize hy : p x = y at HTM ⊢
     clear hy hbc B24 B34 B44 HV4 HV04 HB4 B6
     refine norm_ (by simp only [Act.put, sb0, sb1, sb2]; rfl) ?_
     refine one_ (i := 7) (N := some 40) #[true, true, true, true, true, true, true, true, false, false, false] rfl rfl (one_of HT_.out (by kernel_rfl)) (by decide) (fun K hK => ?_)
     refine value_ (w1 := ?_) (v := ?_) (by rfl) rfl ?_ ?_
     rotate_left 2
     ·go_simp
      constructor <;> rfl
     refine hK.out _ _ ⟨(B35.out.alloc (.cells #[.int .i64 y] 3)).cell 0, (B45.out.alloc (.cells #[.int .i64 y] 3)).cell 1, (B65.out.alloc (.cells #[.int .i64 y] 3)).cell 2, (B65.out.alloc (.cells #[.int .i64 y] 3)).cell 3⟩ (fun hHeld => ?_)
     clear hK K
     have B26 := Aside0.mk (B25.out.alloc (.cells #[.int .i64 y] 3))
     have B36 := Aside0.mk (B35.out.alloc (.cells #[.int .i64 y] 3))
     have B46 := Aside0.mk (B45.out.alloc (.cells #[.int .i64 y] 3))
     have HV06 := Aside0.mk (Kd.R_alloc HV05.out (.cells #[.int .i64 y] 3))
     have HV6 := Aside0.mk (Kd.R_alloc (Kd.R_mono (Kd.R_bound HV5.out) (fun b hb => (⟨hb.2.1, by have := hb.2.2.1; omega⟩ : wA.heap.size ≤ b ∧ b ≠ w_.heap.size))) (.cells #[.int .i64 y] 3))
     have HB6 := Aside0.mk (below_alloc HB5.out (.cells #[.int .i64 y] 3))
     have hgl := (Blk.new w_ [.int .i64 y] 3).cell 0
     simp only [List.getElem?_cons_zero] at hgl
     have hs6 : wA.heap.size ≤ (w_.alloc (.cells #[.int .i64 y] 3)).heap.size := by simp; omega
     have hgt : w_.heap.size < (w_.alloc (.cells #[.int .i64 y] 3)).heap.size := by simp
     generalize hgg : w_.heap.size = gl at HV6 hgl hgt ⊢
     generalize hw6 : w_.alloc (.cells #[.int .i64 y] 3) = w6 at B26 B36 B46 HV6 HV06 HB6 hgl hs6 hgt hHeld ⊢
     clear hw6 B25 B35 B45 B65 HV5 HV05 HB5 hgg
     refine norm_ (by simp only [Act.put, sb0, sb1, sb2]; rfl) ?_
     refine last_ (i := 8) (N := some 41) #[true, true, true, true, true, true, true, true, true, false, false] rfl rfl (one_of HT_.out (by kernel_rfl)) (by decide) (fun K hK => ?_)
     refine Kd.R_append_rows_step (Kd.int .i64) (w0 := w6) wA.heap.size (by rfl) (.tmp 34) (.tmp 40) 26 3 (.int .i64 0) 8 rfl Try.underlying26 info3 rfl (by decide) (by omega) v1 xs [y] (some ⟨gl, 0, none⟩) 1 1 (fun b => wA.heap.size ≤ b ∧ b ≠ gl) (fun _ => False) rfl rfl HV6.out (lit_row hgl) (fun x cs h => h) (fun _ hk => hk.elim) (fun b hb => ⟨by omega, by omega⟩) (Below.refl _ _) (by omega) (by omega) ?_
     intro v7 w7 hR7 hB7 hg7 hat7
     obtain ⟨A7, n7, c7, rfl⟩ : ∃ A n c, v7 = .slice A n c := by obtain ⟨a_, b_, e_⟩ := Kd.R_slice1 hR7 (by simp); exact ⟨_, _, _, e_⟩
     refine hK.out _ _ ?_
     clear hK K
     have B27 := Aside0.mk (B26.out.move (hB7.block _ (by omega)))
     have B37 := Aside0.mk (B36.out.move (hB7.block _ (by omega)))
     have B47 := Aside0.mk (B46.out.move (hB7.block _ (by omega)))
     have HV07 := Aside0.mk (Kd.R_step HV06.out (fun b hb _ => hB7.block b hb.2))
     have HR7 := Aside0.mk (Kd.R_mono hR7 (fun b hb => hb.1))
     have hs7 := Nat.le_trans hs6 hB7.size
     have HB7 := Aside0.mk (HB6.out.trans (hB7.mono (by omega)))
     have h40 := B47.out.cell 1
     have h40f := B47.out.frozen 1
     simp only [sb3, sb4] at h40
     clear hR7 hB7 hg7 hat7 HV6 HV06 B26 B36 B46 HB6 hgl
     refine norm_ (by simp only [Act.put, sb0, sb1, sb2]; rfl) ?_
     refine pure_ (i := 9) (N := some 42) (v := ?_) (a' := ?_) #[true, true, true, true, true, true, true, true, true, true, false] rfl rfl (any_of HT_.out (by kernel_rfl)) (fun _ _ _ h => h) (Or.inl ⟨by rfl, ?_⟩) ?_ ?_
     rotate_left
     ·intro w'
      go_simp
      with_reducible rfl
     rotate_left
     ·simp only [Act.put, sb0, sb1, sb2, i64_w, i32_w]
      rfl
     refine last_ (i := 10) (N := none) #[true, true, true, true, true, true, true, true, true, true, true] rfl rfl (one_of HT_.out (by kernel_rfl)) (by decide) (fun K hK => ?_)
     have hst_ := h40
     have hfr_ := h40f
     refine skip_ (w1 := ?_) (by rfl) rfl ?_ ?_
     rotate_left
     ·go_simp
      rfl
     refine hK.out _ _ ?_
     clear hK K hst_ hfr_ 
     have B4z := Aside0.mk (show Blk _ _ _ _ from (blk_set B47.out 1 (.slice A7 n7 c7)))
     have B2z := Aside0.mk (B27.out.move (Below.heap_setCell w7 ⟨w.heap.size + 2, 1, none⟩ (.slice A7 n7 c7) _ (by simp only; omega)))
     have B3z := Aside0.mk (B37.out.move (Below.heap_setCell w7 ⟨w.heap.size + 2, 1, none⟩ (.slice A7 n7 c7) _ (by simp only; omega)))
     have HV0z := Aside0.mk (Kd.R_far HV07.out (p := ⟨w.heap.size + 2, 1, none⟩) (fun b hb => by simp only; omega) (.slice A7 n7 c7))
     have HRz := Aside0.mk (Kd.R_far HR7.out (p := ⟨w.heap.size + 2, 1, none⟩) (fun b hb => by simp only; omega) (.slice A7 n7 c7))
     have HBz := And.intro (show wA.heap.size ≤ (w7.setCell ⟨w.heap.size + 2, 1, none⟩ (.slice A7 n7 c7)).heap.size by simpa [World.setCell] using hs7) (Aside0.mk (HB7.out.setCell (p := ⟨w.heap.size + 2, 1, none⟩) (by simp) (.slice A7 n7 c7)))
     refine done_ (done_of HT_.out (by kernel_rfl)) ?_
     go_wp2_with fail
     exact ⟨⟨k + 1, .slice A7 n7 c7, by omega, rfl, HBz.1, HBz.2, B2z, B3z, B4z, HV0z, ⟨by rw [HTM.out]; exact HRz.out⟩⟩, by simp [intOf]; omega⟩
    ·obtain rfl : k = R.length := by omega
     rw [List.take_length] at HV
     obtain ⟨Av, nv, cv, rfl⟩ : ∃ A n c, v = .slice A n c := by
      obtain ⟨a_, b_, e_, _, _⟩ := Kd.R_reads HV0.out
      exact ⟨_, _, _, e_⟩
     obtain ⟨Au, nu, cu, rfl⟩ : ∃ A n c, v1 = .slice A n c := by
      obtain ⟨a_, b_, e_, _, _⟩ := Kd.R_reads HV.out
      exact ⟨_, _, _, e_⟩
     have B4' := Aside0.mk (show Blk wr (w.heap.size + 1 + 1) [.slice Av nv cv, .slice Au nu cu] 139 from B4.out)
     have h40 := B4'.out.cell 0
     have h41 := B4'.out.cell 1
     have h40f := B4'.out.frozen 0
     have h41f := B4'.out.frozen 1
     simp only [sb3, sb4] at h40 h41
     go_wp2_with fail
     refine bodyPost_ret (results_cell_row rfl _ _ (w.heap.size + 1 + 1) 139 #[.slice Av nv cv, .slice Au nu cu] (0, 0) _ rfl (B4'.out.set2 _ _) Try.underlying139 rfl (by kernel_rfl)) rfl ?_
     refine ⟨⟨_, _, rfl, ?_, ?_⟩, (HB.out.setCell (p := ⟨w.heap.size + 1 + 1, 0, none⟩) (by simp only; omega) _).setCell (p := ⟨w.heap.size + 1 + 1, 1, none⟩) (by simp only; omega) _⟩
     ·exact Kd.R_mono (Kd.R_lower (Kd.R_far (Kd.R_far HV0.out (p := ⟨w.heap.size + 1 + 1, 0, none⟩) (fun b hb => by simp only; omega) _) (p := ⟨w.heap.size + 1 + 1, 1, none⟩) (fun b hb => by simp only; omega) _) (by omega)) (fun _ _ => trivial)
     ·exact Kd.R_mono (Kd.R_lower (Kd.R_far (Kd.R_far HV.out (p := ⟨w.heap.size + 1 + 1, 0, none⟩) (fun b hb => by simp only; omega) _) (p := ⟨w.heap.size + 1 + 1, 1, none⟩) (fun b hb => by simp only; omega) _) (by omega)) (fun _ _ => trivial)
end Go.Proofs.Ytiddkceahbnolaa
