/- walk's rest: the walk through its code. -/
import Derived.Test.YtiddkceahbnolaaInts
import Derived.Test.YtiddkceahbnolaaWTab
import Derived.BigQuiet
import Derived.BigRegion
import Derived.BigRegionIn
import Derived.Deep.QuietTactic
import Derived.Deep.DeepCutAuto
namespace Go.Proofs.Ytiddkceahbnolaa
open Go.RowKit Go.Shelf Go.Proofs.Ytiddkceahbnolaa.PWalkOrder Go.Proofs.YtiddkceahbnolaaW.PrintWords Go.Proofs.YtiddkceahbnolaaW.PrintLast
set_option linter.unusedVariables false
set_option linter.unusedSimpArgs false

def rest.T3 : Bool × List (List Nat × List Nat) := (true, [([], []), ([0], [0]), ([1], [1]), ([2], [2]), ([], []), ([3, 4], [3, 4]), ([5], [5]), ([6], [6]), ([6], [6]), ([], []), ([9, 7, 0, 1, 2, 3, 4, 5, 6, 7, 9], [7, 9]), ([8, 10, 0, 1, 2, 3, 4, 5, 6, 7, 8, 9, 10], [8])])
def rest.B3 : List Nat := [0, 1, 3, 7, 0, 31, 63, 127, 127, 0, 767, 2047]
theorem rest.tab3 : rtab .any (opsOf Try.f76 3) = rest.T3 := by kernel_rfl
theorem rest.bits3 : waitsOk rest.T3.2 rest.B3 = true := by kernel_rfl
def rest.T10 : Bool × List (List Nat × List Nat) := (true, [([], []), ([], []), ([1], [1]), ([], []), ([0], [0]), ([4], [4]), ([5, 2], [2, 5]), ([6, 3], [3, 6]), ([7], [7]), ([], []), ([], []), ([], []), ([11], [11]), ([], []), ([13], [13]), ([12, 14], [12, 14]), ([10, 15], [10, 15]), ([9, 16], [9, 16]), ([17], [17]), ([8, 18], [8, 18]), ([19, 17, 0, 1, 2, 3, 4, 5, 6, 7, 8, 9, 10, 11, 12, 13, 14, 15, 16, 17, 18, 19], [19])])
def rest.B10 : List Nat := [0, 0, 2, 0, 1, 17, 55, 127, 255, 0, 0, 0, 2048, 0, 8192, 30720, 64512, 130560, 261632, 524287, 1048575]
theorem rest.tab10 : rtab .any (opsOf Try.f76 10) = rest.T10 := by kernel_rfl
theorem rest.bits10 : waitsOk rest.T10.2 rest.B10 = true := by kernel_rfl
def rest.T14 : Bool × List (List Nat × List Nat) := (true, [([], []), ([0], [0]), ([1], [1]), ([2], [2]), ([], []), ([], []), ([3, 4, 5, 0, 1, 2, 3, 4, 5], [3, 4, 5])])
def rest.B14 : List Nat := [0, 1, 3, 7, 0, 0, 63]
theorem rest.tab14 : rtab .any (opsOf Try.f76 14) = rest.T14 := by kernel_rfl
theorem rest.bits14 : waitsOk rest.T14.2 rest.B14 = true := by kernel_rfl
def rest.T2 : Bool × List (List Nat × List Nat) := (true, [([], []), ([], []), ([1], [1]), ([0], [0]), ([3], [3]), ([4, 2], [2, 4]), ([5], [5]), ([6], [6]), ([7], [7]), ([8, 0, 1, 2, 3, 4, 5, 6, 7, 8], [8])])
def rest.B2 : List Nat := [0, 0, 2, 1, 9, 31, 63, 127, 255, 511]
theorem rest.tab2 : rtab .any (opsOf Try.f76 2) = rest.T2 := by kernel_rfl
theorem rest.bits2 : waitsOk rest.T2.2 rest.B2 = true := by kernel_rfl

theorem legU : Try.prog.underlying 153 = some (.struct (Try.prog.fieldsOf 153)) := by kernel_rfl
theorem legField0 (a b : Value) (w : World) : (Instr.field 153 (Value.agg #[a, b]) 0).run Try.prog w = .ok a w := by
 unfold Instr.field
 simp only [Sem.run_bind, run_underlying Try.underlying153, Result.andThen_ok]
 simp [asAgg, part, isAgg, run_underlying Try.underlying3]
theorem legField1 (a b : Value) (w : World) : (Instr.field 153 (Value.agg #[a, b]) 1).run Try.prog w = .ok b w := by
 unfold Instr.field
 simp only [Sem.run_bind, run_underlying Try.underlying153, Result.andThen_ok]
 simp [asAgg, part, isAgg, run_underlying Try.underlying3]
attribute [local go_sem] legField0 legField1
theorem rest_ret {R : Ending → World → Prop} {a : Act} {w : World} {g : Nat} {x : Int × Int} (hp : a.tmps.getD 4 undef = .pointer (some ⟨g, 0, none⟩)) (hd : a.defers = []) (hB : Blk w g [.int .i64 x.1, .int .i64 x.2] 153) (hR : R (.returned (encLeg x)) w) : bodyPost Try.prog Try.f76 R .ret a w :=
 bodyPost_ret (results_cell_row rfl _ _ g 153 #[.int .i64 x.1, .int .i64 x.2] (0, 0) _ hp hB legU rfl (by kernel_rfl)) hd hR

set_option maxRecDepth 100000 in
set_option maxHeartbeats 40000000 in
theorem rest_calls {ga mb : Nat} {vW vR : Value} {T F : Nat → Nat → Int} (hT : Bounded2 T) : ∀ (left : Nat), left < 256 → ∀ (at_ : Nat), at_ < 8 → ∀ (w : World), AtlM w ga vW vR T F mb →
  Calls Try.prog 76 #[.pointer (some ⟨ga, 0, none⟩), .agg #[.int .i64 at_, .int .i64 left]] w fun e w' => e = .returned (encLeg (rest T at_ left)) ∧ AtlM w' ga vW vR T F mb ∧ Keep w.heap.size (fun b => b = mb) w w' := by
 intro left
 induction left using Nat.strongRecOn with
 | ind left ih =>
 intro hl at_ ha w hA
 have IH := Aside0.mk ih
 have HT := Aside0.mk hT
 have HA := Aside0.mk hA
 have hga := hA.atl.lt
 have hmb := hA.memo.lt
 have hT0 := hA.atl.time (i := at_) (j := 0) ha (by omega)
 simp only [Nat.add_zero] at hT0
 have hM := hA.atl.map.2.2
 clear ih hT hA
 by_cases h0 : left = 0
 ·subst h0
  go_enter Try.func76, Try.ntmps76
  have ha8 : (at_ : Int) < 8 := by omega
  go_wp2_with fail
  go_region
  have HA2 := Aside0.mk (((HA.out.alloc (.cells #[.int .i64 at_, .int .i64 0] 156)).alloc (.cells #[.int .i64 (T at_ 0), .int .i64 0] 153)).drew)
  go_wp2_with fail
  refine rest_ret (x := rest T at_ 0) (g := w.heap.size + 1) rfl rfl ?_ ⟨rfl, HA2.out, (((Keep.refl w.heap.size (fun b => b = mb) w).alloc (Nat.le_refl _) _).alloc (by simp) _).drew⟩
  have := Blk.new (w.alloc (.cells #[.int .i64 at_, .int .i64 0] 156)) [.int .i64 (T at_ 0), .int .i64 0] 153
  simp only [World.size_alloc] at this
  exact this
 ·have h0b : ((left : Int) == 0) = false := by simpa using h0
  go_enter Try.func76, Try.ntmps76
  go_wp2_with fail
  have HA1 := Aside0.mk ((HA.out.alloc (.cells #[.int .i64 at_, .int .i64 left] 156)).alloc (.cells #[.int .i64 0, .int .i64 0] 153))
  have B3 := Aside0.mk ((Blk.new w [.int .i64 at_, .int .i64 left] 156).alloc (.cells #[.int .i64 0, .int .i64 0] 153))
  have B4 := Aside0.mk (Blk.new (w.alloc (.cells #[.int .i64 at_, .int .i64 left] 156)) [.int .i64 0, .int .i64 0] 153)
  have KW := Aside0.mk (((Keep.refl w.heap.size (fun b => b = mb) w).alloc (Nat.le_refl _) (.cells #[.int .i64 at_, .int .i64 left] 156)).alloc (by simp) (.cells #[.int .i64 0, .int .i64 0] 153))
  have hsz : ((w.alloc (.cells #[.int .i64 at_, .int .i64 left] 156)).alloc (.cells #[.int .i64 0, .int .i64 0] 153)).heap.size = w.heap.size + 1 + 1 := by simp
  simp only [World.size_alloc] at B4
  generalize (w.alloc (.cells #[.int .i64 at_, .int .i64 left] 156)).alloc (.cells #[.int .i64 0, .int .i64 0] 153) = w1 at HA1 B3 B4 KW hsz ⊢
  have hga1 : ga < w1.heap.size := by omega
  have hmb1 : mb < w1.heap.size := by omega
  have hb3 : w.heap.size < w1.heap.size := by omega
  have hb4 : w.heap.size + 1 < w1.heap.size := by omega
  have hM1 := HA1.out.atl.map.2.2
  have h30 := B3.out.cell 0
  have h31 := B3.out.cell 1
  simp only [sb3, sb4] at h30 h31
  clear HA hT0 hM
  obtain ⟨v, b, hb1, hb0, hlk⟩ := HA1.out.memo.lookup ha hl
  unfold encStand at hlk
  obtain ⟨⟨v0, v1⟩, rfl⟩ : ∃ x, v = encLeg x := by
   cases b
   ·exact ⟨_, hb0 rfl⟩
   ·exact ⟨_, hb1 rfl⟩
  unfold encLeg at hlk
  simp only at hlk
  refine start_ (n := 12) (S := fun w' => w'.cell? ⟨ga, 130, none⟩ = some (.map (some mb)) ∧ w'.cell? ⟨w.heap.size, 0, none⟩ = some (.int .i64 (at_ : Int)) ∧ w'.cell? ⟨w.heap.size, 1, none⟩ = some (.int .i64 (left : Int)) ∧ (Instr.lookup 88 (.map (some mb)) (.agg #[.int .i64 at_, .int .i64 left]) true).run Try.prog w' = .ok (.tuple #[.agg #[.int .i64 v0, .int .i64 v1], .bool b]) w') (ds := [10]) #[false, false, false, false, false, false, false, false, false, false, false, false] (by kernel_rfl) rfl rfl ⟨hM1, h30, h31, (hlk _ rfl)⟩ (fun hHeld => ?_); refine with_tabW rest.tab3 rest.bits3 (fun HT_ HW_ => ?_)
  have HAd := Aside0.mk HA1.out.drew
  have B3d := Aside0.mk (show Blk w1.drew w.heap.size [.int .i64 at_, .int .i64 left] 156 from B3.out)
  have B4d := Aside0.mk (show Blk w1.drew (w.heap.size + 1) [.int .i64 0, .int .i64 0] 153 from B4.out)
  have KWd := Aside0.mk KW.out.drew
  have HSZ := Aside0.mk (show w1.drew.heap.size = w.heap.size + 1 + 1 from hsz)
  replace hlk : ∀ w' : World, w'.heap[mb]? = w1.drew.heap[mb]? → (Instr.lookup 88 (.map (some mb)) (.agg #[.int .i64 at_, .int .i64 left]) true).run Try.prog w' = .ok (.tuple #[.agg #[.int .i64 v0, .int .i64 v1], .bool b]) w' := hlk
  replace hga1 : ga < w1.drew.heap.size := hga1
  replace hmb1 : mb < w1.drew.heap.size := hmb1
  replace hb3 : w.heap.size < w1.drew.heap.size := hb3
  replace hb4 : w.heap.size + 1 < w1.drew.heap.size := hb4
  have hlw : w.heap.size ≤ w1.drew.heap.size := by omega
  clear HA1 B3 B4 KW hM1 h30 h31 hsz
  generalize w1.drew = wd at HAd B3d B4d KWd HSZ hlk hga1 hmb1 hb3 hb4 hlw hHeld ⊢
  refine pure_ (i := 0) (N := some 24) (v := ?_) (a' := ?_) #[true, false, false, false, false, false, false, false, false, false, false, false] rfl rfl (any_of HT_.out (by kernel_rfl)) (fun _ _ _ h => h) (Or.inl ⟨by rfl, ?_⟩) ?_ ?_
  rotate_left
  ·intro w'
   go_simp
   with_reducible rfl
  rotate_left
  ·simp only [Act.put, sb0, sb1, sb2, i64_w, i32_w]
   rfl
  refine pure_ (i := 1) (N := some 25) (v := ?_) (a' := ?_) #[true, true, false, false, false, false, false, false, false, false, false, false] rfl rfl (any_of HT_.out (by kernel_rfl)) (fun _ _ _ h => h) (Or.inl ⟨by rfl, ?_⟩) ?_ ?_
  rotate_left
  ·intro w'
   go_simp
   with_reducible rfl
  rotate_left
  ·simp only [Act.put, sb0, sb1, sb2, i64_w, i32_w]
   rfl
  refine pure_ (i := 2) (N := some 26) (v := ?_) (a' := ?_) #[true, true, true, false, false, false, false, false, false, false, false, false] rfl rfl (any_of HT_.out (by kernel_rfl)) (fun _ _ _ h => h) (Or.inl ⟨by rfl, ?_⟩) ?_ ?_
  rotate_left
  ·intro w'
   go_simp
   with_reducible rfl
  rotate_left
  ·simp only [Act.put, sb0, sb1, sb2, i64_w, i32_w]
   rfl
  refine take_ (i := 3) (N := some 27) (v := ?_) (a' := ?_) #[true, true, true, true, false, false, false, false, false, false, false, false] rfl rfl (take_ofW HT_.out HW_.out (by kernel_rfl)) (fun _ _ _ h => h) (Or.inl ⟨by rfl, ?_⟩) hHeld ?_ ?_
  rotate_left
  ·rintro w' ⟨s0, s1, s2, s3⟩
   go_simp
   with_reducible rfl
  rotate_left
  ·simp only [Act.put, sb0, sb1, sb2, i64_w, i32_w]
   rfl
  refine take_ (i := 4) (N := some 28) (v := ?_) (a' := ?_) #[true, true, true, true, true, false, false, false, false, false, false, false] rfl rfl (take_ofW HT_.out HW_.out (by kernel_rfl)) (fun _ _ _ h => h) (Or.inl ⟨by rfl, ?_⟩) hHeld ?_ ?_
  rotate_left
  ·rintro w' ⟨s0, s1, s2, s3⟩
   go_simp
   with_reducible rfl
  rotate_left
  ·simp only [Act.put, sb0, sb1, sb2, i64_w, i32_w]
   rfl
  refine take_ (i := 5) (N := some 29) (v := ?_) (a' := ?_) #[true, true, true, true, true, true, false, false, false, false, false, false] rfl rfl (take_ofW HT_.out HW_.out (by kernel_rfl)) (fun _ _ _ h => h) (Or.inl ⟨by rfl, ?_⟩) hHeld ?_ ?_
  rotate_left
  ·rintro w' ⟨s0, s1, s2, s3⟩
   go_simp
   with_reducible rfl
  rotate_left
  ·simp only [Act.put, sb0, sb1, sb2, i64_w, i32_w]
   rfl
  refine pure_ (i := 6) (N := some 23) (v := ?_) (a' := ?_) #[true, true, true, true, true, true, true, false, false, false, false, false] rfl rfl (any_of HT_.out (by kernel_rfl)) (fun _ _ _ h => h) (Or.inl ⟨by rfl, ?_⟩) ?_ ?_
  rotate_left
  ·intro w'
   go_simp
   with_reducible rfl
  rotate_left
  ·simp only [Act.put, sb0, sb1, sb2, i64_w, i32_w]
   rfl
  refine pure_ (i := 7) (N := some 30) (v := ?_) (a' := ?_) #[true, true, true, true, true, true, true, true, false, false, false, false] rfl rfl (any_of HT_.out (by kernel_rfl)) (fun _ _ _ h => h) (Or.inl ⟨by rfl, ?_⟩) ?_ ?_
  rotate_left
  ·intro w'
   go_simp
   with_reducible rfl
  rotate_left
  ·simp only [Act.put, sb0, sb1, sb2, i64_w, i32_w]
   rfl
  refine pure_ (i := 8) (N := some 31) (v := ?_) (a' := ?_) #[true, true, true, true, true, true, true, true, true, false, false, false] rfl rfl (any_of HT_.out (by kernel_rfl)) (fun _ _ _ h => h) (Or.inl ⟨by rfl, ?_⟩) ?_ ?_
  rotate_left
  ·intro w'
   go_simp
   with_reducible rfl
  rotate_left
  ·simp only [Act.put, sb0, sb1, sb2, i64_w, i32_w]
   rfl
  refine one_ (i := 9) (N := some 5) #[true, true, true, true, true, true, true, true, true, true, false, false] rfl rfl (one_of HT_.out (by kernel_rfl)) (by decide) (fun K hK => ?_)
  refine value_ (w1 := ?_) (v := ?_) (by rfl) rfl ?_ ?_
  rotate_left 2
  ·go_simp
   constructor <;> rfl
  refine hK.out _ _ ⟨(HAd.out.alloc (.cells #[.int .i64 0, .int .i64 0] 153)).atl.map.2.2, (by simpa using (B3d.out.alloc (.cells #[.int .i64 0, .int .i64 0] 153)).cell 0), (by simpa using (B3d.out.alloc (.cells #[.int .i64 0, .int .i64 0] 153)).cell 1), (hlk _ (Below.heap_alloc _ _ _ hmb1))⟩ (fun hHeld => ?_)
  clear hK K
  have B5 := Aside0.mk (Blk.new wd [.int .i64 0, .int .i64 0] 153)
  have HAe := Aside0.mk (HAd.out.alloc (.cells #[.int .i64 0, .int .i64 0] 153))
  have B3e := Aside0.mk (B3d.out.alloc (.cells #[.int .i64 0, .int .i64 0] 153))
  have B4e := Aside0.mk (B4d.out.alloc (.cells #[.int .i64 0, .int .i64 0] 153))
  have KWe := Aside0.mk (KWd.out.alloc (by omega) (.cells #[.int .i64 0, .int .i64 0] 153))
  have hsz : (wd.alloc (.cells #[.int .i64 0, .int .i64 0] 153)).heap.size = wd.heap.size + 1 := by simp
  have hlk2 : ∀ w' : World, w'.heap[mb]? = (wd.alloc (.cells #[.int .i64 0, .int .i64 0] 153)).heap[mb]? → (Instr.lookup 88 (.map (some mb)) (.agg #[.int .i64 at_, .int .i64 left]) true).run Try.prog w' = .ok (.tuple #[.agg #[.int .i64 v0, .int .i64 v1], .bool b]) w' := fun w' h => hlk _ (h.trans (Below.heap_alloc _ _ _ hmb1))
  obtain ⟨g5, hg5⟩ : ∃ g, wd.heap.size = g := ⟨_, rfl⟩
  rw [hg5] at B5 hsz hga1 hmb1 hb3 hb4 ⊢
  clear HAd B3d B4d KWd hlk hg5
  generalize wd.alloc (.cells #[.int .i64 0, .int .i64 0] 153) = we at B5 HAe B3e B4e KWe hsz hlk2 hHeld ⊢
  refine norm_ (by simp only [Act.put, sb0, sb1, sb2]; rfl) ?_
  refine last_ (i := 10) (N := none) #[true, true, true, true, true, true, true, true, true, true, true, false] rfl rfl (one_of HT_.out (by kernel_rfl)) (by decide) (fun K hK => ?_)
  have hst_ := (show we.cell? ⟨g5, 0, none⟩ = some (.int .i64 0) by simpa using B5.out.cell 0)
  have hfr_ := B5.out.frozen 0
  have hst2_ : we.cell? ⟨g5, 1, none⟩ = some (.int .i64 0) := by simpa using B5.out.cell 1
  have hfr2_ : we.frozen? ⟨g5, 1, none⟩ = false := B5.out.frozen 1
  refine skip_ (w1 := ?_) (by rfl) rfl ?_ ?_
  rotate_left
  ·go_simp
   rfl
  refine hK.out _ _ ?_
  clear hK K hst_ hfr_ hst2_ hfr2_
  have B5f := Aside0.mk (B5.out.set2 (.int .i64 v0) (.int .i64 v1))
  have HAf := Aside0.mk ((HAe.out.other (p := ⟨g5, 0, none⟩) (by simp only; omega) (by simp only; omega) (.int .i64 v0)).other (p := ⟨g5, 1, none⟩) (by simp only; omega) (by simp only; omega) (.int .i64 v1))
  have B3f := Aside0.mk ((B3e.out.move (w' := we.setCell ⟨g5, 0, none⟩ (.int .i64 v0)) (Below.heap_setCell _ _ _ _ (by simp only; omega))).move (w' := (we.setCell ⟨g5, 0, none⟩ (.int .i64 v0)).setCell ⟨g5, 1, none⟩ (.int .i64 v1)) (Below.heap_setCell _ _ _ _ (by simp only; omega)))
  have B4f := Aside0.mk ((B4e.out.move (w' := we.setCell ⟨g5, 0, none⟩ (.int .i64 v0)) (Below.heap_setCell _ _ _ _ (by simp only; omega))).move (w' := (we.setCell ⟨g5, 0, none⟩ (.int .i64 v0)).setCell ⟨g5, 1, none⟩ (.int .i64 v1)) (Below.heap_setCell _ _ _ _ (by simp only; omega)))
  have KWf := Aside0.mk ((KWe.out.setCell (p := ⟨g5, 0, none⟩) (.inr (by simp only; omega)) (.int .i64 v0)).setCell (p := ⟨g5, 1, none⟩) (.inr (by simp only; omega)) (.int .i64 v1))
  have hsf : ((we.setCell ⟨g5, 0, none⟩ (.int .i64 v0)).setCell ⟨g5, 1, none⟩ (.int .i64 v1)).heap.size = g5 + 1 := by simp [World.setCell, hsz]
  clear B5 HAe B3e B4e KWe hsz hlk2 hHeld
  generalize (we.setCell ⟨g5, 0, none⟩ (.int .i64 v0)).setCell ⟨g5, 1, none⟩ (.int .i64 v1) = wf at B5f HAf B3f B4f KWf hsf ⊢
  refine pure_ (i := 11) (N := some 6) (v := ?_) (a' := ?_) #[true, true, true, true, true, true, true, true, true, true, true, true] rfl rfl (any_of HT_.out (by kernel_rfl)) (fun _ _ _ h => h) (Or.inl ⟨by rfl, ?_⟩) ?_ ?_
  rotate_left
  ·intro w'
   go_simp
   with_reducible rfl
  rotate_left
  ·simp only [Act.put, sb0, sb1, sb2, i64_w, i32_w]
   rfl
  refine done_ (done_of HT_.out (by kernel_rfl)) ?_
  have h50 := B5f.out.cell 0
  have h51 := B5f.out.cell 1
  have h30 := B3f.out.cell 0
  have h31 := B3f.out.cell 1
  have h40 := B4f.out.cell 0
  have h41 := B4f.out.cell 1
  have h40f := B4f.out.frozen 0
  have h41f := B4f.out.frozen 1
  simp only [sb3, sb4] at h50 h51 h30 h31 h40 h41
  cases b
  ·clear hb1 hb0
   go_wp2_with fail
   clear h50 h51 h30 h31 h40 h41 h40f h41f
   have HAg := Aside0.mk (HAf.out.alloc (.cells #[.int .i64 1048576, .int .i64 (-1)] 153))
   have B3g := Aside0.mk (B3f.out.alloc (.cells #[.int .i64 1048576, .int .i64 (-1)] 153))
   have B4g := Aside0.mk (B4f.out.alloc (.cells #[.int .i64 1048576, .int .i64 (-1)] 153))
   have B7g := Aside0.mk (Blk.new wf [.int .i64 1048576, .int .i64 (-1)] 153)
   have KWg := Aside0.mk (KWf.out.alloc (by omega) (.cells #[.int .i64 1048576, .int .i64 (-1)] 153))
   rw [hsf] at B7g
   have hsg : (wf.alloc (.cells #[.int .i64 1048576, .int .i64 (-1)] 153)).heap.size = g5 + 1 + 1 := by simp [hsf]
   clear B5f HAf B3f B4f KWf hsf
   generalize wf.alloc (.cells #[.int .i64 1048576, .int .i64 (-1)] 153) = wg at HAg B3g B4g B7g KWg hsg ⊢
   refine (walk_set_list.calls 9 left _ wg (list_ok hl)).mono ?_
   rintro e wl ⟨v_, rfl, hR, hbl⟩
   obtain ⟨Al, cl, rfl, hcl, hil⟩ := ints_of_R hR
   rw [List.length_map] at hcl
   have HIL := Aside0.mk hil
   have HAl := Aside0.mk (HAg.out.keep hbl)
   have B3l := Aside0.mk (B3g.out.below hbl)
   have B4l := Aside0.mk (B4g.out.below hbl)
   have B7l := Aside0.mk (B7g.out.below hbl)
   have KWl := Aside0.mk (KWg.out.trans (Keep.of_below (S := fun b => b = mb) hbl (by omega)))
   clear hR hil hbl HAg B3g B4g B7g KWg
   rw [hsg] at HIL
   rw [List.length_map]
   have hpl := places_len left
   go_wp2_with fail
   go_loopw [39] (fun v wr => ∃ k : Nat, k ≤ (places left).length ∧ v = .int .i64 k ∧ Aside0 (AtlM wr ga vW vR T F mb) ∧ Aside0 (Blk wr w.heap.size [.int .i64 at_, .int .i64 left] 156) ∧ Aside0 (Blk wr (w.heap.size + 1) [.int .i64 0, .int .i64 0] 153) ∧ Aside0 (Blk wr (g5 + 1) [.int .i64 (legAt T at_ left k).1, .int .i64 (legAt T at_ left k).2] 153) ∧ Aside0 (IntsAt wr (g5 + 1 + 1) Al ((places left).map (fun n : Nat => (n : Int)))) ∧ Aside0 (Keep w.heap.size (fun b => b = mb) w wr)) (fun v _ => (places left).length - (intOf v).toNat)
   case atStart => exact ⟨0, Nat.zero_le _, rfl, HAl, B3l, B4l, B7l, HIL, KWl⟩
   case round =>
    clear HIL HAl B3l B4l B7l KWl
    obtain ⟨k, hk, rfl, HA, B3, B4, B7, HI, KW⟩ := hrel
    by_cases hkl : k < (places left).length
    ·obtain ⟨n, hn⟩ : ∃ n, (places left)[k] = n := ⟨_, rfl⟩
     have hnm : n ∈ places left := by rw [← hn]; exact List.getElem_mem hkl
     have hn8 := (places_mem.1 hnm).1
     have hn8i : (n : Int) < 8 := by omega
     have ha8i : (at_ : Int) < 8 := by omega
     have hdl := drop_lt hnm
     have hdrop := drop_ok hl hn8
     have hls : legAt T at_ left (k + 1) = _ := legAt_succ T at_ left k hkl
     rw [hn] at hls
     unfold legStep at hls
     have HLS := Aside0.mk hls
     clear hls
     obtain ⟨gl, hgl, hgl1, hgl2, hgl3⟩ := HI.out k (by rw [List.length_map]; exact hkl)
     subst hgl
     have hgd : ((places left).map (fun n : Nat => (n : Int))).getD k 0 = (n : Int) := by
      simp [List.getD, hkl, hn]
     rw [hgd] at hgl3
     clear hgd
     go_wp2_with fail
     have h30 := B3.out.cell 0
     have h31 := B3.out.cell 1
     simp only [sb3, sb4] at h30 h31
     have hTc := HA.out.atl.time (i := at_) (j := n) ha hn8
     have hcall := IH.out (dropBit left n) hdl (by omega) n hn8 wr.drew HA.out.drew
     obtain ⟨⟨r0, r1⟩, hr⟩ : ∃ x, rest T n (dropBit left n) = x := ⟨_, rfl⟩
     have hrb := rest_bound HT.out n (dropBit left n)
     have hTb := HT.out at_ n
     obtain ⟨tn, htn⟩ : ∃ x, T at_ n = x := ⟨_, rfl⟩
     rw [hr] at hcall hrb
     rw [htn] at hTc hTb
     have HR := Aside0.mk hr
     have HTN := Aside0.mk htn
     clear hr htn
     unfold encLeg at hcall
     simp only at hcall hrb
     have hsum : wrap64 (tn + r0) = tn + r0 := IntWalk.wrap64_in _ (by omega)
     have HCL := Aside0.mk hcall
     clear hcall
     refine start_ (n := 21) (S := fun w' => w'.cell? ⟨w.heap.size, 0, none⟩ = some (.int .i64 (at_ : Int)) ∧ w'.cell? ⟨w.heap.size, 1, none⟩ = some (.int .i64 (left : Int)) ∧ w'.cell? ⟨ga, 2 + at_ * 8 + n, none⟩ = some (.int .i64 tn)) (ds := []) #[false, false, false, false, false, false, false, false, false, false, false, false, false, false, false, false, false, false, false, false, false] (by kernel_rfl) rfl rfl ⟨h30, h31, hTc⟩ (fun hHeld => ?_); refine with_tabW rest.tab10 rest.bits10 (fun HT_ HW_ => ?_)
     have HAd := Aside0.mk HA.out.drew
     have B3d := Aside0.mk (show Blk wr.drew w.heap.size [.int .i64 at_, .int .i64 left] 156 from B3.out)
     have B4d := Aside0.mk (show Blk wr.drew (w.heap.size + 1) [.int .i64 0, .int .i64 0] 153 from B4.out)
     have B7d := Aside0.mk (show Blk wr.drew (g5 + 1) [.int .i64 (legAt T at_ left k).1, .int .i64 (legAt T at_ left k).2] 153 from B7.out)
     have HId := Aside0.mk HI.out.drew
     have KWd := Aside0.mk KW.out.drew
     have hb7d := B7d.out.lt
     have hmbd := HAd.out.memo.lt
     clear HA B3 B4 B7 HI KW h30 h31 hTc hgl3
     replace hgl2 : gl < wr.drew.heap.size := hgl2
     generalize wr.drew = wd at HAd B3d B4d B7d HId KWd HCL hb7d hmbd hgl2 hHeld ⊢
     refine pure_ (i := 0) (N := some 43) (v := ?_) (a' := ?_) #[true, false, false, false, false, false, false, false, false, false, false, false, false, false, false, false, false, false, false, false, false] rfl rfl (any_of HT_.out (by kernel_rfl)) (fun _ _ _ h => h) (Or.inl ⟨by rfl, ?_⟩) ?_ ?_
     rotate_left
     ·intro w'
      go_simp
      with_reducible rfl
     rotate_left
     ·simp only [Act.put, sb0, sb1, sb2, i64_w, i32_w]
      rfl
     refine pure_ (i := 1) (N := some 44) (v := ?_) (a' := ?_) #[true, true, false, false, false, false, false, false, false, false, false, false, false, false, false, false, false, false, false, false, false] rfl rfl (any_of HT_.out (by kernel_rfl)) (fun _ _ _ h => h) (Or.inl ⟨by rfl, ?_⟩) ?_ ?_
     rotate_left
     ·intro w'
      go_simp
      with_reducible rfl
     rotate_left
     ·simp only [Act.put, sb0, sb1, sb2, i64_w, i32_w]
      rfl
     refine take_ (i := 2) (N := some 45) (v := ?_) (a' := ?_) #[true, true, true, false, false, false, false, false, false, false, false, false, false, false, false, false, false, false, false, false, false] rfl rfl (take_ofW HT_.out HW_.out (by kernel_rfl)) (fun _ _ _ h => h) (Or.inl ⟨by rfl, ?_⟩) hHeld ?_ ?_
     rotate_left
     ·rintro w' ⟨s0, s1, s2⟩
      go_simp
      with_reducible rfl
     rotate_left
     ·simp only [Act.put, sb0, sb1, sb2, i64_w, i32_w]
      rfl
     refine pure_ (i := 3) (N := some 46) (v := ?_) (a' := ?_) #[true, true, true, true, false, false, false, false, false, false, false, false, false, false, false, false, false, false, false, false, false] rfl rfl (any_of HT_.out (by kernel_rfl)) (fun _ _ _ h => h) (Or.inl ⟨by rfl, ?_⟩) ?_ ?_
     rotate_left
     ·intro w'
      go_simp
      with_reducible rfl
     rotate_left
     ·simp only [Act.put, sb0, sb1, sb2, i64_w, i32_w]
      rfl
     refine pure_ (i := 4) (N := some 47) (v := ?_) (a' := ?_) #[true, true, true, true, true, false, false, false, false, false, false, false, false, false, false, false, false, false, false, false, false] rfl rfl (any_of HT_.out (by kernel_rfl)) (fun _ _ _ h => h) (Or.inl ⟨by rfl, ?_⟩) ?_ ?_
     rotate_left
     ·intro w'
      go_simp
      with_reducible rfl
     rotate_left
     ·simp only [Act.put, sb0, sb1, sb2, i64_w, i32_w]
      rfl
     refine pure_ (i := 5) (N := some 48) (v := ?_) (a' := ?_) #[true, true, true, true, true, true, false, false, false, false, false, false, false, false, false, false, false, false, false, false, false] rfl rfl (any_of HT_.out (by kernel_rfl)) (fun _ _ _ h => h) (Or.inl ⟨by rfl, ?_⟩) ?_ ?_
     rotate_left
     ·intro w'
      go_simp
      with_reducible rfl
     rotate_left
     ·simp only [Act.put, sb0, sb1, sb2, i64_w, i32_w]
      rfl
     refine pure_ (i := 6) (N := some 49) (v := ?_) (a' := ?_) #[true, true, true, true, true, true, true, false, false, false, false, false, false, false, false, false, false, false, false, false, false] rfl rfl (any_of HT_.out (by kernel_rfl)) (fun _ _ _ h => h) (Or.inl ⟨by rfl, ?_⟩) ?_ ?_
     rotate_left
     ·intro w'
      go_simp
      with_reducible rfl
     rotate_left
     ·simp only [Act.put, sb0, sb1, sb2, i64_w, i32_w]
      rfl
     refine pure_ (i := 7) (N := some 50) (v := ?_) (a' := ?_) #[true, true, true, true, true, true, true, true, false, false, false, false, false, false, false, false, false, false, false, false, false] rfl rfl (any_of HT_.out (by kernel_rfl)) (fun _ _ _ h => h) (Or.inl ⟨by rfl, ?_⟩) ?_ ?_
     rotate_left
     ·intro w'
      go_simp
      with_reducible rfl
     rotate_left
     ·simp only [Act.put, sb0, sb1, sb2, i64_w, i32_w]
      rfl
     refine take_ (i := 8) (N := some 51) (v := ?_) (a' := ?_) #[true, true, true, true, true, true, true, true, true, false, false, false, false, false, false, false, false, false, false, false, false] rfl rfl (take_ofW HT_.out HW_.out (by kernel_rfl)) (fun _ _ _ h => h) (Or.inl ⟨by rfl, ?_⟩) hHeld ?_ ?_
     rotate_left
     ·rintro w' ⟨s0, s1, s2⟩
      go_simp
      with_reducible rfl
     rotate_left
     ·simp only [Act.put, sb0, sb1, sb2, i64_w, i32_w]
      rfl
     refine pure_ (i := 9) (N := some 52) (v := ?_) (a' := ?_) #[true, true, true, true, true, true, true, true, true, true, false, false, false, false, false, false, false, false, false, false, false] rfl rfl (any_of HT_.out (by kernel_rfl)) (fun _ _ _ h => h) (Or.inl ⟨by rfl, ?_⟩) ?_ ?_
     rotate_left
     ·intro w'
      go_simp
      with_reducible rfl
     rotate_left
     ·simp only [Act.put, sb0, sb1, sb2, i64_w, i32_w]
      rfl
     refine pure_ (i := 10) (N := some 53) (v := ?_) (a' := ?_) #[true, true, true, true, true, true, true, true, true, true, true, false, false, false, false, false, false, false, false, false, false] rfl rfl (any_of HT_.out (by kernel_rfl)) (fun _ _ _ h => h) (Or.inl ⟨by rfl, ?_⟩) ?_ ?_
     rotate_left
     ·intro w'
      go_simp
      with_reducible rfl
     rotate_left
     ·simp only [Act.put, sb0, sb1, sb2, i64_w, i32_w]
      rfl
     refine pure_ (i := 11) (N := some 54) (v := ?_) (a' := ?_) #[true, true, true, true, true, true, true, true, true, true, true, true, false, false, false, false, false, false, false, false, false] rfl rfl (any_of HT_.out (by kernel_rfl)) (fun _ _ _ h => h) (Or.inl ⟨by rfl, ?_⟩) ?_ ?_
     rotate_left
     ·intro w'
      go_simp
      with_reducible rfl
     rotate_left
     ·simp only [Act.put, sb0, sb1, sb2, i64_w, i32_w]
      rfl
     refine take_ (i := 12) (N := some 55) (v := ?_) (a' := ?_) #[true, true, true, true, true, true, true, true, true, true, true, true, true, false, false, false, false, false, false, false, false] rfl rfl (take_ofW HT_.out HW_.out (by kernel_rfl)) (fun _ _ _ h => h) (Or.inl ⟨by rfl, ?_⟩) hHeld ?_ ?_
     rotate_left
     ·rintro w' ⟨s0, s1, s2⟩
      go_simp
      with_reducible rfl
     rotate_left
     ·simp only [Act.put, sb0, sb1, sb2, i64_w, i32_w]
      rfl
     refine pure_ (i := 13) (N := some 56) (v := ?_) (a' := ?_) #[true, true, true, true, true, true, true, true, true, true, true, true, true, true, false, false, false, false, false, false, false] rfl rfl (any_of HT_.out (by kernel_rfl)) (fun _ _ _ h => h) (Or.inl ⟨by rfl, ?_⟩) ?_ ?_
     rotate_left
     ·intro w'
      go_simp
      with_reducible rfl
     rotate_left
     ·simp only [Act.put, sb0, sb1, sb2, i64_w, i32_w]
      rfl
     refine pure_ (i := 14) (N := some 57) (v := ?_) (a' := ?_) #[true, true, true, true, true, true, true, true, true, true, true, true, true, true, true, false, false, false, false, false, false] rfl rfl (any_of HT_.out (by kernel_rfl)) (fun _ _ _ h => h) (Or.inl ⟨by rfl, ?_⟩) ?_ ?_
     rotate_left
     ·intro w'
      go_simp
      with_reducible rfl
     rotate_left
     ·simp only [Act.put, sb0, sb1, sb2, i64_w, i32_w]
      rfl
     refine pure_ (i := 15) (N := some 58) (v := ?_) (a' := ?_) #[true, true, true, true, true, true, true, true, true, true, true, true, true, true, true, true, false, false, false, false, false] rfl rfl (any_of HT_.out (by kernel_rfl)) (fun _ _ _ h => h) (Or.inl ⟨by rfl, ?_⟩) ?_ ?_
     rotate_left
     ·intro w'
      go_simp
      with_reducible rfl
     rotate_left
     ·simp only [Act.put, sb0, sb1, sb2, i64_w, i32_w]
      rfl
     refine pure_ (i := 16) (N := some 59) (v := ?_) (a' := ?_) #[true, true, true, true, true, true, true, true, true, true, true, true, true, true, true, true, true, false, false, false, false] rfl rfl (any_of HT_.out (by kernel_rfl)) (fun _ _ _ h => h) (Or.inl ⟨by rfl, ?_⟩) ?_ ?_
     rotate_left
     ·intro w'
      go_simp
      with_reducible rfl
     rotate_left
     ·simp only [Act.put, sb0, sb1, sb2, i64_w, i32_w]
      rfl
     refine one_ (i := 17) (N := some 60) #[true, true, true, true, true, true, true, true, true, true, true, true, true, true, true, true, true, true, false, false, false] rfl rfl (one_of HT_.out (by kernel_rfl)) (by decide) (fun K hK => ?_)
     refine goes_ Try.func76 (by kernel_rfl) rfl #[.pointer (some ⟨ga, 0, none⟩), .agg #[.int .i64 (n : Int), .int .i64 (dropBit left n : Int)]] (by rfl) rfl rfl (by (try simp only [List.map_toArray, List.map_cons, List.map_nil]); rfl) ?_
     refine (HCL.out).mono ?_
     rintro e_ w_ ⟨rfl, hA_, hK_⟩
     refine ⟨_, rfl, hK.out _ _ ⟨by simpa using (B3d.out.move (hK_.block _ (by omega) (by omega))).cell 0, by simpa using (B3d.out.move (hK_.block _ (by omega) (by omega))).cell 1, by rw [hA_.atl.time (i := at_) (j := n) ha hn8, HTN.out]⟩ (fun hHeld => ?_)⟩
     clear hK K
     have HAe := Aside0.mk hA_
     have B3e := Aside0.mk (B3d.out.move (hK_.block _ (by omega) (by omega)))
     have B4e := Aside0.mk (B4d.out.move (hK_.block _ (by omega) (by omega)))
     have B7e := Aside0.mk (B7d.out.move (hK_.block _ (by omega) (by omega)))
     have HIe := Aside0.mk (HId.out.keep hK_ (Nat.le_refl _) (by rintro g rfl; omega))
     have KWe := Aside0.mk (KWd.out.trans (hK_.mono (by omega) (fun _ _ h => h)))
     clear hA_ hK_ HAd B3d B4d B7d HId KWd HCL
     refine norm_ (by simp only [Act.put, sb0, sb1, sb2]; rfl) ?_
     refine pure_ (i := 18) (N := some 61) (v := ?_) (a' := ?_) #[true, true, true, true, true, true, true, true, true, true, true, true, true, true, true, true, true, true, true, false, false] rfl rfl (any_of HT_.out (by kernel_rfl)) (fun _ _ _ h => h) (Or.inl ⟨by rfl, ?_⟩) ?_ ?_
     rotate_left
     ·intro w'
      go_simp
      with_reducible rfl
     rotate_left
     ·simp only [Act.put, sb0, sb1, sb2, i64_w, i32_w]
      rfl
     refine pure_ (i := 19) (N := some 62) (v := ?_) (a' := ?_) #[true, true, true, true, true, true, true, true, true, true, true, true, true, true, true, true, true, true, true, true, false] rfl rfl (any_of HT_.out (by kernel_rfl)) (fun _ _ _ h => h) (Or.inl ⟨by rfl, ?_⟩) ?_ ?_
     rotate_left
     ·intro w'
      go_simp
      with_reducible rfl
     rotate_left
     ·simp only [Act.put, sb0, sb1, sb2, i64_w, i32_w]
      rfl
     refine pure_ (i := 20) (N := some 10) (v := ?_) (a' := ?_) #[true, true, true, true, true, true, true, true, true, true, true, true, true, true, true, true, true, true, true, true, true] rfl rfl (any_of HT_.out (by kernel_rfl)) (fun _ _ _ h => h) (Or.inl ⟨by rfl, ?_⟩) ?_ ?_
     rotate_left
     ·intro w'
      go_simp
      with_reducible rfl
     rotate_left
     ·simp only [Act.put, sb0, sb1, sb2, i64_w, i32_w]
      rfl
     refine done_ (done_of HT_.out (by kernel_rfl)) ?_
     obtain ⟨⟨b0, b1⟩, hleg⟩ : ∃ x, legAt T at_ left k = x := ⟨_, rfl⟩
     rw [hleg] at B7e HLS
     rw [HR.out, HTN.out] at HLS
     clear hleg
     have h70 := B7e.out.cell 0
     have h71 := B7e.out.cell 1
     have h70f := B7e.out.frozen 0
     have h71f := B7e.out.frozen 1
     simp only [sb3, sb4] at h70 h71
     have hgm := HAe.out.ne
     by_cases hb : tn + r0 < b0
     ·have hbd : decide (tn + r0 < b0) = true := by simpa using hb
      have hls := HLS.out
      rw [if_pos hb] at hls
      have HLT := Aside0.mk hls
      clear HLS hls
      go_wp2_with fail
      go_roundw
      case rel =>
       refine ⟨k + 1, by omega, by go_num, ⟨(HAe.out.other (p := ⟨g5 + 1, 0, none⟩) (by simp only; omega) (by simp only; omega) _).other (p := ⟨g5 + 1, 1, none⟩) (by simp only; omega) (by simp only; omega) _⟩, ⟨?_⟩, ⟨?_⟩, ⟨?_⟩, ⟨(HIe.out.setCell (p := ⟨g5 + 1, 0, none⟩) (by simp only; omega) _).setCell (p := ⟨g5 + 1, 1, none⟩) (by simp only; omega) _⟩, ⟨(KWe.out.setCell (p := ⟨g5 + 1, 0, none⟩) (.inr (by simp only; omega)) _).setCell (p := ⟨g5 + 1, 1, none⟩) (.inr (by simp only; omega)) _⟩⟩
       ·exact (B3e.out.move (Below.heap_setCell _ _ _ _ (by simp only; omega))).move (Below.heap_setCell _ _ _ _ (by simp only; omega))
       ·exact (B4e.out.move (Below.heap_setCell _ _ _ _ (by simp only; omega))).move (Below.heap_setCell _ _ _ _ (by simp only; omega))
       ·rw [HLT.out]
        exact B7e.out.set2 _ _
      case measure => simp [intOf]; omega
     ·have hbd : decide (tn + r0 < b0) = false := by simpa using hb
      have hls := HLS.out
      rw [if_neg hb] at hls
      have HLT := Aside0.mk hls
      clear HLS hls
      go_wp2_with fail
      go_roundw
      case rel => exact ⟨k + 1, by omega, by go_num, HAe, B3e, B4e, ⟨by rw [HLT.out]; exact B7e.out⟩, HIe, KWe⟩
      case measure => simp [intOf]; omega
    ·obtain rfl : k = (places left).length := by omega
     rw [legAt_all T at_ left h0] at B7
     obtain ⟨o, ho, hMo⟩ := HA.out.drew.memo.update ha hl
     unfold encStand encLeg at ho
     have HMO := Aside0.mk hMo
     clear hMo
     have hM := HA.out.atl.map.2.2
     have h30 := B3.out.cell 0
     have h31 := B3.out.cell 1
     have h70 := B7.out.cell 0
     have h71 := B7.out.cell 1
     simp only [sb3, sb4] at h30 h31 h70 h71
     have hmw := HA.out.memo.lt
     have h4w := B4.out.lt
     have h7w := B7.out.lt
     have hgm := HA.out.ne
     go_wp2_with fail
     go_region
     have HAu := Aside0.mk (show AtlM (wr.drew.putObj mb o) ga vW vR T F mb from ⟨HA.out.drew.atl.move (putObj_other _ _ hgm), HMO.out, hgm⟩)
     have B4u := Aside0.mk (B4.out.move (w' := wr.drew.putObj mb o) (putObj_other _ _ (by omega)))
     have B7u := Aside0.mk (B7.out.move (w' := wr.drew.putObj mb o) (putObj_other _ _ (by omega)))
     have KWu := Aside0.mk (KW.out.drew.put (.inl rfl) o)
     clear HA B3 B4 B7 HI KW hM h30 h31 h70 h71 ho HMO
     generalize wr.drew.putObj mb o = wu at HAu B4u B7u KWu ⊢
     have h70 := B7u.out.cell 0
     have h71 := B7u.out.cell 1
     have h40 := B4u.out.cell 0
     have h41 := B4u.out.cell 1
     have h40f := B4u.out.frozen 0
     have h41f := B4u.out.frozen 1
     simp only [sb3, sb4] at h70 h71 h40 h41
     go_wp2_with fail
     refine rest_ret (g := w.heap.size + 1) rfl rfl (B4u.out.set2 _ _) ⟨rfl, ?_, ?_⟩
     ·exact (HAu.out.other (p := ⟨w.heap.size + 1, 0, none⟩) (by simp only; omega) (by simp only; omega) _).other (p := ⟨w.heap.size + 1, 1, none⟩) (by simp only; omega) (by simp only; omega) _
     ·exact (KWu.out.setCell (p := ⟨w.heap.size + 1, 0, none⟩) (.inr (by simp only; omega)) _).setCell (p := ⟨w.heap.size + 1, 1, none⟩) (.inr (by simp only; omega)) _
  ·have hb := hb1 rfl
   clear hb1 hb0
   unfold encLeg at hb
   simp only [Value.agg.injEq, Array.mk.injEq, List.cons.injEq, Value.int.injEq, true_and, and_true] at hb
   obtain ⟨rfl, rfl⟩ := hb
   go_wp2_with fail
   refine rest_ret (g := w.heap.size + 1) rfl rfl (B4f.out.set2 _ _) ⟨rfl, ?_, ?_⟩
   ·exact (HAf.out.other (p := ⟨w.heap.size + 1, 0, none⟩) (by simp only; omega) (by simp only; omega) _).other (p := ⟨w.heap.size + 1, 1, none⟩) (by simp only; omega) (by simp only; omega) _
   ·exact (KWf.out.setCell (p := ⟨w.heap.size + 1, 0, none⟩) (.inr (by simp only; omega)) _).setCell (p := ⟨w.heap.size + 1, 1, none⟩) (.inr (by simp only; omega)) _
end Go.Proofs.Ytiddkceahbnolaa
