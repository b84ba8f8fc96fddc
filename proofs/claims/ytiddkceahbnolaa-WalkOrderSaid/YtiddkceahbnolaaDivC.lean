/- walk's divide: the walk through its code. -/
import Derived.Test.YtiddkceahbnolaaDiv
import Derived.Laws.EntriesVeiled
import Derived.Laws.MakeOwn
namespace Go.Proofs.Ytiddkceahbnolaa
open Go.RowKit Go.Shelf Go.Proofs.Ytiddkceahbnolaa.PWalkOrder Go.Proofs.YtiddkceahbnolaaW.PrintWords Go.Proofs.YtiddkceahbnolaaW.PrintLast
attribute [local go_sem] setsNil setsNe
set_option linter.unusedVariables false
set_option linter.unusedSimpArgs false
set_option linter.unnecessarySimpa false

def dc.T4 : Bool × List (List Nat × List Nat) := (true, [([], []), ([], []), ([1], [1]), ([2], [2]), ([3], [3]), ([4], [4]), ([0, 5, 5], [0, 5]), ([6, 6, 0, 1, 2, 3, 4, 5, 6], [6])])
def dc.B4 : List Nat := [0, 0, 2, 6, 14, 30, 63, 127]
theorem dc.tab4 : rtab .any (opsOf Try.f44 4) = dc.T4 := by kernel_rfl
theorem dc.bits4 : waitsOk dc.T4.2 dc.B4 = true := by kernel_rfl

theorem infoSets : (Try.prog.info? 100).map (fun i => (i.zero, i.size, i.bytes)) = some (some (.slice none 0 0), 1, 24) := by kernel_rfl
theorem tab_new (W : World) (mb N m : Nat) (hm : 2 ^ N = m + 1) : Tab (W.alloc (.cells (madeCells #[.slice none 0 0] (m + 1)) 100)) mb W.heap.size N (fun _ => none) := by
 refine ⟨_, heap_alloc_new W _, ?_, fun t ht => ⟨.slice none 0 0, ?_, rfl⟩⟩
 ·rw [hm]
  simp [madeCells]
 ·rw [hm] at ht
  simp [madeCells, ht, Nat.mod_one]
theorem sets_make (W : World) (m : Nat) (hm : m < 256) : (Instr.makeSlice 159 (.int .i64 ((m : Int) + 1)) (.int .i64 ((m : Int) + 1))).run Try.prog W = .ok (.slice (some ⟨W.heap.size, 0, none⟩) (m + 1) (m + 1)) (W.alloc (.cells (madeCells #[.slice none 0 0] (m + 1)) 100)) := by
 obtain ⟨i0, hi, hzz⟩ := Option.map_eq_some_iff.1 infoSets
 simp only [Prod.mk.injEq] at hzz
 obtain ⟨hz0, hz1, hz2⟩ := hzz
 have hr := run_make (P := Try.prog) W 159 100 i0 _ Try.underlying159 hi hz0 .i64 .i64 ((m : Int) + 1) ((m : Int) + 1) (by omega) (by omega) (by rw [hz2]; omega) (by omega)
 rw [hz1, show (Value.slice none 0 0).cells = #[.slice none 0 0] from rfl] at hr
 simpa using hr

theorem DC.later {w0 w w' : World} {A0 : Option Addr} {c0 : Nat} {Wk : List S77} {A1 : Option Addr} {c1 : Nat} {R : List S94} {ga mb : Nat} {T F : Nat → Nat → Int} {gt b1 b2 b3 b4 : Nat} {limit : Int} (h : DC w0 w A0 c0 Wk A1 c1 R ga mb T F gt b1 b2 b3 b4 limit) (hb : Below w.heap.size w w') : DC w0 w' A0 c0 Wk A1 c1 R ga mb T F gt b1 b2 b3 b4 limit :=
 h.keep (Nat.le_refl _) (Keep.of_below hb (Nat.le_refl _)) (h.atl.atl.keep hb)

set_option maxRecDepth 100000 in
set_option maxHeartbeats 40000000 in
theorem divide_calls {w0 w : World} {A0 : Option Addr} {c0 : Nat} {Wk : List S77} {A1 : Option Addr} {c1 : Nat} {R : List S94} {ga mb : Nat} {T F : Nat → Nat → Int} (limit : Int) (hN : Wk.length ≤ 8) (hT : Bounded2 T) (hW : WorkOk Wk) (h : AtlS w0 w A0 c0 Wk A1 c1 R ga mb T F) :
  Calls Try.prog 44 #[.pointer (some ⟨ga, 0, none⟩), .int .i64 limit] w fun e w' => ∃ A c, e = .returned (.tuple #[.slice A ((split (badF T Wk limit) (2 ^ Wk.length - 1)).getD 0) c, .bool (split (badF T Wk limit) (2 ^ Wk.length - 1)).isSome]) ∧ AtlS w0 w' A0 c0 Wk A1 c1 R ga mb T F ∧ Keep w.heap.size (fun b => b = mb) w w' := by
 have HT := Aside0.mk hT
 have HW := Aside0.mk hW
 have HA := Aside0.mk h
 have hga := h.atl.atl.lt
 have hmb := h.atl.memo.lt
 have hw0 := h.gt
 have hm0 := h.atl.atl.map.1
 have hm1 := h.atl.atl.map.2.1
 clear hT hW h
 go_enter Try.func44, Try.ntmps44
 go_wp2_with fail
 refine (whole_calls hN _).mono ?_
 rintro e w1 ⟨rfl, hb1⟩
 obtain ⟨m, hm⟩ : ∃ m, 2 ^ Wk.length - 1 = m := ⟨_, rfl⟩
 have hm256 : m < 256 := by
  have := Nat.pow_le_pow_right (n := 2) (by omega) hN
  omega
 have hmp : 2 ^ Wk.length = m + 1 := by have := Nat.two_pow_pos Wk.length; omega
 rw [hm]
 have hmk := sets_make w1 m hm256
 have hs2 : ((w.alloc (.cells #[.pointer (some ⟨ga, 0, none⟩)] 84)).alloc (.cells #[.int .i64 limit] 3)).heap.size = w.heap.size + 1 + 1 := by simp
 go_wp2_with fail
 have hb1' : Below w.heap.size w w1 := (below_alloc (below_alloc (Below.refl _ _) _) _).trans (hb1.mono (by simp; omega))
 rw [hs2] at hb1
 have hsz1 := hb1.size
 rw [hs2] at hsz1
 have hD : ∀ ws, ws = ((w1.alloc (.cells (madeCells #[.slice none 0 0] (m + 1)) 100)).alloc (.cells #[.slice (some ⟨w1.heap.size, 0, none⟩) (m + 1) (m + 1)] 159)).alloc (.cells #[.func (.func 79) #[] #[.pointer (some ⟨w1.heap.size + 1, 0, none⟩), .pointer (some ⟨w.heap.size, 0, none⟩), .pointer (some ⟨w.heap.size + 1, 0, none⟩), .pointer (some ⟨w1.heap.size + 1 + 1, 0, none⟩)]] 160) → DC w0 ws A0 c0 Wk A1 c1 R ga mb T F w1.heap.size (w1.heap.size + 1) w.heap.size (w.heap.size + 1) (w1.heap.size + 1 + 1) limit ∧ Tab ws mb w1.heap.size Wk.length (fun _ => none) ∧ Keep w.heap.size (Wr mb w1.heap.size) w ws := by
  rintro ws rfl
  have B2 := (((((Blk.new w [.pointer (some ⟨ga, 0, none⟩)] 84).alloc (.cells #[.int .i64 limit] 3)).below (by rw [hs2]; exact hb1)).alloc (.cells (madeCells #[.slice none 0 0] (m + 1)) 100)).alloc (.cells #[.slice (some ⟨w1.heap.size, 0, none⟩) (m + 1) (m + 1)] 159)).alloc (.cells #[.func (.func 79) #[] #[.pointer (some ⟨w1.heap.size + 1, 0, none⟩), .pointer (some ⟨w.heap.size, 0, none⟩), .pointer (some ⟨w.heap.size + 1, 0, none⟩), .pointer (some ⟨w1.heap.size + 1 + 1, 0, none⟩)]] 160)
  have B3 := ((((Blk.new (w.alloc (.cells #[.pointer (some ⟨ga, 0, none⟩)] 84)) [.int .i64 limit] 3).below (by rw [hs2]; exact hb1)).alloc (.cells (madeCells #[.slice none 0 0] (m + 1)) 100)).alloc (.cells #[.slice (some ⟨w1.heap.size, 0, none⟩) (m + 1) (m + 1)] 159)).alloc (.cells #[.func (.func 79) #[] #[.pointer (some ⟨w1.heap.size + 1, 0, none⟩), .pointer (some ⟨w.heap.size, 0, none⟩), .pointer (some ⟨w.heap.size + 1, 0, none⟩), .pointer (some ⟨w1.heap.size + 1 + 1, 0, none⟩)]] 160)
  have B1 := (Blk.new (w1.alloc (.cells (madeCells #[.slice none 0 0] (m + 1)) 100)) [.slice (some ⟨w1.heap.size, 0, none⟩) (m + 1) (m + 1)] 159).alloc (.cells #[.func (.func 79) #[] #[.pointer (some ⟨w1.heap.size + 1, 0, none⟩), .pointer (some ⟨w.heap.size, 0, none⟩), .pointer (some ⟨w.heap.size + 1, 0, none⟩), .pointer (some ⟨w1.heap.size + 1 + 1, 0, none⟩)]] 160)
  have B4 := Blk.new ((w1.alloc (.cells (madeCells #[.slice none 0 0] (m + 1)) 100)).alloc (.cells #[.slice (some ⟨w1.heap.size, 0, none⟩) (m + 1) (m + 1)] 159)) [.func (.func 79) #[] #[.pointer (some ⟨w1.heap.size + 1, 0, none⟩), .pointer (some ⟨w.heap.size, 0, none⟩), .pointer (some ⟨w.heap.size + 1, 0, none⟩), .pointer (some ⟨w1.heap.size + 1 + 1, 0, none⟩)]] 160
  simp only [World.size_alloc] at B3 B1 B4
  have hT1 := tab_new w1 mb Wk.length m hmp
  have hne : w1.heap.size ≠ mb := by omega
  have hT2 := (hT1.keep (S := fun b => b = mb) (Keep.of_below (below_alloc (Below.refl _ _) (.cells #[.slice (some ⟨w1.heap.size, 0, none⟩) (m + 1) (m + 1)] 159)) (Nat.le_refl _)) (Nat.le_refl _) (fun _ h => h) hne).keep (S := fun b => b = mb) (Keep.of_below (below_alloc (Below.refl _ _) (.cells #[.func (.func 79) #[] #[.pointer (some ⟨w1.heap.size + 1, 0, none⟩), .pointer (some ⟨w.heap.size, 0, none⟩), .pointer (some ⟨w.heap.size + 1, 0, none⟩), .pointer (some ⟨w1.heap.size + 1 + 1, 0, none⟩)]] 160)) (Nat.le_refl _)) (Nat.le_refl _) (fun _ h => h) hne
  have hbs := below_alloc (below_alloc (below_alloc hb1' (.cells (madeCells #[.slice none 0 0] (m + 1)) 100)) (.cells #[.slice (some ⟨w1.heap.size, 0, none⟩) (m + 1) (m + 1)] 159)) (.cells #[.func (.func 79) #[] #[.pointer (some ⟨w1.heap.size + 1, 0, none⟩), .pointer (some ⟨w.heap.size, 0, none⟩), .pointer (some ⟨w.heap.size + 1, 0, none⟩), .pointer (some ⟨w1.heap.size + 1 + 1, 0, none⟩)]] 160)
  refine ⟨⟨HA.out.later hbs, by rw [hmp]; exact B1, B2, B3, B4, by omega, ⟨hne, by omega⟩, ⟨by omega, by omega⟩, ⟨by omega, by omega⟩, ⟨by omega, by omega⟩, ⟨by omega, by omega⟩⟩, hT2, Keep.of_below hbs (Nat.le_refl _)⟩
 obtain ⟨ws, hws⟩ : ∃ ws, ws = ((w1.alloc (.cells (madeCells #[.slice none 0 0] (m + 1)) 100)).alloc (.cells #[.slice (some ⟨w1.heap.size, 0, none⟩) (m + 1) (m + 1)] 159)).alloc (.cells #[.func (.func 79) #[] #[.pointer (some ⟨w1.heap.size + 1, 0, none⟩), .pointer (some ⟨w.heap.size, 0, none⟩), .pointer (some ⟨w.heap.size + 1, 0, none⟩), .pointer (some ⟨w1.heap.size + 1 + 1, 0, none⟩)]] 160) := ⟨_, rfl⟩
 obtain ⟨hD1, hD2, hD3⟩ := hD ws hws
 rw [← hws]
 have hgt : w.heap.size ≤ w1.heap.size := by omega
 have hgt2 : w.heap.size < w1.heap.size := by omega
 clear hws hD hmk hb1 hb1' hsz1 hs2 hm0 hm1
 generalize w1.heap.size + 1 + 1 = b4 at hD1 ⊢
 generalize w1.heap.size + 1 = b1 at hD1 ⊢
 generalize w1.heap.size = gt at hD1 hD2 hD3 hgt hgt2 ⊢
 generalize w.heap.size + 1 = b3 at hD1 ⊢
 obtain ⟨b2, hb2⟩ : ∃ b, w.heap.size = b := ⟨_, rfl⟩
 rw [hb2] at hD1 ⊢
 have HD := Aside0.mk hD1
 have HTb := Aside0.mk hD2
 have KW := Aside0.mk hD3
 obtain ⟨hc1, hc2, hc3, hc4⟩ := hD1.cells
 have hm0 := hD1.atl.atl.atl.map.1
 have hm1 := hD1.atl.atl.atl.map.2.1
 clear hD1 hD2 hD3
 refine start_ (n := 8) (S := fun w' => w'.cell? ⟨b4, 0, none⟩ = some (.func (.func 79) #[] #[.pointer (some ⟨b1, 0, none⟩), .pointer (some ⟨b2, 0, none⟩), .pointer (some ⟨b3, 0, none⟩), .pointer (some ⟨b4, 0, none⟩)]) ∧ w'.cell? ⟨b2, 0, none⟩ = some (.pointer (some ⟨ga, 0, none⟩)) ∧ w'.cell? ⟨ga, 0, none⟩ = some (.slice A0 Wk.length c0) ∧ w'.cell? ⟨ga, 1, none⟩ = some (.slice A1 R.length c1)) (ds := [6]) #[false, false, false, false, false, false, false, false] (by kernel_rfl) rfl rfl ⟨hc4, hc2, hm0, hm1⟩ (fun hHeld => ?_); refine with_tabW dc.tab4 dc.bits4 (fun HT_ HW_ => ?_)
 have HDd := Aside0.mk HD.out.drew
 have HTd := Aside0.mk (HTb.out.drew HD.out.nt.1)
 have KWd := Aside0.mk KW.out.drew
 clear HD HTb KW
 generalize ws.drew = wd at HDd HTd KWd hHeld ⊢
 refine take_ (i := 0) (N := some 17) (v := ?_) (a' := ?_) #[true, false, false, false, false, false, false, false] rfl rfl (take_ofW HT_.out HW_.out (by kernel_rfl)) (fun _ _ _ h => h) (Or.inl ⟨by rfl, ?_⟩) hHeld ?_ ?_
 rotate_left
 ·rintro w' ⟨s0, s1, s2, s3⟩
  go_simp
  with_reducible rfl
 rotate_left
 ·simp only [Act.put, sb0, sb1, sb2, i64_w, i32_w]
  rfl
 refine take_ (i := 1) (N := some 18) (v := ?_) (a' := ?_) #[true, true, false, false, false, false, false, false] rfl rfl (take_ofW HT_.out HW_.out (by kernel_rfl)) (fun _ _ _ h => h) (Or.inl ⟨by rfl, ?_⟩) hHeld ?_ ?_
 rotate_left
 ·rintro w' ⟨s0, s1, s2, s3⟩
  go_simp
  with_reducible rfl
 rotate_left
 ·simp only [Act.put, sb0, sb1, sb2, i64_w, i32_w]
  rfl
 refine pure_ (i := 2) (N := some 19) (v := ?_) (a' := ?_) #[true, true, true, false, false, false, false, false] rfl rfl (any_of HT_.out (by kernel_rfl)) (fun _ _ _ h => h) (Or.inl ⟨by rfl, ?_⟩) ?_ ?_
 rotate_left
 ·intro w'
  go_simp
  with_reducible rfl
 rotate_left
 ·simp only [Act.put, sb0, sb1, sb2, i64_w, i32_w]
  rfl
 refine pure_ (i := 3) (N := some 20) (v := ?_) (a' := ?_) #[true, true, true, true, false, false, false, false] rfl rfl (any_of HT_.out (by kernel_rfl)) (fun _ _ _ h => h) (Or.inl ⟨by rfl, ?_⟩) ?_ ?_
 rotate_left
 ·intro w'
  go_simp
  with_reducible rfl
 rotate_left
 ·simp only [Act.put, sb0, sb1, sb2, i64_w, i32_w]
  rfl
 refine take_ (i := 4) (N := some 21) (v := ?_) (a' := ?_) #[true, true, true, true, true, false, false, false] rfl rfl (take_ofW HT_.out HW_.out (by kernel_rfl)) (fun _ _ _ h => h) (Or.inl ⟨by rfl, ?_⟩) hHeld ?_ ?_
 rotate_left
 ·rintro w' ⟨s0, s1, s2, s3⟩
  go_simp
  with_reducible rfl
 rotate_left
 ·simp only [Act.put, sb0, sb1, sb2, i64_w, i32_w]
  rfl
 refine one_ (i := 5) (N := some 22) #[true, true, true, true, true, true, false, false] rfl rfl (one_of HT_.out (by kernel_rfl)) (by decide) (fun K hK => ?_)
 refine goes_ Try.func43 (by kernel_rfl) rfl #[.agg #[.slice A0 Wk.length c0, .slice A1 R.length c1]] (by rfl) rfl rfl (by (try simp only [List.map_toArray, List.map_cons, List.map_nil]); rfl) ?_
 refine (whole_calls hN _).mono ?_
 rintro e_ w_ ⟨rfl, hB_⟩
 refine ⟨_, rfl, hK.out _ _ ⟨(HDd.out.later hB_).cells.2.2.2, (HDd.out.later hB_).cells.2.1, (HDd.out.later hB_).atl.atl.atl.map.1, (HDd.out.later hB_).atl.atl.atl.map.2.1⟩ (fun hHeld => ?_)⟩
 clear hK K
 have HD5 := Aside0.mk (HDd.out.later hB_)
 have HT5 := Aside0.mk (HTd.out.keep (S := fun b => b = mb) (Keep.of_below hB_ (Nat.le_refl _)) (Nat.le_refl _) (fun _ h => h) HDd.out.nt.1)
 have K5 := Aside0.mk (KWd.out.trans (Keep.of_below (S := Wr mb gt) hB_ KWd.out.size))
 clear hB_ HDd HTd KWd
 refine norm_ (by simp only [Act.put, sb0, sb1, sb2]; rfl) ?_
 refine last_ (i := 6) (N := some 23) #[true, true, true, true, true, true, true, false] rfl rfl (one_of HT_.out (by kernel_rfl)) (by decide) (fun K hK => ?_)
 refine call_ 79 #[.int .i64 (m : Int), .pointer (some ⟨b1, 0, none⟩), .pointer (some ⟨b2, 0, none⟩), .pointer (some ⟨b3, 0, none⟩), .pointer (some ⟨b4, 0, none⟩)] (by rfl) rfl ?_ ?_
 ·have he := enters_ Try.func79 (by kernel_rfl) rfl #[.int .i64 (m : Int), .pointer (some ⟨b1, 0, none⟩), .pointer (some ⟨b2, 0, none⟩), .pointer (some ⟨b3, 0, none⟩), .pointer (some ⟨b4, 0, none⟩)]
  go_simp
 refine (split_calls hN HT.out HW.out m (by omega) _ _ HD5.out HT5.out (fun _ _ => .inl rfl)).mono ?_
 rintro e_ w_ ⟨vr, Er, rfl, hEr, hDr, hTr, _, _, hKr⟩
 refine ⟨_, rfl, hK.out _ _ ?_⟩
 clear hK K
 have HAr := Aside0.mk hDr.atl
 have HEr := Aside0.mk hEr
 have KWr := Aside0.mk ((K5.out.trans (hKr.mono K5.out.size (fun _ _ h => h))).mono (T := fun b => b = mb) (Nat.le_refl _) (fun b hb hs => by rcases hs with e | e <;> omega))
 clear hDr hEr hTr hKr HD5 HT5 K5
 refine norm_ (by simp only [Act.put, sb0, sb1, sb2]; rfl) ?_
 refine pure_ (i := 7) (N := some 8) (v := ?_) (a' := ?_) #[true, true, true, true, true, true, true, true] rfl rfl (any_of HT_.out (by kernel_rfl)) (fun _ _ _ h => h) (Or.inl ⟨by rfl, ?_⟩) ?_ ?_
 rotate_left
 ·intro w'
  go_simp
  with_reducible rfl
 rotate_left
 ·simp only [Act.put, sb0, sb1, sb2, i64_w, i32_w]
  rfl
 refine done_ (done_of HT_.out (by kernel_rfl)) ?_
 obtain ⟨og, hog⟩ : ∃ o, split (badF T Wk limit) m = o := ⟨_, rfl⟩
 rw [hog] at HEr
 have HOG := Aside0.mk hog
 clear hog hc1 hc2 hc3 hc4 hm0 hm1
 cases og with
 | none =>
  obtain rfl : vr = .slice none 0 0 := HEr.out
  go_wp2_with fail
  go_ret2
  rw [hm, HOG.out]
  exact ⟨none, 0, rfl, HAr.out, KWr.out⟩
 | some k =>
  obtain ⟨ad, c, xs, rfl, _⟩ := HEr.out
  go_wp2_with fail
  go_ret2
  rw [hm, HOG.out]
  exact ⟨some ad, c, rfl, HAr.out, KWr.out⟩
end Go.Proofs.Ytiddkceahbnolaa
