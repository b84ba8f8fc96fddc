/- border's list and Best: the best borders. -/
import Derived.Test.YtiddkceahbnolaaZMove
import Derived.Laws.Cover3
namespace Go.Proofs.Ytiddkceahbnolaa
open Go.RowKit Go.Shelf Go.Proofs.Ytiddkceahbnolaa.PBorderOrder Go.Proofs.YtiddkceahbnolaaW.PrintWords Go.Proofs.YtiddkceahbnolaaW.PrintLast
set_option linter.all false
theorem setsNil (a : Option Addr) (l c : Nat) (w : World) : (binOp .eql 26 (.slice a l c) (.slice none 0 0)).run Try.prog w = .ok (.bool a.isNone) w := by
 simp only [binOp]
 simp [run_equal_slice_nil w 26 3 a l c Try.underlying26]
theorem setsNe (a : Option Addr) (l c : Nat) (w : World) : (binOp .neq 26 (.slice a l c) (.slice none 0 0)).run Try.prog w = .ok (.bool (!a.isNone)) w := run_neq_slice_nil w 26 3 a l c Try.underlying26
attribute [local go_sem] setsNil setsNe
theorem info3 : (Try.prog.info? 3).map (fun i => (i.zero, i.size, i.bytes)) = some (some (.int .i64 0), 1, 8) := by kernel_rfl
set_option maxRecDepth 100000 in
set_option maxHeartbeats 4000000 in
theorem cloneI_calls {ad : Addr} {c : Nat} {xs : List Int} (w : World) (hC : (Kd.int .i64).C w (some ad) xs.length xs) (hx : xs.length ≤ 1000) :
  Calls Try.prog 97 #[.slice (some ad) xs.length c] w fun e w' => ∃ v, e = .returned v ∧ (Kd.int .i64).R 3 w' w.heap.size (fun _ => True) v xs ∧ Below w.heap.size w w' := by
 have HC := Aside0.mk hC
 clear hC
 go_enter Try.func97, Try.ntmps97
 go_wp2_with (first | ((with_reducible refine gate_dst (N := 5) rfl ?_); refine Kd.R_lit (Kd.int .i64) w.heap.size 3 ?hg (N := 5) ?hd (xs := ([] : List Int)) (inner := []) (ok := fun _ => True) (okp := fun _ => True) ?hr ?hp (fun _ hk => hk) trivial (Below.refl _ _) (Nat.le_refl _) (by simp) ?_; (case hd => rfl); (case hg => rfl); (case hr => first | (go_simp; done) | (go_simp; rfl)); (case hp => exact (Reps.none _ _)); intro v1 w1 hr1 hb1 hg1 hat1; have HC1 := Aside0.mk (Kd.C_below HC.out hb1); have hsz1 := hb1.size; have HR1 := Aside0.mk hr1; have HB1 := Aside0.mk hb1; clear hr1 hb1 hg1 hat1) | ((with_reducible refine gate_builtin (b := .append) (xs := #[.tmp 5, .tmp 6]) rfl ?_); refine Kd.R_append_rows (Kd.int .i64) (w0 := w) w.heap.size rfl (.tmp 5) (.tmp 6) 26 3 (.int .i64 0) 8 rfl Try.underlying26 info3 rfl (by decide) (by omega) v1 [] xs _ _ _ (fun _ => True) (fun _ => False) rfl rfl HR1.out HC1.out (fun x cs h => h) (fun _ hk => hk.elim) (fun _ _ => trivial) HB1.out hsz1 ?aL ?_; (case aL => (simp only [List.length_nil]; omega)); intro vn wn hon hbn hgn hatn; have HRn := Aside0.mk hon; have HBn := Aside0.mk hbn; clear hon hbn hgn hatn))
 go_ret
 exact ⟨_, rfl, HRn.out, HBn.out⟩
set_option maxRecDepth 100000 in
set_option maxHeartbeats 4000000 in
theorem cellsL_C {w : World} {g : Nat} {l : Nat → Int} (h : Blk w g (cellsL l) 121) (n : Nat) (hn : n ≤ 8) : (Kd.int .i64).C w (some ⟨g, 0, none⟩) n ((List.range n).map l) := by
 refine ⟨by simp, by omega, fun h0 => ⟨_, rfl, fun j p hj => ?_⟩⟩
 obtain ⟨hjl, hjp⟩ := List.getElem?_eq_some_iff.1 hj
 simp only [List.length_map, List.length_range] at hjl
 refine ⟨[.int .i64 p], rfl, rfl, fun i u hu => ?_⟩
 obtain rfl : i = 0 := by
  rcases Nat.eq_zero_or_pos i with e | e
  ·exact e
  ·rw [List.getElem?_eq_none (by simp only [List.length_cons, List.length_nil]; omega)] at hu
   cases hu
 obtain rfl : Value.int .i64 p = u := by simpa using hu
 rw [add_at]
 have hc := h.cell j
 rw [cellsL_get l j (by omega)] at hc
 have hp : l j = p := by rw [← hjp]; simp
 rw [← hp, show j * (Kd.int .i64).sz + 0 = j from by show j * 1 + 0 = j; omega]
 simpa using hc
set_option maxRecDepth 100000 in
set_option maxHeartbeats 40000000 in
theorem list_calls {A0 : Option Addr} {c0 : Nat} {old : List Int} {nw : Int} {A2 : Option Addr} {c2 : Nat} {ss : List S115} {A3 : Option Addr} {c3 : Nat} {js : List S119} {w : World} {gw mb : Nat} (hw : IsW w gw mb A0 c0 old nw A2 c2 ss A3 c3 js) (hss : ss.length ≤ 8) (h0 : 0 < ss.length) (l : Nat → Int) :
  Calls Try.prog 62 #[.pointer (some ⟨gw, 0, none⟩), encL l] w fun e w' => ∃ v, e = .returned v ∧ (Kd.int .i64).R 3 w' w.heap.size (fun _ => True) v ((List.range ss.length).map l) ∧ Below w.heap.size w w' := by
 have HW := Aside0.mk hw
 clear hw
 unfold encL
 go_enter Try.func62, Try.ntmps62
 have hc2 := HW.out.blk.cell 2
 simp only [sb3, sb4] at hc2
 have hgw := HW.out.blk.lt
 have hl0 : (0 : Int) ≤ (ss.length : Int) := by omega
 have hl8 : (ss.length : Int) ≤ 8 := by omega
 go_wp2_with fail
 have HB1 := Aside0.mk (below_alloc (Below.refl w.heap.size w) (.cells #[.int .i64 (l 0), .int .i64 (l 1), .int .i64 (l 2), .int .i64 (l 3), .int .i64 (l 4), .int .i64 (l 5), .int .i64 (l 6), .int .i64 (l 7)] 121))
 have B1 := Aside0.mk (show Blk (w.alloc (.cells #[.int .i64 (l 0), .int .i64 (l 1), .int .i64 (l 2), .int .i64 (l 3), .int .i64 (l 4), .int .i64 (l 5), .int .i64 (l 6), .int .i64 (l 7)] 121)) w.heap.size (cellsL l) 121 from Blk.new w (cellsL l) 121)
 have hs1 : w.heap.size ≤ (w.alloc (.cells #[.int .i64 (l 0), .int .i64 (l 1), .int .i64 (l 2), .int .i64 (l 3), .int .i64 (l 4), .int .i64 (l 5), .int .i64 (l 6), .int .i64 (l 7)] 121)).heap.size := by simp
 generalize w.alloc (.cells #[.int .i64 (l 0), .int .i64 (l 1), .int .i64 (l 2), .int .i64 (l 3), .int .i64 (l 4), .int .i64 (l 5), .int .i64 (l 6), .int .i64 (l 7)] 121) = w1 at HB1 B1 hs1 ⊢
 have hC := cellsL_C B1.out ss.length hss
 obtain ⟨X, hX⟩ : ∃ X, (List.range ss.length).map l = X := ⟨_, rfl⟩
 have hXl : X.length = ss.length := by rw [← hX]; simp
 rw [hX] at hC
 have HX := Aside0.mk hX
 clear hX
 have hcl := cloneI_calls (c := 8) (xs := X) w1 (by rw [hXl]; exact hC) (by rw [hXl]; omega)
 rw [hXl] at hcl
 refine hcl.mono ?_
 clear hcl hC hXl
 rintro e w2 ⟨v, rfl, hR, hb2⟩
 have HR := Aside0.mk hR
 have HB2 := Aside0.mk (HB1.out.trans (hb2.mono HB1.out.size))
 clear hR hb2
 go_wp2_with fail
 go_ret
 rw [HX.out]
 exact ⟨_, rfl, Kd.R_lower HR.out hs1, HB2.out⟩
def bestM (old : List Int) (nw : Int) (ss : List S115) (js : List S119) (lo hi : Int) (m : Nat) : Option (Nat × (Nat → Int)) := (moveF (rightB old nw ss js lo hi) (ownL ss) ss.length nw.toNat ss.length (fun _ => 0) (m : Int)).map (fun l => (m, l))
def bestF (old : List Int) (nw : Int) (ss : List S115) (js : List S119) (lo hi : Int) : List Int × Int × Int :=
 if askedE old nw ss js lo hi = 0 then (match (List.range (ss.length + 1)).findSome? (bestM old nw ss js lo hi) with | none => ([], 0, 7) | some (m, l) => ((List.range ss.length).map l, (m : Int), 0)) else ([], 0, askedE old nw ss js lo hi)
theorem askedE_chk {old : List Int} {nw : Int} {ss : List S115} {js : List S119} {lo hi : Int} (h : askedE old nw ss js lo hi = 0) : chkB old nw ss js = 0 := by
 unfold askedE at h
 by_cases hc : chkB old nw ss js = 0
 ·exact hc
 ·rw [if_neg hc] at h
  exact absurd h hc
set_option maxRecDepth 100000 in
set_option maxHeartbeats 40000000 in
theorem Best_calls {A0 : Option Addr} {c0 : Nat} {old : List Int} {nw : Int} {A2 : Option Addr} {c2 : Nat} {ss : List S115} {A3 : Option Addr} {c3 : Nat} {js : List S119} {w : World} (h : IsB w A0 c0 old A2 c2 ss A3 c3 js) (lo hi : Int) :
  Calls Try.prog 24 #[.agg #[.slice A0 old.length c0, .int .i64 nw, .slice A2 ss.length c2, .slice A3 js.length c3], .agg #[.int .i64 lo, .int .i64 hi]] w fun e w' => (∃ v, e = .returned (.tuple #[v, .int .i64 (bestF old nw ss js lo hi).2.1, .int .i64 (bestF old nw ss js lo hi).2.2]) ∧ (Kd.int .i64).R 3 w' w.heap.size (fun _ => True) v (bestF old nw ss js lo hi).1) ∧ Below w.heap.size w w' := by
 have H := Aside0.mk h
 clear h
 go_enter Try.func24, Try.ntmps24
 go_wp2_with fail
 go_step3
 go_wp2_with fail
 have HB0 := Aside0.mk (below_alloc (below_alloc (Below.refl w.heap.size w) (.cells #[.slice A0 old.length c0, .int .i64 nw, .slice A2 ss.length c2, .slice A3 js.length c3] 69)) (.cells #[.int .i64 lo, .int .i64 hi] 71))
 have B20 := Aside0.mk (show Blk ((w.alloc (.cells #[.slice A0 old.length c0, .int .i64 nw, .slice A2 ss.length c2, .slice A3 js.length c3] 69)).alloc (.cells #[.int .i64 lo, .int .i64 hi] 71)) w.heap.size [.slice A0 old.length c0, .int .i64 nw, .slice A2 ss.length c2, .slice A3 js.length c3] 69 from (Blk.new w [.slice A0 old.length c0, .int .i64 nw, .slice A2 ss.length c2, .slice A3 js.length c3] 69).alloc (.cells #[.int .i64 lo, .int .i64 hi] 71))
 have B30 := Aside0.mk (show Blk ((w.alloc (.cells #[.slice A0 old.length c0, .int .i64 nw, .slice A2 ss.length c2, .slice A3 js.length c3] 69)).alloc (.cells #[.int .i64 lo, .int .i64 hi] 71)) (w.heap.size + 1) [.int .i64 lo, .int .i64 hi] 71 by have hB := Blk.new (w.alloc (.cells #[.slice A0 old.length c0, .int .i64 nw, .slice A2 ss.length c2, .slice A3 js.length c3] 69)) [.int .i64 lo, .int .i64 hi] 71; simp only [World.size_alloc] at hB; exact hB)
 have hs0 : w.heap.size + 1 < ((w.alloc (.cells #[.slice A0 old.length c0, .int .i64 nw, .slice A2 ss.length c2, .slice A3 js.length c3] 69)).alloc (.cells #[.int .i64 lo, .int .i64 hi] 71)).heap.size := by simp
 generalize (w.alloc (.cells #[.slice A0 old.length c0, .int .i64 nw, .slice A2 ss.length c2, .slice A3 js.length c3] 69)).alloc (.cells #[.int .i64 lo, .int .i64 hi] 71) = w0 at HB0 B20 B30 hs0 ⊢
 refine (asked_calls (H.out.below HB0.out) lo hi).mono ?_
 rintro e w1 ⟨v, rfl, hv0, hv1, hb1⟩
 have B21 := Aside0.mk (B20.out.below hb1)
 have B31 := Aside0.mk (B30.out.below hb1)
 have HB1 := Aside0.mk (HB0.out.trans (hb1.mono HB0.out.size))
 clear hb1 HB0 B20 B30
 by_cases ha : askedE old nw ss js lo hi = 0
 rotate_left
 ·have hab : (askedE old nw ss js lo hi != 0) = true := by simp [ha]
  have HF := Aside0.mk (show bestF old nw ss js lo hi = ([], 0, askedE old nw ss js lo hi) by unfold bestF; rw [if_neg ha])
  obtain rfl := hv1 ha
  clear hv0 hv1 ha
  go_wp2_with fail
  rw [Exit.noGoto_ret]
  go_ret3
  rw [HF.out]
  exact ⟨⟨_, rfl, Kd.R_nil _ _ _ _ _⟩, below_alloc HB1.out _⟩
 obtain ⟨gw, mb, rfl, hgw, hmb, hw1⟩ := hv0 ha
 obtain ⟨ho0, ho4, hs1, hs8, hj, hol, hn1, hn4, hst, hwe, hjo⟩ := chkB_ok (askedE_chk ha)
 have HF := Aside0.mk (show bestF old nw ss js lo hi = (match (List.range (ss.length + 1)).findSome? (bestM old nw ss js lo hi) with | none => ([], 0, 7) | some (m, l) => ((List.range ss.length).map l, (m : Int), 0)) by unfold bestF; rw [if_pos ha])
 have HW1 := Aside0.mk hw1
 have HST := Aside0.mk hst
 have HOL := Aside0.mk hol
 rw [ha]
 clear ha hv0 hv1 hw1 hol hst hwe hjo hj
 have h20 := B21.out.cell 2
 simp only [sb3, sb4] at h20
 go_wp2_with fail
 have HE4 := Aside0.mk (show Env w (((w1.alloc (.cells #[.pointer (some ⟨gw, 0, none⟩)] 124)).alloc (.cells #[.int .i64 0, .int .i64 0, .int .i64 0, .int .i64 0, .int .i64 0, .int .i64 0, .int .i64 0, .int .i64 0] 121)).alloc (.cells #[.func (.func 60) #[] #[.pointer (some ⟨w1.heap.size, 0, none⟩), .pointer (some ⟨w1.heap.size + 1, 0, none⟩), .pointer (some ⟨w.heap.size + 1, 0, none⟩), .pointer (some ⟨w1.heap.size + 1 + 1, 0, none⟩)]] 129)) w1.heap.size (w1.heap.size + 1) (w.heap.size + 1) (w1.heap.size + 1 + 1) gw mb lo hi A0 c0 old nw A2 c2 ss A3 c3 js from
  {below := below_alloc (below_alloc (below_alloc HB1.out (.cells #[.pointer (some ⟨gw, 0, none⟩)] 124)) (.cells #[.int .i64 0, .int .i64 0, .int .i64 0, .int .i64 0, .int .i64 0, .int .i64 0, .int .i64 0, .int .i64 0] 121)) (.cells #[.func (.func 60) #[] #[.pointer (some ⟨w1.heap.size, 0, none⟩), .pointer (some ⟨w1.heap.size + 1, 0, none⟩), .pointer (some ⟨w.heap.size + 1, 0, none⟩), .pointer (some ⟨w1.heap.size + 1 + 1, 0, none⟩)]] 129)
   p := ((Blk.new w1 [.pointer (some ⟨gw, 0, none⟩)] 124).alloc (.cells #[.int .i64 0, .int .i64 0, .int .i64 0, .int .i64 0, .int .i64 0, .int .i64 0, .int .i64 0, .int .i64 0] 121)).alloc (.cells #[.func (.func 60) #[] #[.pointer (some ⟨w1.heap.size, 0, none⟩), .pointer (some ⟨w1.heap.size + 1, 0, none⟩), .pointer (some ⟨w.heap.size + 1, 0, none⟩), .pointer (some ⟨w1.heap.size + 1 + 1, 0, none⟩)]] 129)
   found := ⟨fun _ => 0, by have hB := (Blk.new (w1.alloc (.cells #[.pointer (some ⟨gw, 0, none⟩)] 124)) (cellsL (fun _ => 0)) 121).alloc (.cells #[.func (.func 60) #[] #[.pointer (some ⟨w1.heap.size, 0, none⟩), .pointer (some ⟨w1.heap.size + 1, 0, none⟩), .pointer (some ⟨w.heap.size + 1, 0, none⟩), .pointer (some ⟨w1.heap.size + 1 + 1, 0, none⟩)]] 129); simp only [World.size_alloc] at hB; exact hB⟩
   lim := (((B31.out.alloc (.cells #[.pointer (some ⟨gw, 0, none⟩)] 124)).alloc (.cells #[.int .i64 0, .int .i64 0, .int .i64 0, .int .i64 0, .int .i64 0, .int .i64 0, .int .i64 0, .int .i64 0] 121)).alloc (.cells #[.func (.func 60) #[] #[.pointer (some ⟨w1.heap.size, 0, none⟩), .pointer (some ⟨w1.heap.size + 1, 0, none⟩), .pointer (some ⟨w.heap.size + 1, 0, none⟩), .pointer (some ⟨w1.heap.size + 1 + 1, 0, none⟩)]] 129))
   mv := by have hB := Blk.new ((w1.alloc (.cells #[.pointer (some ⟨gw, 0, none⟩)] 124)).alloc (.cells #[.int .i64 0, .int .i64 0, .int .i64 0, .int .i64 0, .int .i64 0, .int .i64 0, .int .i64 0, .int .i64 0] 121)) [.func (.func 60) #[] #[.pointer (some ⟨w1.heap.size, 0, none⟩), .pointer (some ⟨w1.heap.size + 1, 0, none⟩), .pointer (some ⟨w.heap.size + 1, 0, none⟩), .pointer (some ⟨w1.heap.size + 1 + 1, 0, none⟩)]] 129; simp only [World.size_alloc] at hB; exact hB
   wk := ⟨((HW1.out.blk.alloc (.cells #[.pointer (some ⟨gw, 0, none⟩)] 124)).alloc (.cells #[.int .i64 0, .int .i64 0, .int .i64 0, .int .i64 0, .int .i64 0, .int .i64 0, .int .i64 0, .int .i64 0] 121)).alloc (.cells #[.func (.func 60) #[] #[.pointer (some ⟨w1.heap.size, 0, none⟩), .pointer (some ⟨w1.heap.size + 1, 0, none⟩), .pointer (some ⟨w.heap.size + 1, 0, none⟩), .pointer (some ⟨w1.heap.size + 1 + 1, 0, none⟩)]] 129), HW1.out.jm.move ((Below.heap_alloc _ _ _ (by have := HW1.out.jm.lt; simp; omega)).trans ((Below.heap_alloc _ _ _ (by have := HW1.out.jm.lt; simp; omega)).trans (Below.heap_alloc _ _ _ HW1.out.jm.lt)))⟩
   ne := ⟨by omega, by have := B31.out.lt; omega, by omega, by have := HW1.out.blk.lt; omega, by have := HW1.out.jm.lt; omega⟩
   lo := by have := HB1.out.size; omega })
 have B24 := Aside0.mk (((B21.out.alloc (.cells #[.pointer (some ⟨gw, 0, none⟩)] 124)).alloc (.cells #[.int .i64 0, .int .i64 0, .int .i64 0, .int .i64 0, .int .i64 0, .int .i64 0, .int .i64 0, .int .i64 0] 121)).alloc (.cells #[.func (.func 60) #[] #[.pointer (some ⟨w1.heap.size, 0, none⟩), .pointer (some ⟨w1.heap.size + 1, 0, none⟩), .pointer (some ⟨w.heap.size + 1, 0, none⟩), .pointer (some ⟨w1.heap.size + 1 + 1, 0, none⟩)]] 129))
 generalize (((w1.alloc (.cells #[.pointer (some ⟨gw, 0, none⟩)] 124)).alloc (.cells #[.int .i64 0, .int .i64 0, .int .i64 0, .int .i64 0, .int .i64 0, .int .i64 0, .int .i64 0, .int .i64 0] 121)).alloc (.cells #[.func (.func 60) #[] #[.pointer (some ⟨w1.heap.size, 0, none⟩), .pointer (some ⟨w1.heap.size + 1, 0, none⟩), .pointer (some ⟨w.heap.size + 1, 0, none⟩), .pointer (some ⟨w1.heap.size + 1 + 1, 0, none⟩)]] 129)) = w4 at HE4 B24 ⊢
 have h24 := B24.out.cell 2
 simp only [sb3, sb4] at h24
 go_step3
 go_wp2_with fail
 have hs1' := HB1.out.size
 have HB1s := Aside0.mk hs1'
 clear HB1 B21 B31 HW1 B24 h24 h20 hs1'
 obtain ⟨gp, hgp⟩ : ∃ g, w1.heap.size = g := ⟨_, rfl⟩
 obtain ⟨gf, hgf⟩ : ∃ g, gp + 1 = g := ⟨_, rfl⟩
 obtain ⟨gm, hgm⟩ : ∃ g, gf + 1 = g := ⟨_, rfl⟩
 obtain ⟨gl, hgl⟩ : ∃ g, w.heap.size + 1 = g := ⟨_, rfl⟩
 rw [hgp, hgf, hgm, hgl] at HE4
 rw [hgp, hgf, hgm, hgl]
 clear hgp hgf hgm hgl HB1s
 go_loopw [10, 11, 26] (fun v10 v11 v26 wr => ∃ k : Nat, k ≤ ss.length + 1 ∧ v26 = .int .i64 k ∧ v11 = .bool false ∧ Aside0 (Env w wr gp gf gl gm gw mb lo hi A0 c0 old nw A2 c2 ss A3 c3 js) ∧ Aside0 (∀ j : Nat, j < k → bestM old nw ss js lo hi j = none)) (fun _ _ v26 _ => ss.length + 1 - (intOf v26).toNat)
 case atStart => exact ⟨0, Nat.zero_le _, rfl, rfl, HE4, ⟨fun j hj => absurd hj (Nat.not_lt_zero _)⟩⟩
 case round =>
  clear HE4
  obtain ⟨k, hk, rfl, rfl, HE, HJ⟩ := hrel
  by_cases hkl : k < ss.length + 1
  ·have hklb : decide ((k : Int) < (ss.length : Int) + 1) = true := by simp; omega
   have hmv := move_calls (gp := gp) (gf := gf) (gl := gl) (gm := gm) (gw := gw) (mb := mb) (lo := lo) (hi := hi) H.out hs8 HST.out HOL.out ho4 hn1 hn4 ss.length (Nat.le_refl _) (fun _ => 0) (k : Int) (by omega) (by omega) wr HE.out
   rw [show ((ss.length - ss.length : Nat) : Int) = 0 by omega] at hmv
   unfold encL at hmv
   have HMV := Aside0.mk hmv
   have hbm : bestM old nw ss js lo hi k = (moveF (rightB old nw ss js lo hi) (ownL ss) ss.length nw.toNat ss.length (fun _ => 0) (k : Int)).map (fun l => (k, l)) := rfl
   have hm0 := HE.out.mv.cell 0
   simp only [List.getElem?_cons_zero] at hm0
   clear hmv
   go_wp2_with fail
   refine HMV.out.mono ?_
   clear HMV hm0
   rintro e w5 ⟨rfl, hr1, hr2, hr3⟩
   have HE5 := Aside0.mk (HE.out.keep hr3 hr2)
   cases hres : moveF (rightB old nw ss js lo hi) (ownL ss) ss.length nw.toNat ss.length (fun _ => 0) (k : Int) with
   | none =>
    rw [hres] at hbm
    have HBM := Aside0.mk (show bestM old nw ss js lo hi k = none from hbm)
    clear hres hbm hr1 hr2 hr3 HE
    simp only [Option.isSome_none]
    go_wp2_with fail
    go_roundw
    case rel => exact ⟨k + 1, by omega, by go_num, rfl, HE5, ⟨fun j hj => if e : j = k then (by rw [e]; exact HBM.out) else HJ.out j (by omega)⟩⟩
    case measure => simp [intOf]; omega
   | some l =>
    rw [hres] at hbm
    have HBM := Aside0.mk (findSome_first HJ.out (show bestM old nw ss js lo hi k = some (k, l) from hbm) hkl)
    have HR1 := Aside0.mk (hr1 l hres)
    clear hres hbm hr1 hr2 hr3 HE
    simp only [Option.isSome_some]
    have hp0 := HE5.out.p.cell 0
    simp only [List.getElem?_cons_zero] at hp0
    have cf_0 := HR1.out.cell 0
    have cf_1 := HR1.out.cell 1
    have cf_2 := HR1.out.cell 2
    have cf_3 := HR1.out.cell 3
    have cf_4 := HR1.out.cell 4
    have cf_5 := HR1.out.cell 5
    have cf_6 := HR1.out.cell 6
    have cf_7 := HR1.out.cell 7
    simp only [cellsL, sb3, sb4] at cf_0 cf_1 cf_2 cf_3 cf_4 cf_5 cf_6 cf_7
    go_wp2_with fail
    clear hp0 cf_0 cf_1 cf_2 cf_3 cf_4 cf_5 cf_6 cf_7
    refine (list_calls HE5.out.wk hs8 hs1 l).mono ?_
    rintro e w6 ⟨v, rfl, hR, hb6⟩
    have HR := Aside0.mk hR
    have HB6 := Aside0.mk (HE5.out.below.trans (hb6.mono HE5.out.below.size))
    have hs5 := HE5.out.below.size
    clear hR hb6
    go_wp2_with fail
    rw [Exit.noGoto_ret]
    go_ret3
    rw [HF.out, HBM.out]
    exact ⟨⟨_, rfl, Kd.R_lower HR.out hs5⟩, HB6.out⟩
  ·obtain rfl : k = ss.length + 1 := by omega
   have hklb : decide (((ss.length + 1 : Nat) : Int) < (ss.length : Int) + 1) = false := by simp
   have HN := Aside0.mk (show (List.range (ss.length + 1)).findSome? (bestM old nw ss js lo hi) = none from List.findSome?_eq_none_iff.2 (fun j hj => HJ.out j (List.mem_range.1 hj)))
   go_wp2_with fail
   rw [Exit.noGoto_ret]
   go_ret3
   rw [HF.out, HN.out]
   exact ⟨⟨_, rfl, Kd.R_nil _ _ _ _ _⟩, HE.out.below⟩
end Go.Proofs.Ytiddkceahbnolaa
