/- The law's list, and awake. -/
import Derived.Test.YtiddkceahbnolaaBnds
import Derived.Test.YtiddkceahbnolaaLeast
import Derived.Laws.EntriesVeiled
namespace Go.Proofs.Ytiddkceahbnolaa
set_option linter.all false
open Go.RowKit Go.Shelf Go.Proofs.Ytiddkceahbnolaa.PWalkOrder Go.Proofs.YtiddkceahbnolaaW.PrintWords
set_option linter.unusedVariables false
set_option maxRecDepth 100000
def paW : List S77 := [⟨2, 3⟩, ⟨4, 5⟩, ⟨3, 3⟩, ⟨6, 8⟩]
def paR : List S94 := [⟨0, 1, ⟨2, 3⟩⟩, ⟨1, 2, ⟨1, 2⟩⟩, ⟨0, 3, ⟨4, 4⟩⟩, ⟨2, 3, ⟨5, 6⟩⟩]
def paT (i j : Nat) : Int := ([[0, 3, 5, 4], [3, 0, 2, 7], [5, 2, 0, 6], [4, 7, 6, 0]] : List (List Int)).getD i [] |>.getD j 0
theorem pa_chk : chkMap paW paR = 0 := by decide +kernel
theorem pa_walk : walkE paR [0, 1, 2, 1, 0] [1, 2] = 0 := by decide +kernel
theorem pa_bounds : boundsF paW paR [0, 1, 2, 1, 0] [1, 2] = (13, 18, 0) := by decide +kernel
theorem pa_tm_all : ∀ i j : Fin 8, tm paR 4 i.1 j.1 = paT i.1 j.1 := by decide +kernel
theorem pa_tm (i j : Nat) (hi : i < 8) (hj : j < 8) : tm paR 4 i j = paT i j := pa_tm_all ⟨i, hi⟩ ⟨j, hj⟩
theorem restF_congr {T T' : Nat → Nat → Int} (h : ∀ i j, i < 8 → j < 8 → T i j = T' i j) : ∀ (f at_ left : Nat), at_ < 8 → restF T f at_ left = restF T' f at_ left
 | 0, at_, left, ha => by
  unfold restF
  rw [h at_ 0 ha (by omega)]
 | f + 1, at_, left, ha => by
  unfold restF
  rw [h at_ 0 ha (by omega)]
  split
  ·rfl
  ·refine foldl_congr _ _ (fun b n hn => ?_)
   have hn8 := (places_mem.1 hn).1
   unfold legStep
   rw [h at_ n ha hn8, restF_congr h f n (dropBit left n) hn8]
theorem longF_congr {T T' : Nat → Nat → Int} (h : ∀ i j, i < 8 → j < 8 → T i j = T' i j) (W : List S77) (s : Nat) : longF T W s = longF T' W s := by
 unfold longF rest
 rw [restF_congr h s 0 s (by omega)]
theorem badF_congr {T T' : Nat → Nat → Int} (h : ∀ i j, i < 8 → j < 8 → T i j = T' i j) (W : List S77) (limit : Int) : badF T W limit = badF T' W limit := by
 funext s
 unfold badF
 rw [longF_congr h]
theorem pa_tour : tourF paW paR [0, 1, 2, 3] = (34, 0) := by
 unfold tourF
 rw [pa_chk, if_pos rfl, if_pos (by decide +kernel), show (paW.length) = 4 from rfl, longF_congr pa_tm]
 decide +kernel
theorem pa_few : fewF paW paR 16 = (3, 0) := by
 unfold fewF
 rw [pa_chk, if_pos rfl, if_pos (by decide +kernel), show (paW.length) = 4 from rfl, badF_congr pa_tm]
 decide +kernel
def lowT (T : Nat → Nat → Int) (W : List S77) : Nat → Int
 | 0 => 0
 | k + 1 => max (lowT T W k) (longF T W (2 ^ k))
theorem low_T (T : Nat → Nat → Int) (W : List S77) (R : List S94) (h : ∀ i j, i < 8 → j < 8 → tm R W.length i j = T i j) : ∀ k, lowAt W R k = lowT T W k
 | 0 => rfl
 | k + 1 => by
  unfold lowAt lowT
  rw [low_T T W R h k, longF_congr h]
def fitT (T : Nat → Nat → Int) (W : List S77) (many half : Int) : Bool :=
 match split (badF T W half) (2 ^ W.length - 1) with
 | none => false
 | some k => decide ((k : Int) ≤ many)
theorem fit_T (T : Nat → Nat → Int) (W : List S77) (R : List S94) (h : ∀ i j, i < 8 → j < 8 → tm R W.length i j = T i j) (many : Int) : fitsB W R many = fitT T W many := by
 funext half
 unfold fitsB fitT
 rw [badF_congr h]
 rfl
theorem pa_least : leastF paW paR 2 = (19, 0) := by
 unfold leastF
 rw [pa_chk, if_pos rfl, if_pos (by decide +kernel), low_T paT paW paR pa_tm, fit_T paT paW paR pa_tm, longF_congr (show ∀ i j, i < 8 → j < 8 → tm paR paW.length i j = paT i j from pa_tm)]
 decide +kernel
end Go.Proofs.Ytiddkceahbnolaa

namespace Go.Proofs.Ytiddkceahbnolaa
set_option linter.all false
open Go.RowKit Go.Shelf Go.Proofs.Ytiddkceahbnolaa.PWalkOrder Go.Proofs.YtiddkceahbnolaaW.PrintWords Go.Proofs.YtiddkceahbnolaaW.PrintLast
set_option linter.unusedVariables false
set_option linter.unusedSimpArgs false
def aw.T5 : Bool × List (List Nat × List Nat) := (true, [([], []), ([0], [0]), ([1], [1]), ([2], [2]), ([2, 2], [2]), ([3, 4, 2], [2, 3, 4]), ([2, 5], [2, 5]), ([6, 4], [6]), ([7], [7]), ([8, 7], [7, 8]), ([7, 9], [7, 9]), ([10, 7], [10]), ([11], [11]), ([12, 11], [11, 12]), ([11, 13], [11, 13]), ([14, 11], [14]), ([15], [15]), ([16, 15], [15, 16]), ([15, 17], [15, 17]), ([18, 15], [18]), ([19], [19]), ([20, 19], [19, 20]), ([19, 21], [19, 21]), ([22, 19], [22]), ([23], [23]), ([24, 23], [23, 24]), ([23, 25], [23, 25]), ([26, 23], [26]), ([27], [27]), ([28, 27], [27, 28]), ([27, 29], [27, 29]), ([30, 27, 0, 1, 2, 3, 4, 5, 6, 7, 8, 9, 10, 11, 12, 13, 14, 15, 16, 17, 18, 19, 20, 21, 22, 23, 24, 25, 26, 27, 28, 29, 30], [30])])
def aw.B5 : List Nat := [0, 1, 3, 7, 7, 31, 63, 127, 255, 511, 1023, 2047, 4095, 8191, 16383, 32767, 65535, 131071, 262143, 524287, 1048575, 2097151, 4194303, 8388607, 16777215, 33554431, 67108863, 134217727, 268435455, 536870911, 1073741823, 2147483647]
theorem aw.tab5 : rtab .any (opsOf Try.f7 5) = aw.T5 := by kernel_rfl
theorem aw.bits5 : waitsOk aw.T5.2 aw.B5 = true := by kernel_rfl
theorem lit_ints {w : World} {g : Nat} {t : TypeId} (xs : List Int) (hx : xs.length ≤ 1000) (h : Blk w g (xs.map (Value.int .i64)) t) : (Kd.int .i64).C w (some ⟨g, 0, none⟩) xs.length xs := by
 refine ⟨rfl, by omega, fun _ => ⟨_, rfl, fun j p hj => ?_⟩⟩
 refine ⟨[.int .i64 p], rfl, rfl, fun i u hu => ?_⟩
 obtain rfl : i = 0 := by
  rcases Nat.eq_zero_or_pos i with e | e
  ·exact e
  ·rw [List.getElem?_eq_none (by simp only [List.length_cons, List.length_nil]; omega)] at hu
   cases hu
 obtain rfl : Value.int .i64 p = u := by simpa using hu
 rw [add_at, show (Kd.int IntKind.i64).sz = 1 from rfl]
 have h1 := h.cell j
 rw [List.getElem?_map, hj] at h1
 simpa using h1
theorem isMap_of {w : World} {v0 v1 : Value} {base : Nat} {ok ok' : Nat → Prop} {W : List S77} {R : List S94} (h0 : k77.R 77 w base ok v0 W) (h1 : k94.R 94 w base ok' v1 R) (hW : W.length ≤ 1000) (hR : R.length ≤ 1000) :
  ∃ A0 c0 A1 c1, v0 = .slice A0 W.length c0 ∧ v1 = .slice A1 R.length c1 ∧ IsMap w A0 c0 W A1 c1 R := by
 obtain ⟨A0, c0, rfl, hl0, hC0⟩ := Kd.R_reads h0
 obtain ⟨A1, c1, rfl, hl1, hC1⟩ := Kd.R_reads h1
 exact ⟨A0, c0, A1, c1, rfl, rfl, ⟨hC0, hl0, hC1, hl1, by omega, by omega⟩⟩
set_option maxRecDepth 100000 in
set_option maxHeartbeats 4000000 in
theorem list_calls {A : Option Addr} {c : Nat} {xs : List Int} (w : World) (hC : (Kd.int .i64).C w A xs.length xs) (hx : xs.length ≤ 1000) :
  Calls Try.prog 11 #[.slice A xs.length c] w fun e w' => ∃ v, e = .returned v ∧ (Kd.int .i64).R 3 w' w.heap.size (fun _ => True) v xs ∧ Below w.heap.size w w' := by
 have HC := Aside0.mk hC
 clear hC
 go_enter Try.func11, Try.ntmps11
 go_wp2_with ((with_reducible refine gate_builtin (b := .append) (xs := #[.const (.slice none 0 0), .tmp 3]) rfl ?_); refine Kd.R_append_rows (Kd.int .i64) (w0 := w) w.heap.size rfl (.const (.slice none 0 0)) (.tmp 3) 26 3 (.int .i64 0) 8 rfl Try.underlying26 info3 rfl (by decide) (by omega) (.slice none 0 0) [] xs _ _ _ (fun _ => True) (fun _ => False) rfl rfl (Kd.R_nil _ _ _ _ _) HC.out (fun x cs h => h) (fun _ hk => hk.elim) (fun _ _ => trivial) (Below.refl _ _) (Nat.le_refl _) ?aL ?_; (case aL => (simp only [List.length_nil]; omega)); intro vn wn hon hbn hgn hatn; have HRn := Aside0.mk hon; have HBn := Aside0.mk hbn; clear hon hbn hgn hatn)
 go_ret
 exact ⟨_, rfl, HRn.out, HBn.out⟩
theorem between_calls (a b : Int) (w : World) : Calls Try.prog 29 #[.int .i64 a, .int .i64 b] w fun e w' => e = .returned (.agg #[.int .i64 a, .int .i64 b]) ∧ Below w.heap.size w w' := tithinglaw01_between.calls a b a b w rfl
theorem parish_calls (w : World) : Calls Try.prog 28 #[] w fun e w' => (∃ A0 c0 A1 c1, e = .returned (.agg #[.slice A0 4 c0, .slice A1 4 c1]) ∧ IsMap w' A0 c0 paW A1 c1 paR) ∧ Below w.heap.size w w' := by
 refine (tithinglaw01_parish.calls paW paR w rfl).mono ?_
 rintro e w' ⟨v0, v1, rfl, h0, h1, hb⟩
 obtain ⟨A0, c0, A1, c1, rfl, rfl, hM⟩ := isMap_of h0 h1 (by decide) (by decide)
 exact ⟨⟨A0, c0, A1, c1, rfl, hM⟩, hb⟩

set_option maxRecDepth 100000 in
set_option maxHeartbeats 40000000 in
theorem awake_calls (w : World) : Calls Try.prog 7 #[] w fun e w' => e = .returned (.bool true) ∧ Below w.heap.size w w' := by
 go_enter Try.func7, Try.ntmps7
 go_wp2_with fail
 refine (parish_calls _).mono ?_
 rintro e w1 ⟨⟨A0, c0, A1, c1, rfl, hM⟩, hb1⟩
 have HM := Aside0.mk hM
 have HB1 := Aside0.mk hb1
 clear hM hb1
 go_wp2_with fail
 have hbn := below_alloc (below_alloc (Below.refl w1.heap.size w1) (.cells #[.int .i64 0, .int .i64 1, .int .i64 2, .int .i64 1, .int .i64 0] 3)) (.cells #[.int .i64 1, .int .i64 2] 3)
 have L0 := lit_ints [0, 1, 2, 1, 0] (by decide) ((Blk.new w1 [.int .i64 0, .int .i64 1, .int .i64 2, .int .i64 1, .int .i64 0] 3).alloc (.cells #[.int .i64 1, .int .i64 2] 3))
 have L1 := lit_ints [1, 2] (by decide) (show Blk _ (w1.heap.size + 1) _ _ by simpa using Blk.new (w1.alloc (.cells #[.int .i64 0, .int .i64 1, .int .i64 2, .int .i64 1, .int .i64 0] 3)) [.int .i64 1, .int .i64 2] 3)
 refine (Bounds_calls (HM.out.below hbn) [0, 1, 2, 1, 0] [1, 2] L0 (by decide) (by decide) L1 (by decide) (by decide)).mono ?_
 rintro e w2 ⟨rfl, hb2⟩
 rw [pa_bounds]
 have HB2 := Aside0.mk (HB1.out.trans ((hbn.trans (hb2.mono hbn.size)).mono HB1.out.size))
 clear hbn L0 L1 hb2 HM HB1
 simp only
 go_wp2_with fail
 have B1 := Aside0.mk (Blk.new w2 [.int .i64 13, .int .i64 18] 77)
 have HB3 := Aside0.mk (below_alloc HB2.out (.cells #[.int .i64 13, .int .i64 18] 77))
 have hg1 : w2.heap.size < (w2.alloc (.cells #[.int .i64 13, .int .i64 18] 77)).heap.size := by simp
 have hg0 := HB2.out.size
 clear HB2
 generalize w2.heap.size = g1 at B1 hg1 hg0 ⊢
 generalize w2.alloc (.cells #[.int .i64 13, .int .i64 18] 77) = w3 at B1 HB3 hg1 ⊢
 refine (parish_calls _).mono ?_
 rintro e w4 ⟨⟨A2, c2, A3, c3, rfl, hM⟩, hb4⟩
 have HM := Aside0.mk hM
 have HB4 := Aside0.mk (HB3.out.trans (hb4.mono HB3.out.size))
 have B14 := Aside0.mk (B1.out.below hb4)
 have hg4 := Nat.lt_of_lt_of_le hg1 hb4.size
 clear hM hb4 HB3 B1 hg1
 go_wp2_with fail
 have hbn := below_alloc (Below.refl w4.heap.size w4) (.cells #[.int .i64 0, .int .i64 1, .int .i64 2, .int .i64 3] 3)
 have L0 := lit_ints [0, 1, 2, 3] (by decide) (Blk.new w4 [.int .i64 0, .int .i64 1, .int .i64 2, .int .i64 3] 3)
 refine (Tour_calls [0, 1, 2, 3] L0 (by decide) (by decide) (HM.out.below hbn)).mono ?_
 rintro e w5 ⟨⟨a1, n1, d1, a2, n2, d2, rfl⟩, hb5⟩
 rw [pa_tour]
 have hb45 := hbn.trans (hb5.mono hbn.size)
 have HB5 := Aside0.mk (HB4.out.trans (hb45.mono HB4.out.size))
 have B15 := Aside0.mk (B14.out.below hb45)
 have hg5 := Nat.lt_of_lt_of_le hg4 hb45.size
 clear hbn L0 hb5 hb45 HM HB4 B14 hg4
 simp only
 go_wp2_with fail
 have HB6 := Aside0.mk (below_alloc HB5.out (.cells #[.slice a1 n1 d1, .slice a2 n2 d2] 44))
 have B16 := Aside0.mk (B15.out.alloc (.cells #[.slice a1 n1 d1, .slice a2 n2 d2] 44))
 have hg6 : g1 < (w5.alloc (.cells #[.slice a1 n1 d1, .slice a2 n2 d2] 44)).heap.size := by simp; omega
 clear HB5 B15 hg5
 generalize w5.heap.size = g2
 generalize w5.alloc (.cells #[.slice a1 n1 d1, .slice a2 n2 d2] 44) = w6 at HB6 B16 hg6 ⊢
 refine (parish_calls _).mono ?_
 rintro e w7 ⟨⟨A4, c4, A5, c5, rfl, hM⟩, hb7⟩
 have HB7 := Aside0.mk (HB6.out.trans (hb7.mono HB6.out.size))
 have B17 := Aside0.mk (B16.out.below hb7)
 have HM := Aside0.mk hM
 have hg7 := Nat.lt_of_lt_of_le hg6 hb7.size
 clear hM hb7 HB6 B16 hg6
 go_wp2_with fail
 refine (Fewest_calls 16 HM.out).mono ?_
 rintro e w8 ⟨rfl, hb8⟩
 rw [pa_few]
 have HB8 := Aside0.mk (HB7.out.trans (hb8.mono HB7.out.size))
 have B18 := Aside0.mk (B17.out.below hb8)
 have hg8 := Nat.lt_of_lt_of_le hg7 hb8.size
 clear hb8 HM HB7 B17 hg7
 simp only
 go_wp2_with fail
 refine (parish_calls _).mono ?_
 rintro e w9 ⟨⟨A6, c6, A7, c7, rfl, hM⟩, hb9⟩
 have HB9 := Aside0.mk (HB8.out.trans (hb9.mono HB8.out.size))
 have B19 := Aside0.mk (B18.out.below hb9)
 have HM := Aside0.mk hM
 have hg9 := Nat.lt_of_lt_of_le hg8 hb9.size
 clear hM hb9 HB8 B18 hg8
 go_wp2_with fail
 refine (Least_calls 2 HM.out).mono ?_
 rintro e wa ⟨rfl, hba⟩
 rw [pa_least]
 have HBa := Aside0.mk (HB9.out.trans (hba.mono HB9.out.size))
 have B1a := Aside0.mk (B19.out.below hba)
 have hga := Nat.lt_of_lt_of_le hg9 hba.size
 have h10 := B1a.out.cell 0
 have h11 := B1a.out.cell 1
 simp only [sb3, sb4] at h10 h11
 clear hba HM HB9 B19 hg9
 simp only
 go_wp2_with fail
 refine start_ (n := 32) (S := fun w' => w'.cell? ⟨g1, 0, none⟩ = some (.int .i64 13) ∧ w'.cell? ⟨g1, 1, none⟩ = some (.int .i64 18)) (ds := []) #[false, false, false, false, false, false, false, false, false, false, false, false, false, false, false, false, false, false, false, false, false, false, false, false, false, false, false, false, false, false, false, false] (by kernel_rfl) rfl rfl ⟨h10, h11⟩ (fun hHeld => ?_); refine with_tabW aw.tab5 aw.bits5 (fun HT_ HW_ => ?_)
 have HBd := Aside0.mk (below_drew HBa.out)
 clear HBa B1a h10 h11
 generalize wa.drew = wd at HBd hHeld ⊢
 refine pure_ (i := 0) (N := some 35) (v := ?_) (a' := ?_) #[true, false, false, false, false, false, false, false, false, false, false, false, false, false, false, false, false, false, false, false, false, false, false, false, false, false, false, false, false, false, false, false] rfl rfl (any_of HT_.out (by kernel_rfl)) (fun _ _ _ h => h) (Or.inl ⟨by rfl, ?_⟩) ?_ ?_
 rotate_left
 ·intro w'
  go_simp
  with_reducible rfl
 rotate_left
 ·simp only [Act.put, sb0, sb1, sb2, i64_w, i32_w]
  rfl
 refine pure_ (i := 1) (N := some 36) (v := ?_) (a' := ?_) #[true, true, false, false, false, false, false, false, false, false, false, false, false, false, false, false, false, false, false, false, false, false, false, false, false, false, false, false, false, false, false, false] rfl rfl (any_of HT_.out (by kernel_rfl)) (fun _ _ _ h => h) (Or.inl ⟨by rfl, ?_⟩) ?_ ?_
 rotate_left
 ·intro w'
  go_simp
  with_reducible rfl
 rotate_left
 ·simp only [Act.put, sb0, sb1, sb2, i64_w, i32_w]
  rfl
 refine pure_ (i := 2) (N := some 37) (v := ?_) (a' := ?_) #[true, true, true, false, false, false, false, false, false, false, false, false, false, false, false, false, false, false, false, false, false, false, false, false, false, false, false, false, false, false, false, false] rfl rfl (any_of HT_.out (by kernel_rfl)) (fun _ _ _ h => h) (Or.inl ⟨by rfl, ?_⟩) ?_ ?_
 rotate_left
 ·intro w'
  go_simp
  with_reducible rfl
 rotate_left
 ·simp only [Act.put, sb0, sb1, sb2, i64_w, i32_w]
  rfl
 refine take_ (i := 3) (N := some 38) (v := ?_) (a' := ?_) #[true, true, true, true, false, false, false, false, false, false, false, false, false, false, false, false, false, false, false, false, false, false, false, false, false, false, false, false, false, false, false, false] rfl rfl (take_ofW HT_.out HW_.out (by kernel_rfl)) (fun _ _ _ h => h) (Or.inl ⟨by rfl, ?_⟩) hHeld ?_ ?_
 rotate_left
 ·rintro w' ⟨s0, s1⟩
  go_simp
  with_reducible rfl
 rotate_left
 ·simp only [Act.put, sb0, sb1, sb2, i64_w, i32_w]
  rfl
 refine one_ (i := 4) (N := some 39) #[true, true, true, true, true, false, false, false, false, false, false, false, false, false, false, false, false, false, false, false, false, false, false, false, false, false, false, false, false, false, false, false] rfl rfl (one_of HT_.out (by kernel_rfl)) (by decide) (fun K hK => ?_)
 refine goes_ Try.func29 (by kernel_rfl) rfl #[.int .i64 13, .int .i64 18] (by rfl) rfl rfl (by (try simp only [List.map_toArray, List.map_cons, List.map_nil]); rfl) ?_
 refine (between_calls 13 18 _).mono ?_
 rintro e_ w_ ⟨rfl, hbx⟩
 refine ⟨_, rfl, hK.out _ _ ⟨(hbx.cell (World.block_lt_of_cell? _ _ hHeld.1)).trans hHeld.1, (hbx.cell (World.block_lt_of_cell? _ _ hHeld.2)).trans hHeld.2⟩ (fun hHeld => ?_)⟩
 clear hK K
 have HBx := Aside0.mk (HBd.out.trans (hbx.mono HBd.out.size))
 clear hbx HBd
 refine norm_ (by simp only [Act.put, sb0, sb1, sb2]; rfl) ?_
 refine pure_ (i := 5) (N := some 40) (v := ?_) (a' := ?_) #[true, true, true, true, true, true, false, false, false, false, false, false, false, false, false, false, false, false, false, false, false, false, false, false, false, false, false, false, false, false, false, false] rfl rfl (any_of HT_.out (by kernel_rfl)) (fun _ _ _ h => h) (Or.inl ⟨by rfl, ?_⟩) ?_ ?_
 rotate_left
 ·intro w'
  go_simp
  with_reducible rfl
 rotate_left
 ·simp only [Act.put, sb0, sb1, sb2, i64_w, i32_w]
  rfl
 refine pure_ (i := 6) (N := some 41) (v := ?_) (a' := ?_) #[true, true, true, true, true, true, true, false, false, false, false, false, false, false, false, false, false, false, false, false, false, false, false, false, false, false, false, false, false, false, false, false] rfl rfl (any_of HT_.out (by kernel_rfl)) (fun _ _ _ h => h) (Or.inl ⟨by rfl, ?_⟩) ?_ ?_
 rotate_left
 ·intro w'
  go_simp
  with_reducible rfl
 rotate_left
 ·simp only [Act.put, sb0, sb1, sb2, i64_w, i32_w]
  rfl
 refine pure_ (i := 7) (N := some 42) (v := ?_) (a' := ?_) #[true, true, true, true, true, true, true, true, false, false, false, false, false, false, false, false, false, false, false, false, false, false, false, false, false, false, false, false, false, false, false, false] rfl rfl (any_of HT_.out (by kernel_rfl)) (fun _ _ _ h => h) (Or.inl ⟨by rfl, ?_⟩) ?_ ?_
 rotate_left
 ·intro w'
  go_simp
  with_reducible rfl
 rotate_left
 ·simp only [Act.put, sb0, sb1, sb2, i64_w, i32_w]
  rfl
 refine pure_ (i := 8) (N := some 43) (v := ?_) (a' := ?_) #[true, true, true, true, true, true, true, true, true, false, false, false, false, false, false, false, false, false, false, false, false, false, false, false, false, false, false, false, false, false, false, false] rfl rfl (any_of HT_.out (by kernel_rfl)) (fun _ _ _ h => h) (Or.inl ⟨by rfl, ?_⟩) ?_ ?_
 rotate_left
 ·intro w'
  go_simp
  with_reducible rfl
 rotate_left
 ·simp only [Act.put, sb0, sb1, sb2, i64_w, i32_w]
  rfl
 refine pure_ (i := 9) (N := some 44) (v := ?_) (a' := ?_) #[true, true, true, true, true, true, true, true, true, true, false, false, false, false, false, false, false, false, false, false, false, false, false, false, false, false, false, false, false, false, false, false] rfl rfl (any_of HT_.out (by kernel_rfl)) (fun _ _ _ h => h) (Or.inl ⟨by rfl, ?_⟩) ?_ ?_
 rotate_left
 ·intro w'
  go_simp
  with_reducible rfl
 rotate_left
 ·simp only [Act.put, sb0, sb1, sb2, i64_w, i32_w]
  rfl
 refine pure_ (i := 10) (N := some 45) (v := ?_) (a' := ?_) #[true, true, true, true, true, true, true, true, true, true, true, false, false, false, false, false, false, false, false, false, false, false, false, false, false, false, false, false, false, false, false, false] rfl rfl (any_of HT_.out (by kernel_rfl)) (fun _ _ _ h => h) (Or.inl ⟨by rfl, ?_⟩) ?_ ?_
 rotate_left
 ·intro w'
  go_simp
  with_reducible rfl
 rotate_left
 ·simp only [Act.put, sb0, sb1, sb2, i64_w, i32_w]
  rfl
 refine pure_ (i := 11) (N := some 46) (v := ?_) (a' := ?_) #[true, true, true, true, true, true, true, true, true, true, true, true, false, false, false, false, false, false, false, false, false, false, false, false, false, false, false, false, false, false, false, false] rfl rfl (any_of HT_.out (by kernel_rfl)) (fun _ _ _ h => h) (Or.inl ⟨by rfl, ?_⟩) ?_ ?_
 rotate_left
 ·intro w'
  go_simp
  with_reducible rfl
 rotate_left
 ·simp only [Act.put, sb0, sb1, sb2, i64_w, i32_w]
  rfl
 refine pure_ (i := 12) (N := some 47) (v := ?_) (a' := ?_) #[true, true, true, true, true, true, true, true, true, true, true, true, true, false, false, false, false, false, false, false, false, false, false, false, false, false, false, false, false, false, false, false] rfl rfl (any_of HT_.out (by kernel_rfl)) (fun _ _ _ h => h) (Or.inl ⟨by rfl, ?_⟩) ?_ ?_
 rotate_left
 ·intro w'
  go_simp
  with_reducible rfl
 rotate_left
 ·simp only [Act.put, sb0, sb1, sb2, i64_w, i32_w]
  rfl
 refine pure_ (i := 13) (N := some 48) (v := ?_) (a' := ?_) #[true, true, true, true, true, true, true, true, true, true, true, true, true, true, false, false, false, false, false, false, false, false, false, false, false, false, false, false, false, false, false, false] rfl rfl (any_of HT_.out (by kernel_rfl)) (fun _ _ _ h => h) (Or.inl ⟨by rfl, ?_⟩) ?_ ?_
 rotate_left
 ·intro w'
  go_simp
  with_reducible rfl
 rotate_left
 ·simp only [Act.put, sb0, sb1, sb2, i64_w, i32_w]
  rfl
 refine pure_ (i := 14) (N := some 49) (v := ?_) (a' := ?_) #[true, true, true, true, true, true, true, true, true, true, true, true, true, true, true, false, false, false, false, false, false, false, false, false, false, false, false, false, false, false, false, false] rfl rfl (any_of HT_.out (by kernel_rfl)) (fun _ _ _ h => h) (Or.inl ⟨by rfl, ?_⟩) ?_ ?_
 rotate_left
 ·intro w'
  go_simp
  with_reducible rfl
 rotate_left
 ·simp only [Act.put, sb0, sb1, sb2, i64_w, i32_w]
  rfl
 refine pure_ (i := 15) (N := some 50) (v := ?_) (a' := ?_) #[true, true, true, true, true, true, true, true, true, true, true, true, true, true, true, true, false, false, false, false, false, false, false, false, false, false, false, false, false, false, false, false] rfl rfl (any_of HT_.out (by kernel_rfl)) (fun _ _ _ h => h) (Or.inl ⟨by rfl, ?_⟩) ?_ ?_
 rotate_left
 ·intro w'
  go_simp
  with_reducible rfl
 rotate_left
 ·simp only [Act.put, sb0, sb1, sb2, i64_w, i32_w]
  rfl
 refine pure_ (i := 16) (N := some 51) (v := ?_) (a' := ?_) #[true, true, true, true, true, true, true, true, true, true, true, true, true, true, true, true, true, false, false, false, false, false, false, false, false, false, false, false, false, false, false, false] rfl rfl (any_of HT_.out (by kernel_rfl)) (fun _ _ _ h => h) (Or.inl ⟨by rfl, ?_⟩) ?_ ?_
 rotate_left
 ·intro w'
  go_simp
  with_reducible rfl
 rotate_left
 ·simp only [Act.put, sb0, sb1, sb2, i64_w, i32_w]
  rfl
 refine pure_ (i := 17) (N := some 52) (v := ?_) (a' := ?_) #[true, true, true, true, true, true, true, true, true, true, true, true, true, true, true, true, true, true, false, false, false, false, false, false, false, false, false, false, false, false, false, false] rfl rfl (any_of HT_.out (by kernel_rfl)) (fun _ _ _ h => h) (Or.inl ⟨by rfl, ?_⟩) ?_ ?_
 rotate_left
 ·intro w'
  go_simp
  with_reducible rfl
 rotate_left
 ·simp only [Act.put, sb0, sb1, sb2, i64_w, i32_w]
  rfl
 refine pure_ (i := 18) (N := some 53) (v := ?_) (a' := ?_) #[true, true, true, true, true, true, true, true, true, true, true, true, true, true, true, true, true, true, true, false, false, false, false, false, false, false, false, false, false, false, false, false] rfl rfl (any_of HT_.out (by kernel_rfl)) (fun _ _ _ h => h) (Or.inl ⟨by rfl, ?_⟩) ?_ ?_
 rotate_left
 ·intro w'
  go_simp
  with_reducible rfl
 rotate_left
 ·simp only [Act.put, sb0, sb1, sb2, i64_w, i32_w]
  rfl
 refine pure_ (i := 19) (N := some 54) (v := ?_) (a' := ?_) #[true, true, true, true, true, true, true, true, true, true, true, true, true, true, true, true, true, true, true, true, false, false, false, false, false, false, false, false, false, false, false, false] rfl rfl (any_of HT_.out (by kernel_rfl)) (fun _ _ _ h => h) (Or.inl ⟨by rfl, ?_⟩) ?_ ?_
 rotate_left
 ·intro w'
  go_simp
  with_reducible rfl
 rotate_left
 ·simp only [Act.put, sb0, sb1, sb2, i64_w, i32_w]
  rfl
 refine pure_ (i := 20) (N := some 55) (v := ?_) (a' := ?_) #[true, true, true, true, true, true, true, true, true, true, true, true, true, true, true, true, true, true, true, true, true, false, false, false, false, false, false, false, false, false, false, false] rfl rfl (any_of HT_.out (by kernel_rfl)) (fun _ _ _ h => h) (Or.inl ⟨by rfl, ?_⟩) ?_ ?_
 rotate_left
 ·intro w'
  go_simp
  with_reducible rfl
 rotate_left
 ·simp only [Act.put, sb0, sb1, sb2, i64_w, i32_w]
  rfl
 refine pure_ (i := 21) (N := some 56) (v := ?_) (a' := ?_) #[true, true, true, true, true, true, true, true, true, true, true, true, true, true, true, true, true, true, true, true, true, true, false, false, false, false, false, false, false, false, false, false] rfl rfl (any_of HT_.out (by kernel_rfl)) (fun _ _ _ h => h) (Or.inl ⟨by rfl, ?_⟩) ?_ ?_
 rotate_left
 ·intro w'
  go_simp
  with_reducible rfl
 rotate_left
 ·simp only [Act.put, sb0, sb1, sb2, i64_w, i32_w]
  rfl
 refine pure_ (i := 22) (N := some 57) (v := ?_) (a' := ?_) #[true, true, true, true, true, true, true, true, true, true, true, true, true, true, true, true, true, true, true, true, true, true, true, false, false, false, false, false, false, false, false, false] rfl rfl (any_of HT_.out (by kernel_rfl)) (fun _ _ _ h => h) (Or.inl ⟨by rfl, ?_⟩) ?_ ?_
 rotate_left
 ·intro w'
  go_simp
  with_reducible rfl
 rotate_left
 ·simp only [Act.put, sb0, sb1, sb2, i64_w, i32_w]
  rfl
 refine pure_ (i := 23) (N := some 58) (v := ?_) (a' := ?_) #[true, true, true, true, true, true, true, true, true, true, true, true, true, true, true, true, true, true, true, true, true, true, true, true, false, false, false, false, false, false, false, false] rfl rfl (any_of HT_.out (by kernel_rfl)) (fun _ _ _ h => h) (Or.inl ⟨by rfl, ?_⟩) ?_ ?_
 rotate_left
 ·intro w'
  go_simp
  with_reducible rfl
 rotate_left
 ·simp only [Act.put, sb0, sb1, sb2, i64_w, i32_w]
  rfl
 refine pure_ (i := 24) (N := some 59) (v := ?_) (a' := ?_) #[true, true, true, true, true, true, true, true, true, true, true, true, true, true, true, true, true, true, true, true, true, true, true, true, true, false, false, false, false, false, false, false] rfl rfl (any_of HT_.out (by kernel_rfl)) (fun _ _ _ h => h) (Or.inl ⟨by rfl, ?_⟩) ?_ ?_
 rotate_left
 ·intro w'
  go_simp
  with_reducible rfl
 rotate_left
 ·simp only [Act.put, sb0, sb1, sb2, i64_w, i32_w]
  rfl
 refine pure_ (i := 25) (N := some 60) (v := ?_) (a' := ?_) #[true, true, true, true, true, true, true, true, true, true, true, true, true, true, true, true, true, true, true, true, true, true, true, true, true, true, false, false, false, false, false, false] rfl rfl (any_of HT_.out (by kernel_rfl)) (fun _ _ _ h => h) (Or.inl ⟨by rfl, ?_⟩) ?_ ?_
 rotate_left
 ·intro w'
  go_simp
  with_reducible rfl
 rotate_left
 ·simp only [Act.put, sb0, sb1, sb2, i64_w, i32_w]
  rfl
 refine pure_ (i := 26) (N := some 61) (v := ?_) (a' := ?_) #[true, true, true, true, true, true, true, true, true, true, true, true, true, true, true, true, true, true, true, true, true, true, true, true, true, true, true, false, false, false, false, false] rfl rfl (any_of HT_.out (by kernel_rfl)) (fun _ _ _ h => h) (Or.inl ⟨by rfl, ?_⟩) ?_ ?_
 rotate_left
 ·intro w'
  go_simp
  with_reducible rfl
 rotate_left
 ·simp only [Act.put, sb0, sb1, sb2, i64_w, i32_w]
  rfl
 refine pure_ (i := 27) (N := some 62) (v := ?_) (a' := ?_) #[true, true, true, true, true, true, true, true, true, true, true, true, true, true, true, true, true, true, true, true, true, true, true, true, true, true, true, true, false, false, false, false] rfl rfl (any_of HT_.out (by kernel_rfl)) (fun _ _ _ h => h) (Or.inl ⟨by rfl, ?_⟩) ?_ ?_
 rotate_left
 ·intro w'
  go_simp
  with_reducible rfl
 rotate_left
 ·simp only [Act.put, sb0, sb1, sb2, i64_w, i32_w]
  rfl
 refine pure_ (i := 28) (N := some 63) (v := ?_) (a' := ?_) #[true, true, true, true, true, true, true, true, true, true, true, true, true, true, true, true, true, true, true, true, true, true, true, true, true, true, true, true, true, false, false, false] rfl rfl (any_of HT_.out (by kernel_rfl)) (fun _ _ _ h => h) (Or.inl ⟨by rfl, ?_⟩) ?_ ?_
 rotate_left
 ·intro w'
  go_simp
  with_reducible rfl
 rotate_left
 ·simp only [Act.put, sb0, sb1, sb2, i64_w, i32_w]
  rfl
 refine pure_ (i := 29) (N := some 64) (v := ?_) (a' := ?_) #[true, true, true, true, true, true, true, true, true, true, true, true, true, true, true, true, true, true, true, true, true, true, true, true, true, true, true, true, true, true, false, false] rfl rfl (any_of HT_.out (by kernel_rfl)) (fun _ _ _ h => h) (Or.inl ⟨by rfl, ?_⟩) ?_ ?_
 rotate_left
 ·intro w'
  go_simp
  with_reducible rfl
 rotate_left
 ·simp only [Act.put, sb0, sb1, sb2, i64_w, i32_w]
  rfl
 refine pure_ (i := 30) (N := some 65) (v := ?_) (a' := ?_) #[true, true, true, true, true, true, true, true, true, true, true, true, true, true, true, true, true, true, true, true, true, true, true, true, true, true, true, true, true, true, true, false] rfl rfl (any_of HT_.out (by kernel_rfl)) (fun _ _ _ h => h) (Or.inl ⟨by rfl, ?_⟩) ?_ ?_
 rotate_left
 ·intro w'
  go_simp
  with_reducible rfl
 rotate_left
 ·simp only [Act.put, sb0, sb1, sb2, i64_w, i32_w]
  rfl
 refine pure_ (i := 31) (N := some 0) (v := ?_) (a' := ?_) #[true, true, true, true, true, true, true, true, true, true, true, true, true, true, true, true, true, true, true, true, true, true, true, true, true, true, true, true, true, true, true, true] rfl rfl (any_of HT_.out (by kernel_rfl)) (fun _ _ _ h => h) (Or.inl ⟨by rfl, ?_⟩) ?_ ?_
 rotate_left
 ·intro w'
  go_simp
  with_reducible rfl
 rotate_left
 ·simp only [Act.put, sb0, sb1, sb2, i64_w, i32_w]
  rfl
 refine done_ (done_of HT_.out (by kernel_rfl)) ?_
 go_wp2_with fail
 go_ret
 exact ⟨rfl, HBx.out⟩
end Go.Proofs.Ytiddkceahbnolaa
