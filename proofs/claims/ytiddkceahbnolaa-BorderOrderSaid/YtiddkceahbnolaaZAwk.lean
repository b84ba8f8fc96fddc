/- border's law: awake. -/
import Derived.Test.YtiddkceahbnolaaZOff
import Derived.Test.YtiddkceahbnolaaZBest
namespace Go.Proofs.Ytiddkceahbnolaa
open Go.RowKit Go.Shelf Go.Proofs.Ytiddkceahbnolaa.PBorderOrder Go.Proofs.YtiddkceahbnolaaW.PrintWords
set_option linter.all false
set_option maxRecDepth 100000
def toO : List Int := [100, 60]
def toS : List S115 := [⟨0, 0, 3, ⟨40, 70⟩⟩, ⟨0, 1, 2, ⟨30, 50⟩⟩, ⟨1, 1, 5, ⟨20, 60⟩⟩, ⟨1, 0, 1, ⟨0, 30⟩⟩]
def toJ : List S119 := [⟨0, 1⟩, ⟨1, 2⟩, ⟨2, 3⟩]
def toP (d : Nat) : Int × Int := if d = 0 then (60, 40) else (50, 10)
theorem to_chk : chkB toO 2 toS toJ = 0 := by decide +kernel
theorem to_con : consE toO 2 toS toJ = 0 := by decide +kernel
theorem to_two : TwoOf toO toS toP := by
 intro d hd
 have hd' : d < 2 := hd
 obtain rfl | rfl : d = 0 ∨ d = 1 := by omega
 ·exact ⟨(0, ⟨0, 0, 3, ⟨40, 70⟩⟩), (1, ⟨0, 1, 2, ⟨30, 50⟩⟩), rfl, by decide, by decide, by decide, 5, 60, 40, 0, 0, 0, by constructor <;> decide⟩
 ·exact ⟨(2, ⟨1, 1, 5, ⟨20, 60⟩⟩), (3, ⟨1, 0, 1, ⟨0, 30⟩⟩), rfl, by decide, by decide, by decide, 6, 50, 10, 0, 0, 0, by constructor <;> decide⟩
theorem to_car : carAt toS toP toO.length = [60, 40, 50, 10] := by decide +kernel
theorem to_sum : sumAt toS 2 [60, 40, 50, 10] 4 = [70, 90] := by decide +kernel
theorem to_sumOk : SumOk toS 2 [60, 40, 50, 10] := by
 unfold SumOk
 decide +kernel
theorem to_bnd : boundsAt toO toS 2 = [⟨50, 100⟩, ⟨60, 110⟩] := by kernel_rfl
theorem to_offOk : OffOk [⟨50, 100⟩, ⟨60, 110⟩] [70, 90] 2 := by
 unfold OffOk
 decide +kernel
theorem to_off : offAt [⟨50, 100⟩, ⟨60, 110⟩] [70, 90] 2 = [30, 30] := by decide +kernel
theorem to_best : bestF toO 2 toS toJ 30 130 = ([0, 1, 1, 1], 1, 0) := by decide +kernel
end Go.Proofs.Ytiddkceahbnolaa
namespace Go.Proofs.Ytiddkceahbnolaa
open Go.RowKit Go.Shelf Go.Proofs.Ytiddkceahbnolaa.PBorderOrder Go.Proofs.YtiddkceahbnolaaW.PrintWords Go.Proofs.YtiddkceahbnolaaW.PrintLast Go.Proofs.YtiddkceahbnolaaW.PrintMore
set_option linter.all false
def aw.T5 : Bool × List (List Nat × List Nat) := (true, [([], []), ([0], [0]), ([1], [1]), ([2], [2]), ([2], [2]), ([3, 4, 2, 2], [2, 3, 4]), ([2, 5], [2, 5]), ([6, 5], [6]), ([7], [7]), ([7], [7]), ([8, 9, 7, 7], [7, 8, 9]), ([7, 10], [7, 10]), ([11, 10], [11]), ([12], [12]), ([13, 12], [12, 13]), ([12, 14], [12, 14]), ([15, 12], [15]), ([16], [16]), ([17, 16], [16, 17]), ([18, 16], [16, 18]), ([16, 19], [16, 19]), ([20, 16], [20]), ([21], [21]), ([22, 21], [21, 22]), ([23, 21], [21, 23]), ([21, 21], [21]), ([24, 25, 21], [21, 24, 25]), ([21, 26], [21, 26]), ([27, 25], [27]), ([28], [28]), ([29, 28], [28, 29]), ([30, 28], [28, 30]), ([28, 28], [28]), ([31, 32, 28], [28, 31, 32]), ([28, 33], [28, 33]), ([34, 32], [34]), ([35], [35]), ([36, 35], [35, 36]), ([35, 37], [35, 37]), ([38, 35], [38]), ([39], [39]), ([39], [39]), ([40, 41, 39, 39], [39, 40, 41]), ([39, 42], [39, 42]), ([43, 42], [43]), ([44], [44]), ([45, 44], [44, 45]), ([44, 46], [44, 46]), ([47, 44], [47]), ([48], [48]), ([48], [48]), ([49, 50, 48, 48], [48, 49, 50]), ([48, 51], [48, 51]), ([52, 51], [52]), ([53], [53]), ([54, 53], [53, 54]), ([53, 55], [53, 55]), ([56, 53, 0, 1, 2, 3, 4, 5, 6, 7, 8, 9, 10, 11, 12, 13, 14, 15, 16, 17, 18, 19, 20, 21, 22, 23, 24, 25, 26, 27, 28, 29, 30, 31, 32, 33, 34, 35, 36, 37, 38, 39, 40, 41, 42, 43, 44, 45, 46, 47, 48, 49, 50, 51, 52, 53, 54, 55, 56], [56])])
def aw.B5 : List Nat := [0, 1, 3, 7, 7, 31, 63, 127, 255, 255, 1023, 2047, 4095, 8191, 16383, 32767, 65535, 131071, 262143, 524287, 1048575, 2097151, 4194303, 8388607, 16777215, 4194303, 67108863, 134217727, 268435455, 536870911, 1073741823, 2147483647, 536870911, 8589934591, 17179869183, 34359738367, 68719476735, 137438953471, 274877906943, 549755813887, 1099511627775, 1099511627775, 4398046511103, 8796093022207, 17592186044415, 35184372088831, 70368744177663, 140737488355327, 281474976710655, 562949953421311, 562949953421311, 2251799813685247, 4503599627370495, 9007199254740991, 18014398509481983, 36028797018963967, 72057594037927935, 144115188075855871]
theorem aw.tab5 : rtab .any (opsOf Try.f18 5) = aw.T5 := by kernel_rfl
theorem aw.bits5 : waitsOk aw.T5.2 aw.B5 = true := by kernel_rfl
theorem lit_ints {w : World} {g : Nat} {t : TypeId} (xs : List Int) (hx : xs.length ≤ 1000) (h : Blk w g (xs.map (Value.int .i64)) t) : (Kd.int .i64).C w (some ⟨g, 0, none⟩) xs.length xs := by
 refine ⟨rfl, by omega, fun _ => ⟨_, rfl, fun j p hj => ?_⟩⟩
 refine ⟨[.int .i64 p], rfl, rfl, fun i u hu => ?_⟩
 obtain rfl : i = 0 := by
  rcases Nat.eq_zero_or_pos i with e | e
  ·exact e
  ·rw [List.getElem?_eq_none (by simp only [List.length_cons, List.length_nil]; omega)] at hu
   cases hu
 obtain rfl : Value.int .i64 p = u := by simpa using hu
 rw [add_at, show (Kd.int IntKind.i64).sz = 1 from rfl]
 have h1 := h.cell j
 rw [List.getElem?_map, hj] at h1
 simpa using h1
theorem isB_of {w : World} {v0 v2 v3 : Value} {base : Nat} {ok ok' ok'' : Nat → Prop} {old : List Int} {ss : List S115} {js : List S119} (h0 : (Kd.int .i64).R 3 w base ok v0 old) (h2 : k115.R 115 w base ok' v2 ss) (h3 : k119.R 119 w base ok'' v3 js) (ho : old.length ≤ 1000) (hs : ss.length ≤ 1000) (hj : js.length ≤ 1000) :
  ∃ A0 c0 A2 c2 A3 c3, v0 = .slice A0 old.length c0 ∧ v2 = .slice A2 ss.length c2 ∧ v3 = .slice A3 js.length c3 ∧ IsB w A0 c0 old A2 c2 ss A3 c3 js := by
 obtain ⟨A0, c0, rfl, hl0, hC0⟩ := Kd.R_reads h0
 obtain ⟨A2, c2, rfl, hl2, hC2⟩ := Kd.R_reads h2
 obtain ⟨A3, c3, rfl, hl3, hC3⟩ := Kd.R_reads h3
 exact ⟨A0, c0, A2, c2, A3, c3, rfl, rfl, rfl, ⟨hC0, hl0, hC2, hl2, hC3, hl3, by omega, by omega, by omega⟩⟩
theorem between_calls (a b : Int) (w : World) : Calls Try.prog 49 #[.int .i64 a, .int .i64 b] w fun e w' => e = .returned (.agg #[.int .i64 a, .int .i64 b]) ∧ Below w.heap.size w w' := tithinglaw11_between.calls a b a b w rfl
theorem town_calls (w : World) : Calls Try.prog 47 #[] w fun e w' => (∃ A0 c0 A2 c2 A3 c3, e = .returned (.agg #[.slice A0 toO.length c0, .int .i64 2, .slice A2 toS.length c2, .slice A3 toJ.length c3]) ∧ IsB w' A0 c0 toO A2 c2 toS A3 c3 toJ) ∧ Below w.heap.size w w' := by
 refine (tithinglaw11_town.calls toO 2 toS toJ w rfl).mono ?_
 rintro e w' ⟨v0, v2, v3, rfl, h0, h2, h3, hb⟩
 obtain ⟨A0, c0, A2, c2, A3, c3, rfl, rfl, rfl, hM⟩ := isB_of h0 h2 h3 (by decide) (by decide) (by decide)
 exact ⟨⟨A0, c0, A2, c2, A3, c3, rfl, hM⟩, hb⟩
theorem ints_calls {A0 A1 : Option Addr} {c0 c1 : Nat} {l0 l1 : List Int} {w : World} (h0 : (Kd.int .i64).C w A0 l0.length l0) (hc0 : l0.length ≤ c0) (h1 : (Kd.int .i64).C w A1 l1.length l1) (hc1 : l1.length ≤ c1) (k : Nat) (r : Bool) (hr : tithinglaw11_ints.f k l0 l1 = some r) :
  Calls Try.prog 23 #[.slice A0 l0.length c0, .slice A1 l1.length c1] w fun e w' => e = .returned (.bool r) ∧ Below w.heap.size w w' :=
 (tithinglaw11_ints.calls k A0 c0 l0 A1 c1 l1 r w h0 hc0 h1 hc1 hr).mono fun _ _ ⟨he, hd⟩ => ⟨he, hd.below⟩
set_option maxRecDepth 100000 in
set_option maxHeartbeats 40000000 in
theorem awake_calls (w : World) : Calls Try.prog 18 #[] w fun e w' => e = .returned (.bool true) ∧ Below w.heap.size w w' := by
 go_enter Try.func18, Try.ntmps18
 go_wp2_with fail
 refine (town_calls _).mono ?_
 rintro e w1 ⟨⟨A0, c0, A2, c2, A3, c3, rfl, hM⟩, hb1⟩
 have HM := Aside0.mk hM
 have HB1 := Aside0.mk hb1
 clear hM hb1
 go_wp2_with fail
 refine (Carry_calls (nw := 2) HM.out to_chk toP to_two (by rw [to_car]; exact to_sumOk)).mono ?_
 rintro e w2 ⟨⟨v1, v2, rfl, hr1, hr2⟩, hb2⟩
 rw [to_car] at hr1 hr2
 have hr2' : (Kd.int .i64).R 3 w2 w1.heap.size (fun _ => True) v2 [70, 90] := hr2
 obtain ⟨As, cs, rfl, hls, hCs⟩ := Kd.R_reads hr1
 obtain ⟨Ad, cd, rfl, hld, hCd⟩ := Kd.R_reads hr2'
 have HS := Aside0.mk hCs
 have HD := Aside0.mk hCd
 have HB2 := Aside0.mk (HB1.out.trans (hb2.mono HB1.out.size))
 simp only [List.length_cons, List.length_nil, Nat.zero_add, Nat.reduceAdd] at hls hld HS HD ⊢
 clear hb2 hr1 hr2 hr2' hCs hCd HM HB1
 go_wp2_with fail
 refine (town_calls _).mono ?_
 rintro e w3 ⟨⟨A4, c4, A5, c5, A6, c6, rfl, hM⟩, hb3⟩
 have HM := Aside0.mk hM
 have HB3 := Aside0.mk (HB2.out.trans (hb3.mono HB2.out.size))
 have HS3 := Aside0.mk (Kd.C_below HS.out hb3)
 have HD3 := Aside0.mk (Kd.C_below HD.out hb3)
 clear hM hb3 HB2 HS HD
 go_wp2_with fail
 refine (Bounds_calls (nw := 2) HM.out).mono ?_
 rintro e w4 ⟨⟨vb, rfl, hrb⟩, hb4⟩
 rw [show boundsF toO 2 toS toJ = ([⟨50, 100⟩, ⟨60, 110⟩], 0) from by unfold boundsF; rw [if_pos to_con, show (2 : Int).toNat = 2 from rfl, to_bnd]] at hrb ⊢
 obtain ⟨ad, cb, rfl⟩ := Kd.R_slice1 hrb (by decide)
 obtain ⟨gb, rfl⟩ := Kd.R_head hrb
 obtain ⟨_, hlb, hCb⟩ := Kd.R_reads' hrb
 obtain ⟨ab, e, hq0, hq1⟩ := at_T71 hCb 0 (by decide) (by decide)
 cases e
 obtain ⟨ab, e, hq2, hq3⟩ := at_T71 hCb 1 (by decide) (by decide)
 cases e
 have HQ0 := Aside0.mk (show w4.cell? ⟨gb, 0, none⟩ = some (.int .i64 50) from hq0)
 have HQ1 := Aside0.mk (show w4.cell? ⟨gb, 1, none⟩ = some (.int .i64 100) from hq1)
 have HQ2 := Aside0.mk (show w4.cell? ⟨gb, 2, none⟩ = some (.int .i64 60) from hq2)
 have HQ3 := Aside0.mk (show w4.cell? ⟨gb, 3, none⟩ = some (.int .i64 110) from hq3)
 have hgb : gb < w4.heap.size := World.block_lt_of_cell? w4 _ HQ0.out
 have HB4 := Aside0.mk (HB3.out.trans (hb4.mono HB3.out.size))
 have HS4 := Aside0.mk (Kd.C_below HS3.out hb4)
 have HD4 := Aside0.mk (Kd.C_below HD3.out hb4)
 simp only [List.length_cons, List.length_nil, Nat.zero_add, Nat.reduceAdd] at hlb ⊢
 clear hrb hb4 hCb hq0 hq1 hq2 hq3 HB3 HS3 HD3 HM
 go_wp2_with fail
 refine (town_calls _).mono ?_
 rintro e w5 ⟨⟨A7, c7, A8, c8, A9, c9, rfl, hM⟩, hb5⟩
 have HM := Aside0.mk hM
 have HB5 := Aside0.mk (HB4.out.trans (hb5.mono HB4.out.size))
 have HS5 := Aside0.mk (Kd.C_below HS4.out hb5)
 have HD5 := Aside0.mk (Kd.C_below HD4.out hb5)
 have hs5 := hb5.size
 have HQ05 := Aside0.mk ((hb5.cell (p := ⟨gb, 0, none⟩) hgb).trans HQ0.out)
 have HQ15 := Aside0.mk ((hb5.cell (p := ⟨gb, 1, none⟩) hgb).trans HQ1.out)
 have HQ25 := Aside0.mk ((hb5.cell (p := ⟨gb, 2, none⟩) hgb).trans HQ2.out)
 have HQ35 := Aside0.mk ((hb5.cell (p := ⟨gb, 3, none⟩) hgb).trans HQ3.out)
 have hgb5 := Nat.lt_of_lt_of_le hgb hs5
 clear hM hb5 HB4 HS4 HD4 HQ0 HQ1 HQ2 HQ3 hgb hs5
 go_wp2_with fail
 have hz := Off_calls (nw := 2) HM.out to_con toP to_two (by rw [to_car]; exact to_sumOk) (by
  rw [to_car]
  show OffOk (boundsAt toO toS 2) (sumAt toS 2 [60, 40, 50, 10] 4) 2
  rw [to_bnd, to_sum]
  exact to_offOk)
 rw [to_car, show (2 : Int).toNat = 2 from rfl, to_bnd, show toS.length = 4 from rfl, to_sum, to_off] at hz
 refine hz.mono ?_
 clear hz
 rintro e w6 ⟨⟨vo, rfl, hro⟩, hb6⟩
 obtain ⟨Ao, co, rfl, hlo, hCo⟩ := Kd.R_reads hro
 have HO6 := Aside0.mk hCo
 have HB6 := Aside0.mk (HB5.out.trans (hb6.mono HB5.out.size))
 have HS6 := Aside0.mk (Kd.C_below HS5.out hb6)
 have HD6 := Aside0.mk (Kd.C_below HD5.out hb6)
 have HQ06 := Aside0.mk ((hb6.cell (p := ⟨gb, 0, none⟩) hgb5).trans HQ05.out)
 have HQ16 := Aside0.mk ((hb6.cell (p := ⟨gb, 1, none⟩) hgb5).trans HQ15.out)
 have HQ26 := Aside0.mk ((hb6.cell (p := ⟨gb, 2, none⟩) hgb5).trans HQ25.out)
 have HQ36 := Aside0.mk ((hb6.cell (p := ⟨gb, 3, none⟩) hgb5).trans HQ35.out)
 have hgb6 := Nat.lt_of_lt_of_le hgb5 hb6.size
 simp only [List.length_cons, List.length_nil, Nat.zero_add, Nat.reduceAdd] at hlo HO6 ⊢
 clear hro hb6 hCo HB5 HS5 HD5 HQ05 HQ15 HQ25 HQ35 hgb5 HM
 go_wp2_with fail
 refine (town_calls _).mono ?_
 rintro e w7 ⟨⟨B0, d0, B2, d2, B3, d3, rfl, hM⟩, hb7⟩
 have HM7 := Aside0.mk hM
 have HB7 := Aside0.mk (HB6.out.trans (hb7.mono HB6.out.size))
 have HS7 := Aside0.mk (Kd.C_below HS6.out hb7)
 have HD7 := Aside0.mk (Kd.C_below HD6.out hb7)
 have HO7 := Aside0.mk (Kd.C_below HO6.out hb7)
 have HQ07 := Aside0.mk ((hb7.cell (p := ⟨gb, 0, none⟩) hgb6).trans HQ06.out)
 have HQ17 := Aside0.mk ((hb7.cell (p := ⟨gb, 1, none⟩) hgb6).trans HQ16.out)
 have HQ27 := Aside0.mk ((hb7.cell (p := ⟨gb, 2, none⟩) hgb6).trans HQ26.out)
 have HQ37 := Aside0.mk ((hb7.cell (p := ⟨gb, 3, none⟩) hgb6).trans HQ36.out)
 have hgb7 := Nat.lt_of_lt_of_le hgb6 hb7.size
 clear hM hb7 HB6 HS6 HD6 HO6 HQ06 HQ16 HQ26 HQ36 hgb6
 go_wp2_with fail
 refine (between_calls 30 130 _).mono ?_
 rintro e w8 ⟨rfl, hb8⟩
 have HM8 := Aside0.mk (HM7.out.below hb8)
 have HB8 := Aside0.mk (HB7.out.trans (hb8.mono HB7.out.size))
 have HS8 := Aside0.mk (Kd.C_below HS7.out hb8)
 have HD8 := Aside0.mk (Kd.C_below HD7.out hb8)
 have HO8 := Aside0.mk (Kd.C_below HO7.out hb8)
 have HQ08 := Aside0.mk ((hb8.cell (p := ⟨gb, 0, none⟩) hgb7).trans HQ07.out)
 have HQ18 := Aside0.mk ((hb8.cell (p := ⟨gb, 1, none⟩) hgb7).trans HQ17.out)
 have HQ28 := Aside0.mk ((hb8.cell (p := ⟨gb, 2, none⟩) hgb7).trans HQ27.out)
 have HQ38 := Aside0.mk ((hb8.cell (p := ⟨gb, 3, none⟩) hgb7).trans HQ37.out)
 have hgb8 := Nat.lt_of_lt_of_le hgb7 hb8.size
 clear hb8 HM7 HB7 HS7 HD7 HO7 HQ07 HQ17 HQ27 HQ37 hgb7
 go_wp2_with fail
 refine (Best_calls (nw := 2) HM8.out 30 130).mono ?_
 rintro e w9 ⟨⟨vx, rfl, hrx⟩, hb9⟩
 rw [to_best] at hrx ⊢
 obtain ⟨Ax, cx, rfl, hlx, hCx⟩ := Kd.R_reads hrx
 have HX := Aside0.mk hCx
 have HB := Aside0.mk (HB8.out.trans (hb9.mono HB8.out.size))
 have HS := Aside0.mk (Kd.C_below HS8.out hb9)
 have HD := Aside0.mk (Kd.C_below HD8.out hb9)
 have HO := Aside0.mk (Kd.C_below HO8.out hb9)
 have hb0 := ((hb9.cell (p := ⟨gb, 0, none⟩) hgb8).trans HQ08.out)
 have hb1 := ((hb9.cell (p := ⟨gb, 1, none⟩) hgb8).trans HQ18.out)
 have hb2 := ((hb9.cell (p := ⟨gb, 2, none⟩) hgb8).trans HQ28.out)
 have hb3 := ((hb9.cell (p := ⟨gb, 3, none⟩) hgb8).trans HQ38.out)
 simp only [List.length_cons, List.length_nil, Nat.zero_add, Nat.reduceAdd] at hlx HX ⊢
 clear hrx hb9 hCx HB8 HS8 HD8 HO8 HQ08 HQ18 HQ28 HQ38 hgb8 HM8
 go_wp2_with fail
 refine start_ (n := 58) (S := fun w' => w'.cell? ⟨gb, 0, none⟩ = some (.int .i64 50) ∧ w'.cell? ⟨gb, 1, none⟩ = some (.int .i64 100) ∧ w'.cell? ⟨gb, 2, none⟩ = some (.int .i64 60) ∧ w'.cell? ⟨gb, 3, none⟩ = some (.int .i64 110)) (ds := [41, 42, 50, 51]) #[O,O,O,O,O,O,O,O,O,O,O,O,O,O,O,O,O,O,O,O,O,O,O,O,O,O,O,O,O,O,O,O,O,O,O,O,O,O,O,O,O,O,O,O,O,O,O,O,O,O,O,O,O,O,O,O,O,O] (by kernel_rfl) rfl rfl ⟨hb0, hb1, hb2, hb3⟩ (fun hHeld => ?_); refine with_tabW aw.tab5 aw.bits5 (fun HT_ HW_ => ?_)
 have HB0 := Aside0.mk (below_drew HB.out)
 have HS0 := Aside0.mk (Kd.C_drew HS.out)
 have HD0 := Aside0.mk (Kd.C_drew HD.out)
 have HO0 := Aside0.mk (Kd.C_drew HO.out)
 have HX0 := Aside0.mk (Kd.C_drew HX.out)
 clear HB HS HD HO HX hb0 hb1 hb2 hb3
 generalize w9.drew = wd at HB0 HS0 HD0 HO0 HX0 hHeld ⊢
 refine pu_ 0 34 #[I,O,O,O,O,O,O,O,O,O,O,O,O,O,O,O,O,O,O,O,O,O,O,O,O,O,O,O,O,O,O,O,O,O,O,O,O,O,O,O,O,O,O,O,O,O,O,O,O,O,O,O,O,O,O,O,O,O] HT_ (h := ?_)
 refine pu_ 1 35 #[I,I,O,O,O,O,O,O,O,O,O,O,O,O,O,O,O,O,O,O,O,O,O,O,O,O,O,O,O,O,O,O,O,O,O,O,O,O,O,O,O,O,O,O,O,O,O,O,O,O,O,O,O,O,O,O,O,O] HT_ (h := ?_)
 refine pu_ 2 36 #[I,I,I,O,O,O,O,O,O,O,O,O,O,O,O,O,O,O,O,O,O,O,O,O,O,O,O,O,O,O,O,O,O,O,O,O,O,O,O,O,O,O,O,O,O,O,O,O,O,O,O,O,O,O,O,O,O,O] HT_ (h := ?_)
 refine pu_ 3 37 #[I,I,I,I,O,O,O,O,O,O,O,O,O,O,O,O,O,O,O,O,O,O,O,O,O,O,O,O,O,O,O,O,O,O,O,O,O,O,O,O,O,O,O,O,O,O,O,O,O,O,O,O,O,O,O,O,O,O] HT_ (h := ?_)
 refine one_ (i := 4) (N := some 38) #[I,I,I,I,I,O,O,O,O,O,O,O,O,O,O,O,O,O,O,O,O,O,O,O,O,O,O,O,O,O,O,O,O,O,O,O,O,O,O,O,O,O,O,O,O,O,O,O,O,O,O,O,O,O,O,O,O,O] rfl rfl (one_of HT_.out (by kernel_rfl)) (by decide) (fun K hK => ?_)
 refine value_ (w1 := ?_) (v := ?_) (by rfl) rfl ?_ ?_
 rotate_left 2
 ·go_simp
  constructor <;> rfl
 have hbx := below_alloc (Below.refl wd.heap.size wd) (.cells #[.int .i64 60, .int .i64 40, .int .i64 50, .int .i64 10] 3)
 have HLn := Aside0.mk (lit_ints [60, 40, 50, 10] (by decide) (Blk.new wd [.int .i64 60, .int .i64 40, .int .i64 50, .int .i64 10] 3))
 have HB1 := Aside0.mk (HB0.out.trans (hbx.mono HB0.out.size))
 have HS1 := Aside0.mk (Kd.C_below HS0.out hbx)
 have HD1 := Aside0.mk (Kd.C_below HD0.out hbx)
 have HO1 := Aside0.mk (Kd.C_below HO0.out hbx)
 have HX1 := Aside0.mk (Kd.C_below HX0.out hbx)
 refine hK.out _ _ ⟨(hbx.cell (World.block_lt_of_cell? _ _ hHeld.1)).trans hHeld.1, (hbx.cell (World.block_lt_of_cell? _ _ hHeld.2.1)).trans hHeld.2.1, (hbx.cell (World.block_lt_of_cell? _ _ hHeld.2.2.1)).trans hHeld.2.2.1, (hbx.cell (World.block_lt_of_cell? _ _ hHeld.2.2.2)).trans hHeld.2.2.2⟩ (fun hHeld => ?_)
 clear hK K hbx
 refine norm_ (by simp only [Act.put, sb0, sb1, sb2]; rfl) ?_
 generalize wd.alloc (.cells #[.int .i64 60, .int .i64 40, .int .i64 50, .int .i64 10] 3) = we1 at HB1 HLn HS1 HD1 HO1 HX1 hHeld ⊢
 generalize wd.heap.size = gl1 at HLn ⊢
 refine one_ (i := 5) (N := some 39) #[I,I,I,I,I,I,O,O,O,O,O,O,O,O,O,O,O,O,O,O,O,O,O,O,O,O,O,O,O,O,O,O,O,O,O,O,O,O,O,O,O,O,O,O,O,O,O,O,O,O,O,O,O,O,O,O,O,O] rfl rfl (one_of HT_.out (by kernel_rfl)) (by decide) (fun K hK => ?_)
 refine goes_ Try.func23 (by kernel_rfl) rfl #[.slice As 4 cs, .slice (some ⟨gl1, 0, none⟩) 4 4] (by rfl) rfl rfl (by (try simp only [List.map_toArray, List.map_cons, List.map_nil]); rfl) ?_
 refine (ints_calls (l0 := [60, 40, 50, 10]) (l1 := [60, 40, 50, 10]) HS1.out hls HLn.out (Nat.le_refl _) 9 true (by decide +kernel)).mono ?_
 rintro e_ w_ ⟨rfl, hbx⟩
 have HB2 := Aside0.mk (HB1.out.trans (hbx.mono HB1.out.size))
 have HD2 := Aside0.mk (Kd.C_below HD1.out hbx)
 have HO2 := Aside0.mk (Kd.C_below HO1.out hbx)
 have HX2 := Aside0.mk (Kd.C_below HX1.out hbx)
 refine ⟨_, rfl, hK.out _ _ ⟨(hbx.cell (World.block_lt_of_cell? _ _ hHeld.1)).trans hHeld.1, (hbx.cell (World.block_lt_of_cell? _ _ hHeld.2.1)).trans hHeld.2.1, (hbx.cell (World.block_lt_of_cell? _ _ hHeld.2.2.1)).trans hHeld.2.2.1, (hbx.cell (World.block_lt_of_cell? _ _ hHeld.2.2.2)).trans hHeld.2.2.2⟩ (fun hHeld => ?_)⟩
 clear hK K HLn hbx
 refine norm_ (by simp only [Act.put, sb0, sb1, sb2]; rfl) ?_
 clear HB1 HD1 HO1 HX1
 generalize hw_ : w_ = we2 at HB2 HD2 HO2 HX2 hHeld ⊢
 clear hw_
 refine pu_ 6 40 #[I,I,I,I,I,I,I,O,O,O,O,O,O,O,O,O,O,O,O,O,O,O,O,O,O,O,O,O,O,O,O,O,O,O,O,O,O,O,O,O,O,O,O,O,O,O,O,O,O,O,O,O,O,O,O,O,O,O] HT_ (h := ?_)
 refine pu_ 7 41 #[I,I,I,I,I,I,I,I,O,O,O,O,O,O,O,O,O,O,O,O,O,O,O,O,O,O,O,O,O,O,O,O,O,O,O,O,O,O,O,O,O,O,O,O,O,O,O,O,O,O,O,O,O,O,O,O,O,O] HT_ (h := ?_)
 refine pu_ 8 42 #[I,I,I,I,I,I,I,I,I,O,O,O,O,O,O,O,O,O,O,O,O,O,O,O,O,O,O,O,O,O,O,O,O,O,O,O,O,O,O,O,O,O,O,O,O,O,O,O,O,O,O,O,O,O,O,O,O,O] HT_ (h := ?_)
 refine one_ (i := 9) (N := some 43) #[I,I,I,I,I,I,I,I,I,I,O,O,O,O,O,O,O,O,O,O,O,O,O,O,O,O,O,O,O,O,O,O,O,O,O,O,O,O,O,O,O,O,O,O,O,O,O,O,O,O,O,O,O,O,O,O,O,O] rfl rfl (one_of HT_.out (by kernel_rfl)) (by decide) (fun K hK => ?_)
 refine value_ (w1 := ?_) (v := ?_) (by rfl) rfl ?_ ?_
 rotate_left 2
 ·go_simp
  constructor <;> rfl
 have hbx := below_alloc (Below.refl we2.heap.size we2) (.cells #[.int .i64 70, .int .i64 90] 3)
 have HLn := Aside0.mk (lit_ints [70, 90] (by decide) (Blk.new we2 [.int .i64 70, .int .i64 90] 3))
 have HB3 := Aside0.mk (HB2.out.trans (hbx.mono HB2.out.size))
 have HD3 := Aside0.mk (Kd.C_below HD2.out hbx)
 have HO3 := Aside0.mk (Kd.C_below HO2.out hbx)
 have HX3 := Aside0.mk (Kd.C_below HX2.out hbx)
 refine hK.out _ _ ⟨(hbx.cell (World.block_lt_of_cell? _ _ hHeld.1)).trans hHeld.1, (hbx.cell (World.block_lt_of_cell? _ _ hHeld.2.1)).trans hHeld.2.1, (hbx.cell (World.block_lt_of_cell? _ _ hHeld.2.2.1)).trans hHeld.2.2.1, (hbx.cell (World.block_lt_of_cell? _ _ hHeld.2.2.2)).trans hHeld.2.2.2⟩ (fun hHeld => ?_)
 clear hK K hbx
 refine norm_ (by simp only [Act.put, sb0, sb1, sb2]; rfl) ?_
 generalize we2.alloc (.cells #[.int .i64 70, .int .i64 90] 3) = we3 at HB3 HLn HD3 HO3 HX3 hHeld ⊢
 generalize we2.heap.size = gl3 at HLn ⊢
 refine one_ (i := 10) (N := some 44) #[I,I,I,I,I,I,I,I,I,I,I,O,O,O,O,O,O,O,O,O,O,O,O,O,O,O,O,O,O,O,O,O,O,O,O,O,O,O,O,O,O,O,O,O,O,O,O,O,O,O,O,O,O,O,O,O,O,O] rfl rfl (one_of HT_.out (by kernel_rfl)) (by decide) (fun K hK => ?_)
 refine goes_ Try.func23 (by kernel_rfl) rfl #[.slice Ad 2 cd, .slice (some ⟨gl3, 0, none⟩) 2 2] (by rfl) rfl rfl (by (try simp only [List.map_toArray, List.map_cons, List.map_nil]); rfl) ?_
 refine (ints_calls (l0 := [70, 90]) (l1 := [70, 90]) HD3.out hld HLn.out (Nat.le_refl _) 9 true (by decide +kernel)).mono ?_
 rintro e_ w_ ⟨rfl, hbx⟩
 have HB4 := Aside0.mk (HB3.out.trans (hbx.mono HB3.out.size))
 have HO4 := Aside0.mk (Kd.C_below HO3.out hbx)
 have HX4 := Aside0.mk (Kd.C_below HX3.out hbx)
 refine ⟨_, rfl, hK.out _ _ ⟨(hbx.cell (World.block_lt_of_cell? _ _ hHeld.1)).trans hHeld.1, (hbx.cell (World.block_lt_of_cell? _ _ hHeld.2.1)).trans hHeld.2.1, (hbx.cell (World.block_lt_of_cell? _ _ hHeld.2.2.1)).trans hHeld.2.2.1, (hbx.cell (World.block_lt_of_cell? _ _ hHeld.2.2.2)).trans hHeld.2.2.2⟩ (fun hHeld => ?_)⟩
 clear hK K HLn hbx
 refine norm_ (by simp only [Act.put, sb0, sb1, sb2]; rfl) ?_
 clear HB3 HO3 HX3
 generalize hw_ : w_ = we4 at HB4 HO4 HX4 hHeld ⊢
 clear hw_
 refine pu_ 11 45 #[I,I,I,I,I,I,I,I,I,I,I,I,O,O,O,O,O,O,O,O,O,O,O,O,O,O,O,O,O,O,O,O,O,O,O,O,O,O,O,O,O,O,O,O,O,O,O,O,O,O,O,O,O,O,O,O,O,O] HT_ (h := ?_)
 refine pu_ 12 46 #[I,I,I,I,I,I,I,I,I,I,I,I,I,O,O,O,O,O,O,O,O,O,O,O,O,O,O,O,O,O,O,O,O,O,O,O,O,O,O,O,O,O,O,O,O,O,O,O,O,O,O,O,O,O,O,O,O,O] HT_ (h := ?_)
 refine pu_ 13 47 #[I,I,I,I,I,I,I,I,I,I,I,I,I,I,O,O,O,O,O,O,O,O,O,O,O,O,O,O,O,O,O,O,O,O,O,O,O,O,O,O,O,O,O,O,O,O,O,O,O,O,O,O,O,O,O,O,O,O] HT_ (h := ?_)
 refine pu_ 14 48 #[I,I,I,I,I,I,I,I,I,I,I,I,I,I,I,O,O,O,O,O,O,O,O,O,O,O,O,O,O,O,O,O,O,O,O,O,O,O,O,O,O,O,O,O,O,O,O,O,O,O,O,O,O,O,O,O,O,O] HT_ (h := ?_)
 refine pu_ 15 49 #[I,I,I,I,I,I,I,I,I,I,I,I,I,I,I,I,O,O,O,O,O,O,O,O,O,O,O,O,O,O,O,O,O,O,O,O,O,O,O,O,O,O,O,O,O,O,O,O,O,O,O,O,O,O,O,O,O,O] HT_ (h := ?_)
 refine pu_ 16 50 #[I,I,I,I,I,I,I,I,I,I,I,I,I,I,I,I,I,O,O,O,O,O,O,O,O,O,O,O,O,O,O,O,O,O,O,O,O,O,O,O,O,O,O,O,O,O,O,O,O,O,O,O,O,O,O,O,O,O] HT_ (h := ?_)
 refine pu_ 17 51 #[I,I,I,I,I,I,I,I,I,I,I,I,I,I,I,I,I,I,O,O,O,O,O,O,O,O,O,O,O,O,O,O,O,O,O,O,O,O,O,O,O,O,O,O,O,O,O,O,O,O,O,O,O,O,O,O,O,O] HT_ (h := ?_)
 refine pu_ 18 52 #[I,I,I,I,I,I,I,I,I,I,I,I,I,I,I,I,I,I,I,O,O,O,O,O,O,O,O,O,O,O,O,O,O,O,O,O,O,O,O,O,O,O,O,O,O,O,O,O,O,O,O,O,O,O,O,O,O,O] HT_ (h := ?_)
 refine pu_ 19 53 #[I,I,I,I,I,I,I,I,I,I,I,I,I,I,I,I,I,I,I,I,O,O,O,O,O,O,O,O,O,O,O,O,O,O,O,O,O,O,O,O,O,O,O,O,O,O,O,O,O,O,O,O,O,O,O,O,O,O] HT_ (h := ?_)
 refine pu_ 20 54 #[I,I,I,I,I,I,I,I,I,I,I,I,I,I,I,I,I,I,I,I,I,O,O,O,O,O,O,O,O,O,O,O,O,O,O,O,O,O,O,O,O,O,O,O,O,O,O,O,O,O,O,O,O,O,O,O,O,O] HT_ (h := ?_)
 refine pu_ 21 55 #[I,I,I,I,I,I,I,I,I,I,I,I,I,I,I,I,I,I,I,I,I,I,O,O,O,O,O,O,O,O,O,O,O,O,O,O,O,O,O,O,O,O,O,O,O,O,O,O,O,O,O,O,O,O,O,O,O,O] HT_ (h := ?_)
 refine pu_ 22 56 #[I,I,I,I,I,I,I,I,I,I,I,I,I,I,I,I,I,I,I,I,I,I,I,O,O,O,O,O,O,O,O,O,O,O,O,O,O,O,O,O,O,O,O,O,O,O,O,O,O,O,O,O,O,O,O,O,O,O] HT_ (h := ?_)
 refine pu_ 23 57 #[I,I,I,I,I,I,I,I,I,I,I,I,I,I,I,I,I,I,I,I,I,I,I,I,O,O,O,O,O,O,O,O,O,O,O,O,O,O,O,O,O,O,O,O,O,O,O,O,O,O,O,O,O,O,O,O,O,O] HT_ (h := ?_)
 refine ta_ 24 58 #[I,I,I,I,I,I,I,I,I,I,I,I,I,I,I,I,I,I,I,I,I,I,I,I,I,O,O,O,O,O,O,O,O,O,O,O,O,O,O,O,O,O,O,O,O,O,O,O,O,O,O,O,O,O,O,O,O,O] HT_ HW_ hHeld (hy := by (rintro w' ⟨s0, s1, s2, s3⟩; go_simp; with_reducible rfl)) (h := ?_)
 refine one_ (i := 25) (N := some 59) #[I,I,I,I,I,I,I,I,I,I,I,I,I,I,I,I,I,I,I,I,I,I,I,I,I,I,O,O,O,O,O,O,O,O,O,O,O,O,O,O,O,O,O,O,O,O,O,O,O,O,O,O,O,O,O,O,O,O] rfl rfl (one_of HT_.out (by kernel_rfl)) (by decide) (fun K hK => ?_)
 refine goes_ Try.func49 (by kernel_rfl) rfl #[.int .i64 50, .int .i64 100] (by rfl) rfl rfl (by (try simp only [List.map_toArray, List.map_cons, List.map_nil]); rfl) ?_
 refine (between_calls 50 100 _).mono ?_
 rintro e_ w_ ⟨rfl, hbx⟩
 have HB5 := Aside0.mk (HB4.out.trans (hbx.mono HB4.out.size))
 have HO5 := Aside0.mk (Kd.C_below HO4.out hbx)
 have HX5 := Aside0.mk (Kd.C_below HX4.out hbx)
 refine ⟨_, rfl, hK.out _ _ ⟨(hbx.cell (World.block_lt_of_cell? _ _ hHeld.1)).trans hHeld.1, (hbx.cell (World.block_lt_of_cell? _ _ hHeld.2.1)).trans hHeld.2.1, (hbx.cell (World.block_lt_of_cell? _ _ hHeld.2.2.1)).trans hHeld.2.2.1, (hbx.cell (World.block_lt_of_cell? _ _ hHeld.2.2.2)).trans hHeld.2.2.2⟩ (fun hHeld => ?_)⟩
 clear hK K hbx
 refine norm_ (by simp only [Act.put, sb0, sb1, sb2]; rfl) ?_
 clear HB4 HO4 HX4
 generalize hw_ : w_ = we5 at HB5 HO5 HX5 hHeld ⊢
 clear hw_
 refine pu_ 26 60 #[I,I,I,I,I,I,I,I,I,I,I,I,I,I,I,I,I,I,I,I,I,I,I,I,I,I,I,O,O,O,O,O,O,O,O,O,O,O,O,O,O,O,O,O,O,O,O,O,O,O,O,O,O,O,O,O,O,O] HT_ (h := ?_)
 refine pu_ 27 61 #[I,I,I,I,I,I,I,I,I,I,I,I,I,I,I,I,I,I,I,I,I,I,I,I,I,I,I,I,O,O,O,O,O,O,O,O,O,O,O,O,O,O,O,O,O,O,O,O,O,O,O,O,O,O,O,O,O,O] HT_ (h := ?_)
 refine pu_ 28 62 #[I,I,I,I,I,I,I,I,I,I,I,I,I,I,I,I,I,I,I,I,I,I,I,I,I,I,I,I,I,O,O,O,O,O,O,O,O,O,O,O,O,O,O,O,O,O,O,O,O,O,O,O,O,O,O,O,O,O] HT_ (h := ?_)
 refine pu_ 29 63 #[I,I,I,I,I,I,I,I,I,I,I,I,I,I,I,I,I,I,I,I,I,I,I,I,I,I,I,I,I,I,O,O,O,O,O,O,O,O,O,O,O,O,O,O,O,O,O,O,O,O,O,O,O,O,O,O,O,O] HT_ (h := ?_)
 refine pu_ 30 64 #[I,I,I,I,I,I,I,I,I,I,I,I,I,I,I,I,I,I,I,I,I,I,I,I,I,I,I,I,I,I,I,O,O,O,O,O,O,O,O,O,O,O,O,O,O,O,O,O,O,O,O,O,O,O,O,O,O,O] HT_ (h := ?_)
 refine ta_ 31 65 #[I,I,I,I,I,I,I,I,I,I,I,I,I,I,I,I,I,I,I,I,I,I,I,I,I,I,I,I,I,I,I,I,O,O,O,O,O,O,O,O,O,O,O,O,O,O,O,O,O,O,O,O,O,O,O,O,O,O] HT_ HW_ hHeld (hy := by (rintro w' ⟨s0, s1, s2, s3⟩; go_simp; with_reducible rfl)) (h := ?_)
 refine one_ (i := 32) (N := some 66) #[I,I,I,I,I,I,I,I,I,I,I,I,I,I,I,I,I,I,I,I,I,I,I,I,I,I,I,I,I,I,I,I,I,O,O,O,O,O,O,O,O,O,O,O,O,O,O,O,O,O,O,O,O,O,O,O,O,O] rfl rfl (one_of HT_.out (by kernel_rfl)) (by decide) (fun K hK => ?_)
 refine goes_ Try.func49 (by kernel_rfl) rfl #[.int .i64 60, .int .i64 110] (by rfl) rfl rfl (by (try simp only [List.map_toArray, List.map_cons, List.map_nil]); rfl) ?_
 refine (between_calls 60 110 _).mono ?_
 rintro e_ w_ ⟨rfl, hbx⟩
 have HB6 := Aside0.mk (HB5.out.trans (hbx.mono HB5.out.size))
 have HO6 := Aside0.mk (Kd.C_below HO5.out hbx)
 have HX6 := Aside0.mk (Kd.C_below HX5.out hbx)
 refine ⟨_, rfl, hK.out _ _ ⟨(hbx.cell (World.block_lt_of_cell? _ _ hHeld.1)).trans hHeld.1, (hbx.cell (World.block_lt_of_cell? _ _ hHeld.2.1)).trans hHeld.2.1, (hbx.cell (World.block_lt_of_cell? _ _ hHeld.2.2.1)).trans hHeld.2.2.1, (hbx.cell (World.block_lt_of_cell? _ _ hHeld.2.2.2)).trans hHeld.2.2.2⟩ (fun hHeld => ?_)⟩
 clear hK K hbx
 refine norm_ (by simp only [Act.put, sb0, sb1, sb2]; rfl) ?_
 clear HB5 HO5 HX5
 generalize hw_ : w_ = we6 at HB6 HO6 HX6 hHeld ⊢
 clear hw_
 refine pu_ 33 67 #[I,I,I,I,I,I,I,I,I,I,I,I,I,I,I,I,I,I,I,I,I,I,I,I,I,I,I,I,I,I,I,I,I,I,O,O,O,O,O,O,O,O,O,O,O,O,O,O,O,O,O,O,O,O,O,O,O,O] HT_ (h := ?_)
 refine pu_ 34 68 #[I,I,I,I,I,I,I,I,I,I,I,I,I,I,I,I,I,I,I,I,I,I,I,I,I,I,I,I,I,I,I,I,I,I,I,O,O,O,O,O,O,O,O,O,O,O,O,O,O,O,O,O,O,O,O,O,O,O] HT_ (h := ?_)
 refine pu_ 35 69 #[I,I,I,I,I,I,I,I,I,I,I,I,I,I,I,I,I,I,I,I,I,I,I,I,I,I,I,I,I,I,I,I,I,I,I,I,O,O,O,O,O,O,O,O,O,O,O,O,O,O,O,O,O,O,O,O,O,O] HT_ (h := ?_)
 refine pu_ 36 70 #[I,I,I,I,I,I,I,I,I,I,I,I,I,I,I,I,I,I,I,I,I,I,I,I,I,I,I,I,I,I,I,I,I,I,I,I,I,O,O,O,O,O,O,O,O,O,O,O,O,O,O,O,O,O,O,O,O,O] HT_ (h := ?_)
 refine pu_ 37 71 #[I,I,I,I,I,I,I,I,I,I,I,I,I,I,I,I,I,I,I,I,I,I,I,I,I,I,I,I,I,I,I,I,I,I,I,I,I,I,O,O,O,O,O,O,O,O,O,O,O,O,O,O,O,O,O,O,O,O] HT_ (h := ?_)
 refine pu_ 38 72 #[I,I,I,I,I,I,I,I,I,I,I,I,I,I,I,I,I,I,I,I,I,I,I,I,I,I,I,I,I,I,I,I,I,I,I,I,I,I,I,O,O,O,O,O,O,O,O,O,O,O,O,O,O,O,O,O,O,O] HT_ (h := ?_)
 refine pu_ 39 73 #[I,I,I,I,I,I,I,I,I,I,I,I,I,I,I,I,I,I,I,I,I,I,I,I,I,I,I,I,I,I,I,I,I,I,I,I,I,I,I,I,O,O,O,O,O,O,O,O,O,O,O,O,O,O,O,O,O,O] HT_ (h := ?_)
 refine pu_ 40 74 #[I,I,I,I,I,I,I,I,I,I,I,I,I,I,I,I,I,I,I,I,I,I,I,I,I,I,I,I,I,I,I,I,I,I,I,I,I,I,I,I,I,O,O,O,O,O,O,O,O,O,O,O,O,O,O,O,O,O] HT_ (h := ?_)
 refine last_ (i := 41) (N := some 75) #[I,I,I,I,I,I,I,I,I,I,I,I,I,I,I,I,I,I,I,I,I,I,I,I,I,I,I,I,I,I,I,I,I,I,I,I,I,I,I,I,I,I,O,O,O,O,O,O,O,O,O,O,O,O,O,O,O,O] rfl rfl (one_of HT_.out (by kernel_rfl)) (by decide) (fun K hK => ?_)
 refine value_ (w1 := ?_) (v := ?_) (by rfl) rfl ?_ ?_
 rotate_left 2
 ·go_simp
  constructor <;> rfl
 have hbx := below_alloc (Below.refl we6.heap.size we6) (.cells #[.int .i64 30, .int .i64 30] 3)
 have HLn := Aside0.mk (lit_ints [30, 30] (by decide) (Blk.new we6 [.int .i64 30, .int .i64 30] 3))
 have HB7 := Aside0.mk (HB6.out.trans (hbx.mono HB6.out.size))
 have HO7 := Aside0.mk (Kd.C_below HO6.out hbx)
 have HX7 := Aside0.mk (Kd.C_below HX6.out hbx)
 refine hK.out _ _ ?_
 clear hK K hbx
 refine norm_ (by simp only [Act.put, sb0, sb1, sb2]; rfl) ?_
 generalize we6.alloc (.cells #[.int .i64 30, .int .i64 30] 3) = we7 at HB7 HLn HO7 HX7  ⊢
 generalize we6.heap.size = gl7 at HLn ⊢
 refine last_ (i := 42) (N := some 76) #[I,I,I,I,I,I,I,I,I,I,I,I,I,I,I,I,I,I,I,I,I,I,I,I,I,I,I,I,I,I,I,I,I,I,I,I,I,I,I,I,I,I,I,O,O,O,O,O,O,O,O,O,O,O,O,O,O,O] rfl rfl (one_of HT_.out (by kernel_rfl)) (by decide) (fun K hK => ?_)
 refine goes_ Try.func23 (by kernel_rfl) rfl #[.slice Ao 2 co, .slice (some ⟨gl7, 0, none⟩) 2 2] (by rfl) rfl rfl (by (try simp only [List.map_toArray, List.map_cons, List.map_nil]); rfl) ?_
 refine (ints_calls (l0 := [30, 30]) (l1 := [30, 30]) HO7.out hlo HLn.out (Nat.le_refl _) 9 true (by decide +kernel)).mono ?_
 rintro e_ w_ ⟨rfl, hbx⟩
 have HB8 := Aside0.mk (HB7.out.trans (hbx.mono HB7.out.size))
 have HX8 := Aside0.mk (Kd.C_below HX7.out hbx)
 refine ⟨_, rfl, hK.out _ _ ?_⟩
 clear hK K HLn hbx
 refine norm_ (by simp only [Act.put, sb0, sb1, sb2]; rfl) ?_
 clear HB7 HX7
 generalize hw_ : w_ = we8 at HB8 HX8  ⊢
 clear hw_
 refine pu_ 43 77 #[I,I,I,I,I,I,I,I,I,I,I,I,I,I,I,I,I,I,I,I,I,I,I,I,I,I,I,I,I,I,I,I,I,I,I,I,I,I,I,I,I,I,I,I,O,O,O,O,O,O,O,O,O,O,O,O,O,O] HT_ (h := ?_)
 refine pu_ 44 78 #[I,I,I,I,I,I,I,I,I,I,I,I,I,I,I,I,I,I,I,I,I,I,I,I,I,I,I,I,I,I,I,I,I,I,I,I,I,I,I,I,I,I,I,I,I,O,O,O,O,O,O,O,O,O,O,O,O,O] HT_ (h := ?_)
 refine pu_ 45 79 #[I,I,I,I,I,I,I,I,I,I,I,I,I,I,I,I,I,I,I,I,I,I,I,I,I,I,I,I,I,I,I,I,I,I,I,I,I,I,I,I,I,I,I,I,I,I,O,O,O,O,O,O,O,O,O,O,O,O] HT_ (h := ?_)
 refine pu_ 46 80 #[I,I,I,I,I,I,I,I,I,I,I,I,I,I,I,I,I,I,I,I,I,I,I,I,I,I,I,I,I,I,I,I,I,I,I,I,I,I,I,I,I,I,I,I,I,I,I,O,O,O,O,O,O,O,O,O,O,O] HT_ (h := ?_)
 refine pu_ 47 81 #[I,I,I,I,I,I,I,I,I,I,I,I,I,I,I,I,I,I,I,I,I,I,I,I,I,I,I,I,I,I,I,I,I,I,I,I,I,I,I,I,I,I,I,I,I,I,I,I,O,O,O,O,O,O,O,O,O,O] HT_ (h := ?_)
 refine pu_ 48 82 #[I,I,I,I,I,I,I,I,I,I,I,I,I,I,I,I,I,I,I,I,I,I,I,I,I,I,I,I,I,I,I,I,I,I,I,I,I,I,I,I,I,I,I,I,I,I,I,I,I,O,O,O,O,O,O,O,O,O] HT_ (h := ?_)
 refine pu_ 49 83 #[I,I,I,I,I,I,I,I,I,I,I,I,I,I,I,I,I,I,I,I,I,I,I,I,I,I,I,I,I,I,I,I,I,I,I,I,I,I,I,I,I,I,I,I,I,I,I,I,I,I,O,O,O,O,O,O,O,O] HT_ (h := ?_)
 refine last_ (i := 50) (N := some 84) #[I,I,I,I,I,I,I,I,I,I,I,I,I,I,I,I,I,I,I,I,I,I,I,I,I,I,I,I,I,I,I,I,I,I,I,I,I,I,I,I,I,I,I,I,I,I,I,I,I,I,I,O,O,O,O,O,O,O] rfl rfl (one_of HT_.out (by kernel_rfl)) (by decide) (fun K hK => ?_)
 refine value_ (w1 := ?_) (v := ?_) (by rfl) rfl ?_ ?_
 rotate_left 2
 ·go_simp
  constructor <;> rfl
 have hbx := below_alloc (Below.refl we8.heap.size we8) (.cells #[.int .i64 0, .int .i64 1, .int .i64 1, .int .i64 1] 3)
 have HLn := Aside0.mk (lit_ints [0, 1, 1, 1] (by decide) (Blk.new we8 [.int .i64 0, .int .i64 1, .int .i64 1, .int .i64 1] 3))
 have HB9 := Aside0.mk (HB8.out.trans (hbx.mono HB8.out.size))
 have HX9 := Aside0.mk (Kd.C_below HX8.out hbx)
 refine hK.out _ _ ?_
 clear hK K hbx
 refine norm_ (by simp only [Act.put, sb0, sb1, sb2]; rfl) ?_
 generalize we8.alloc (.cells #[.int .i64 0, .int .i64 1, .int .i64 1, .int .i64 1] 3) = we9 at HB9 HLn HX9  ⊢
 generalize we8.heap.size = gl9 at HLn ⊢
 refine last_ (i := 51) (N := some 85) #[I,I,I,I,I,I,I,I,I,I,I,I,I,I,I,I,I,I,I,I,I,I,I,I,I,I,I,I,I,I,I,I,I,I,I,I,I,I,I,I,I,I,I,I,I,I,I,I,I,I,I,I,O,O,O,O,O,O] rfl rfl (one_of HT_.out (by kernel_rfl)) (by decide) (fun K hK => ?_)
 refine goes_ Try.func23 (by kernel_rfl) rfl #[.slice Ax 4 cx, .slice (some ⟨gl9, 0, none⟩) 4 4] (by rfl) rfl rfl (by (try simp only [List.map_toArray, List.map_cons, List.map_nil]); rfl) ?_
 refine (ints_calls (l0 := [0, 1, 1, 1]) (l1 := [0, 1, 1, 1]) HX9.out hlx HLn.out (Nat.le_refl _) 9 true (by decide +kernel)).mono ?_
 rintro e_ w_ ⟨rfl, hbx⟩
 have HB10 := Aside0.mk (HB9.out.trans (hbx.mono HB9.out.size))
 refine ⟨_, rfl, hK.out _ _ ?_⟩
 clear hK K HLn hbx
 refine norm_ (by simp only [Act.put, sb0, sb1, sb2]; rfl) ?_
 clear HB9 
 generalize hw_ : w_ = we10 at HB10   ⊢
 clear hw_
 refine pu_ 52 86 #[I,I,I,I,I,I,I,I,I,I,I,I,I,I,I,I,I,I,I,I,I,I,I,I,I,I,I,I,I,I,I,I,I,I,I,I,I,I,I,I,I,I,I,I,I,I,I,I,I,I,I,I,I,O,O,O,O,O] HT_ (h := ?_)
 refine pu_ 53 87 #[I,I,I,I,I,I,I,I,I,I,I,I,I,I,I,I,I,I,I,I,I,I,I,I,I,I,I,I,I,I,I,I,I,I,I,I,I,I,I,I,I,I,I,I,I,I,I,I,I,I,I,I,I,I,O,O,O,O] HT_ (h := ?_)
 refine pu_ 54 88 #[I,I,I,I,I,I,I,I,I,I,I,I,I,I,I,I,I,I,I,I,I,I,I,I,I,I,I,I,I,I,I,I,I,I,I,I,I,I,I,I,I,I,I,I,I,I,I,I,I,I,I,I,I,I,I,O,O,O] HT_ (h := ?_)
 refine pu_ 55 89 #[I,I,I,I,I,I,I,I,I,I,I,I,I,I,I,I,I,I,I,I,I,I,I,I,I,I,I,I,I,I,I,I,I,I,I,I,I,I,I,I,I,I,I,I,I,I,I,I,I,I,I,I,I,I,I,I,O,O] HT_ (h := ?_)
 refine pu_ 56 90 #[I,I,I,I,I,I,I,I,I,I,I,I,I,I,I,I,I,I,I,I,I,I,I,I,I,I,I,I,I,I,I,I,I,I,I,I,I,I,I,I,I,I,I,I,I,I,I,I,I,I,I,I,I,I,I,I,I,O] HT_ (h := ?_)
 refine pu_ 57 0 #[I,I,I,I,I,I,I,I,I,I,I,I,I,I,I,I,I,I,I,I,I,I,I,I,I,I,I,I,I,I,I,I,I,I,I,I,I,I,I,I,I,I,I,I,I,I,I,I,I,I,I,I,I,I,I,I,I,I] HT_ (h := ?_)
 refine done_ (done_of HT_.out (by kernel_rfl)) ?_
 go_wp2_with fail
 go_ret
 exact ⟨rfl, HB10.out⟩
end Go.Proofs.Ytiddkceahbnolaa
