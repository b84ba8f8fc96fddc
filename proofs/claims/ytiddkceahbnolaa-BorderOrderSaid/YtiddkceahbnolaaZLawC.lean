/- border's law: its own code, the last part: which districts are apart, how few streets are moved. -/
import Derived.Test.YtiddkceahbnolaaZRot
namespace Go.Proofs.Ytiddkceahbnolaa
open Go.RowKit Go.Shelf Go.Proofs.Ytiddkceahbnolaa.PBorderOrder Go.Proofs.YtiddkceahbnolaaW.PrintWords Go.Proofs.YtiddkceahbnolaaW.PrintLast Go.Proofs.YtiddkceahbnolaaW.PrintMore
set_option linter.all false
def lc.T37 : Bool × List (List Nat × List Nat) := (true, [([], []), ([0], [0]), ([], []), ([2, 1], [2]), ([1, 3, 3], [1, 3]), ([4], [4]), ([5], [5]), ([5], [5]), ([5], [5]), ([6, 4, 0, 1, 2, 3, 4, 5, 6], [6]), ([7, 9, 0, 1, 2, 3, 4, 5, 6, 7, 9], [7]), ([8, 10, 0, 1, 2, 3, 4, 5, 6, 7, 8, 9, 10], [8])])
def lc.B37 : List Nat := [0, 1, 0, 7, 15, 31, 63, 63, 63, 127, 767, 2047]
theorem lc.tab37 : rtab .any (opsOf Try.f4 37) = lc.T37 := by kernel_rfl
theorem lc.bits37 : waitsOk lc.T37.2 lc.B37 = true := by kernel_rfl
def lc.T38 : Bool × List (List Nat × List Nat) := (true, [([], []), ([0], [0]), ([], []), ([2, 1], [2]), ([1, 3, 3], [1, 3]), ([4], [4]), ([5], [5]), ([5], [5]), ([5], [5]), ([6, 4, 0, 1, 2, 3, 4, 5, 6], [6]), ([7, 9, 0, 1, 2, 3, 4, 5, 6, 7, 9], [7]), ([8, 10, 0, 1, 2, 3, 4, 5, 6, 7, 8, 9, 10], [8])])
def lc.B38 : List Nat := [0, 1, 0, 7, 15, 31, 63, 63, 63, 127, 767, 2047]
theorem lc.tab38 : rtab .any (opsOf Try.f4 38) = lc.T38 := by kernel_rfl
theorem lc.bits38 : waitsOk lc.T38.2 lc.B38 = true := by kernel_rfl
def rightN : Nat → Code → Code
 | 0, c => c
 | n + 1, .seq _ b => rightN n b
 | _, c => c
def leftOf : Code → Code
 | .seq a _ => a
 | c => c
/-- The law's code behind so many statements. -/
noncomputable def lawT (n : Nat) : Code := rightN n ((Try.f4.body).getD .skip)
/-- The frame of the law, seven of its slots named. -/
def lawFr (p2 p3 p4 p5 p9 p10 p11 : Value) (u : Nat → Value) : Array Value := #[u 0,u 1,p2,p3,p4,p5,u 6,u 7,u 8,p9,p10,p11,u 12,u 13,u 14,u 15,u 16,u 17,u 18,u 19,u 20,u 21,u 22,u 23,u 24,u 25,u 26,u 27,u 28,u 29,u 30,u 31,u 32,u 33,u 34,u 35,u 36,u 37,u 38,u 39,u 40,u 41,u 42,u 43,u 44,u 45,u 46,u 47,u 48,u 49,u 50,u 51,u 52,u 53,u 54,u 55,u 56,u 57,u 58,u 59,u 60,u 61,u 62,u 63,u 64,u 65,u 66,u 67,u 68,u 69,u 70,u 71,u 72,u 73,u 74,u 75,u 76,u 77,u 78,u 79,u 80,u 81,u 82,u 83,u 84,u 85,u 86,u 87,u 88,u 89,u 90,u 91,u 92,u 93,u 94,u 95,u 96,u 97,u 98,u 99,u 100,u 101,u 102,u 103,u 104,u 105,u 106,u 107,u 108,u 109,u 110,u 111,u 112,u 113,u 114,u 115,u 116,u 117,u 118,u 119,u 120,u 121,u 122,u 123,u 124,u 125,u 126,u 127,u 128,u 129,u 130,u 131,u 132,u 133,u 134,u 135,u 136,u 137,u 138,u 139,u 140,u 141,u 142,u 143,u 144,u 145,u 146,u 147,u 148,u 149,u 150,u 151,u 152,u 153,u 154,u 155,u 156,u 157,u 158,u 159,u 160,u 161,u 162,u 163,u 164,u 165,u 166,u 167,u 168,u 169,u 170,u 171,u 172,u 173,u 174,u 175,u 176,u 177,u 178,u 179,u 180,u 181,u 182,u 183,u 184,u 185,u 186,u 187,u 188,u 189,u 190,u 191,u 192,u 193,u 194,u 195,u 196,u 197,u 198,u 199,u 200,u 201,u 202,u 203,u 204,u 205,u 206,u 207,u 208,u 209,u 210,u 211,u 212,u 213,u 214,u 215,u 216,u 217,u 218,u 219,u 220,u 221,u 222,u 223,u 224,u 225,u 226,u 227,u 228,u 229,u 230,u 231,u 232,u 233,u 234,u 235,u 236,u 237,u 238,u 239,u 240,u 241,u 242,u 243,u 244,u 245,u 246,u 247,u 248,u 249,u 250,u 251,u 252,u 253,u 254,u 255,u 256,u 257,u 258,u 259,u 260]
/-- The law's end. -/
def lawQ (w0 : World) : Exit → Act → World → Prop := bodyPost Try.prog Try.f4 (fun e w' => e = .returned (.bool true) ∧ Below w0.heap.size w0 w')
/-- What the law keeps behind its first loop: both maps, the limits. -/
structure LS (w0 w : World) (A0 : Option Addr) (c0 : Nat) (old : List Int) (nw : Int) (A2 : Option Addr) (c2 : Nat) (rs : List S118) (A3 : Option Addr) (c3 : Nat) (rj : List S62) (lo hi : Int) (b11 : Nat) (X0 : Option Addr) (x0 : Nat) (X2 : Option Addr) (x2 : Nat) (rs2 : List S118) (X3 : Option Addr) (x3 : Nat) (xs : List S62) : Prop where
 below : Below w0.heap.size w0 w
 b4 : Blk w w0.heap.size [.slice A0 old.length c0, .int .i64 nw, .slice A2 rs.length c2, .slice A3 rj.length c3] 57
 b5 : Blk w (w0.heap.size + 1) [.int .i64 lo, .int .i64 hi] 58
 b11 : Blk w b11 [.slice X0 old.length x0, .int .i64 nw, .slice X2 rs2.length x2, .slice X3 xs.length x3] 57
 k0 : (Kd.int .i64).C w A0 old.length old
 k2 : k118.C w A2 rs.length rs
 k3 : k62.C w A3 rj.length rj
 m0 : (Kd.int .i64).C w X0 old.length old
 m2 : k118.C w X2 rs2.length rs2
 m3 : k62.C w X3 xs.length xs
theorem LS.later {w0 w : World} {A0 : Option Addr} {c0 : Nat} {old : List Int} {nw : Int} {A2 : Option Addr} {c2 : Nat} {rs : List S118} {A3 : Option Addr} {c3 : Nat} {rj : List S62} {lo hi : Int} {b11 : Nat} {X0 : Option Addr} {x0 : Nat} {X2 : Option Addr} {x2 : Nat} {rs2 : List S118} {X3 : Option Addr} {x3 : Nat} {xs : List S62} {w' : World} (h : LS w0 w A0 c0 old nw A2 c2 rs A3 c3 rj lo hi b11 X0 x0 X2 x2 rs2 X3 x3 xs) (hb : Below w.heap.size w w') : LS w0 w' A0 c0 old nw A2 c2 rs A3 c3 rj lo hi b11 X0 x0 X2 x2 rs2 X3 x3 xs :=
 ⟨h.below.trans (hb.mono h.below.size), h.b4.below hb, h.b5.below hb, h.b11.below hb, Kd.C_below h.k0 hb, Kd.C_below h.k2 hb, Kd.C_below h.k3 hb, Kd.C_below h.m0 hb, Kd.C_below h.m2 hb, Kd.C_below h.m3 hb⟩
theorem apart_len (old : List Int) (nw : Int) (ss : List S115) (js : List S119) : (apartF old nw ss js).1.length ≤ 1000 := by
 unfold apartF
 by_cases h : chkB old nw ss js = 0
 ·rw [if_pos h]
  obtain ⟨_, _, _, _, _, _, _, hn4, _⟩ := chkB_ok h
  show (castL (apartAt ss js nw.toNat)).length ≤ 1000
  unfold castL apartAt
  rw [List.length_map]
  have := List.length_filter_le (apartB ss js) (List.range nw.toNat)
  rw [List.length_range] at this
  omega
 ·rw [if_neg h]
  exact Nat.zero_le _
/-- The sizes that the law speaks of. -/
structure LZ (old : List Int) (rs rs2 : List S118) (rj xs : List S62) : Prop where
 ho : old.length ≤ 1000
 hs1 : rs.length ≤ 1000
 hs2 : rs2.length ≤ 1000
 hj1 : rj.length ≤ 1000
 hj2 : xs.length ≤ 1000
set_option maxRecDepth 100000 in
set_option maxHeartbeats 40000000 in
theorem lawC_wp {w0 w : World} {A0 : Option Addr} {c0 : Nat} {old : List Int} {nw : Int} {A2 : Option Addr} {c2 : Nat} {rs : List S118} {A3 : Option Addr} {c3 : Nat} {rj : List S62} {lo hi : Int} {b11 : Nat} {X0 : Option Addr} {x0 : Nat} {X2 : Option Addr} {x2 : Nat} {rs2 : List S118} {X3 : Option Addr} {x3 : Nat} {xs : List S62} {s t : Nat → Nat} (a : Act) (ha : a = { tmps := lawFr (a.tmps.getD 2 undef) (a.tmps.getD 3 undef) (.pointer (some ⟨w0.heap.size, 0, none⟩)) (.pointer (some ⟨w0.heap.size + 1, 0, none⟩)) (a.tmps.getD 9 undef) (a.tmps.getD 10 undef) (.pointer (some ⟨b11, 0, none⟩)) (fun i => a.tmps.getD i undef), defers := [] }) (L : LS w0 w A0 c0 old nw A2 c2 rs A3 c3 rj lo hi b11 X0 x0 X2 x2 rs2 X3 x3 xs) (hz : LZ old rs rs2 rj xs) (hsm : SameM (rs.map cvS) (rs2.map cvS) (rj.map cvJ) (xs.map cvJ) s t)
  (K : Act → World → Prop) (hK : ∀ a' w', Code.wp Try.prog (lawT 16) (lawQ w0) a' w' → K a' w') : Code.wp Try.prog (leftOf (lawT 15)) (Exit.then K (lawQ w0)) a w := by
 obtain ⟨ho1, hs1, hs2, hj1, hj2⟩ := hz
 obtain ⟨ss, hss⟩ : ∃ l, rs.map cvS = l := ⟨_, rfl⟩
 obtain ⟨ss2, hss2⟩ : ∃ l, rs2.map cvS = l := ⟨_, rfl⟩
 obtain ⟨js, hjs⟩ : ∃ l, rj.map cvJ = l := ⟨_, rfl⟩
 obtain ⟨js2, hjs2⟩ : ∃ l, xs.map cvJ = l := ⟨_, rfl⟩
 rw [hss, hss2, hjs, hjs2] at hsm
 have HSS := Aside0.mk hss
 have HSS2 := Aside0.mk hss2
 have HJS := Aside0.mk hjs
 have HJS2 := Aside0.mk hjs2
 obtain ⟨⟨qa, ea⟩, hqa⟩ : ∃ x, apartF old nw ss js = x := ⟨_, rfl⟩
 have HA1 := Aside0.mk hqa
 have HA2 := Aside0.mk (hqa ▸ hsm.apart old nw : apartF old nw ss2 js2 = (qa, ea))
 obtain ⟨⟨mb, eb⟩, hqb⟩ : ∃ x, (bestF old nw ss js lo hi).2 = x := ⟨_, rfl⟩
 have HE1 := Aside0.mk hqb
 have HE2 := Aside0.mk (hqb ▸ hsm.best old nw lo hi : (bestF old nw ss2 js2 lo hi).2 = (mb, eb))
 have HQL := Aside0.mk (show qa.length ≤ 1000 by
  have h1 : (apartF old nw ss js).1 = qa := by rw [hqa]
  rw [← h1]
  exact apart_len old nw ss js)
 have HL := Aside0.mk L
 clear hss hss2 hjs hjs2 hsm hqa hqb L
 obtain ⟨u, hu⟩ : ∃ u : Nat → Value, a = { tmps := lawFr (u 2) (u 3) (.pointer (some ⟨w0.heap.size, 0, none⟩)) (.pointer (some ⟨w0.heap.size + 1, 0, none⟩)) (u 9) (u 10) (.pointer (some ⟨b11, 0, none⟩)) u, defers := [] } := ⟨fun i => a.tmps.getD i undef, ha⟩
 clear ha
 subst hu
 unfold lawFr
 unfold lawT lawQ at hK ⊢
 conv at hK => enter [a, w, 1, 2]; whnf
 conv => arg 2; whnf
 have h40 := HL.out.b4.cell 0
 have h41 := HL.out.b4.cell 1
 have h42 := HL.out.b4.cell 2
 have h43 := HL.out.b4.cell 3
 simp only [sb3, sb4] at h40 h41 h42 h43
 go_wp2_with fail
 refine (Map_calls nw w HL.out.k0 HL.out.k2 HL.out.k3 ho1 hs1 hj1 ss js HSS.out HJS.out).mono ?_
 rintro e w1 ⟨⟨Y0, y0, Y2, y2, Y3, y3, rfl, hM⟩, hb⟩
 have HM := Aside0.mk hM
 have L1 := Aside0.mk (HL.out.later hb)
 clear hM hb HL h40 h41 h42 h43
 go_wp2_with fail
 refine (Apart_calls (nw := nw) HM.out).mono ?_
 rintro e w2 ⟨⟨va, rfl, hRa⟩, hb⟩
 rw [HA1.out] at hRa ⊢
 dsimp only at hRa ⊢
 obtain ⟨Aa, ca, rfl, hca, hCa⟩ := Kd.R_reads hRa
 have HCA := Aside0.mk hCa
 have L2 := Aside0.mk (L1.out.later hb)
 have hm0 := L2.out.b11.cell 0
 have hm1 := L2.out.b11.cell 1
 have hm2 := L2.out.b11.cell 2
 have hm3 := L2.out.b11.cell 3
 simp only [sb3, sb4] at hm0 hm1 hm2 hm3
 clear hRa hCa hb L1 HM
 go_wp2_with fail
 refine (Map_calls nw w2 L2.out.m0 L2.out.m2 L2.out.m3 ho1 hs2 hj2 ss2 js2 HSS2.out HJS2.out).mono ?_
 rintro e w3 ⟨⟨Y4, y4, Y5, y5, Y6, y6, rfl, hM⟩, hb⟩
 have HM := Aside0.mk hM
 have L3 := Aside0.mk (L2.out.later hb)
 have HCA3 := Aside0.mk (Kd.C_below HCA.out hb)
 clear hM hb L2 hm0 hm1 hm2 hm3 HCA
 go_wp2_with fail
 refine (Apart_calls (nw := nw) HM.out).mono ?_
 rintro e w4 ⟨⟨vb, rfl, hRb⟩, hb⟩
 rw [HA2.out] at hRb ⊢
 dsimp only at hRb ⊢
 obtain ⟨Ab, cb, rfl, hcb, hCb⟩ := Kd.R_reads hRb
 have HCB := Aside0.mk hCb
 have L4 := Aside0.mk (L3.out.later hb)
 have HCA4 := Aside0.mk (Kd.C_below HCA3.out hb)
 clear hRb hCb hb L3 HM HCA3
 go_wp2_with fail
 refine (ints_calls HCA4.out hca HCB.out hcb (qa.length + 1) true (ints_same qa HQL.out)).mono ?_
 rintro e W1 ⟨rfl, hb⟩
 have La := Aside0.mk (L4.out.later hb)
 clear hb L4 HCA4 HCB
 go_wp2_with fail
 refine start_ (n := 12) (S := fun w' => w'.cell? ⟨w0.heap.size, 0, none⟩ = some (.slice A0 old.length c0) ∧ w'.cell? ⟨w0.heap.size, 1, none⟩ = some (.int .i64 nw) ∧ w'.cell? ⟨w0.heap.size, 2, none⟩ = some (.slice A2 rs.length c2) ∧ w'.cell? ⟨w0.heap.size, 3, none⟩ = some (.slice A3 rj.length c3) ∧ w'.cell? ⟨w0.heap.size + 1, 0, none⟩ = some (.int .i64 lo) ∧ w'.cell? ⟨w0.heap.size + 1, 1, none⟩ = some (.int .i64 hi)) (ds := [3, 4]) #[O,O,O,O,O,O,O,O,O,O,O,O] (by kernel_rfl) rfl rfl ⟨(by simpa using La.out.b4.cell 0), (by simpa using La.out.b4.cell 1), (by simpa using La.out.b4.cell 2), (by simpa using La.out.b4.cell 3), (by simpa using La.out.b5.cell 0), (by simpa using La.out.b5.cell 1)⟩ (fun hHeld => ?_); refine with_tabW lc.tab37 lc.bits37 (fun HT_ HW_ => ?_)
 have Ld := Aside0.mk (La.out.later (below_drew (Below.refl _ _)))
 clear La
 generalize W1.drew = wd at Ld hHeld ⊢
 refine ta_ 0 233 #[I,O,O,O,O,O,O,O,O,O,O,O] HT_ HW_ hHeld (hy := by (rintro w' ⟨s0, s1, s2, s3, s4, s5⟩; go_simp; with_reducible rfl)) (h := ?_)
 refine ta_ 2 235 #[I,O,I,O,O,O,O,O,O,O,O,O] HT_ HW_ hHeld (hy := by (rintro w' ⟨s0, s1, s2, s3, s4, s5⟩; go_simp; with_reducible rfl)) (h := ?_)
 refine one_ (i := 1) (N := some 234) #[I,I,I,O,O,O,O,O,O,O,O,O] rfl rfl (one_of HT_.out (by kernel_rfl)) (by decide) (fun K hK => ?_)
 refine goes_ Try.func20 (by kernel_rfl) rfl #[.agg #[.slice A0 old.length c0, .int .i64 nw, .slice A2 rs.length c2, .slice A3 rj.length c3]] (by rfl) rfl rfl (by (try simp only [List.map_toArray, List.map_cons, List.map_nil]); rfl) ?_
 refine (Map_calls nw _ Ld.out.k0 Ld.out.k2 Ld.out.k3 ho1 hs1 hj1 ss js HSS.out HJS.out).mono ?_
 rintro e_ w_ ⟨⟨Y0, y0, Y2, y2, Y3, y3, rfl, hM⟩, hbx⟩
 have HM := Aside0.mk hM
 have Le := Aside0.mk (Ld.out.later hbx)
 refine ⟨_, rfl, hK.out _ _ ⟨(by simpa using Le.out.b4.cell 0), (by simpa using Le.out.b4.cell 1), (by simpa using Le.out.b4.cell 2), (by simpa using Le.out.b4.cell 3), (by simpa using Le.out.b5.cell 0), (by simpa using Le.out.b5.cell 1)⟩ (fun hHeld => ?_)⟩
 clear hK K hM hbx Ld
 refine norm_ (by simp only [Act.put, sb0, sb1, sb2]; rfl) ?_
 refine last_ (i := 3) (N := some 236) #[I,I,I,I,O,O,O,O,O,O,O,O] rfl rfl (one_of HT_.out (by kernel_rfl)) (by decide) (fun K hK => ?_)
 refine goes_ Try.func25 (by kernel_rfl) rfl #[.agg #[.int .i64 lo, .int .i64 hi]] (by rfl) rfl rfl (by (try simp only [List.map_toArray, List.map_cons, List.map_nil]); rfl) ?_
 refine (to11_calls lo hi _).mono ?_
 rintro e_ w_2 ⟨rfl, hbx⟩
 have HM2 := Aside0.mk (HM.out.below hbx)
 have Lf := Aside0.mk (Le.out.later hbx)
 refine ⟨_, rfl, hK.out _ _ ?_⟩
 clear hK K hbx Le HM
 refine norm_ (by simp only [Act.put, sb0, sb1, sb2]; rfl) ?_
 refine last_ (i := 4) (N := some 237) #[I,I,I,I,I,O,O,O,O,O,O,O] rfl rfl (one_of HT_.out (by kernel_rfl)) (by decide) (fun K hK => ?_)
 refine goes_ Try.func24 (by kernel_rfl) rfl #[.agg #[.slice Y0 old.length y0, .int .i64 nw, .slice Y2 ss.length y2, .slice Y3 js.length y3], .agg #[.int .i64 lo, .int .i64 hi]] (by rfl) rfl rfl (by (try simp only [List.map_toArray, List.map_cons, List.map_nil]); rfl) ?_
 refine (Best_calls (nw := nw) HM2.out lo hi).mono ?_
 rintro e_ w_3 ⟨⟨v_, rfl, hR_⟩, hbx⟩
 obtain ⟨Ab, nb, cb, rfl⟩ := slice_of hR_
 have Lg := Aside0.mk (Lf.out.later hbx)
 have hE := HE1.out
 rw [hE]
 dsimp only
 refine ⟨_, rfl, hK.out _ _ ?_⟩
 clear hK K hbx hR_ hE Lf HM2
 refine norm_ (by simp only [Act.put, sb0, sb1, sb2]; rfl) ?_
 refine pu_ 5 232 #[I,I,I,I,I,I,O,O,O,O,O,O] HT_ (h := ?_)
 refine pu_ 6 238 #[I,I,I,I,I,I,I,O,O,O,O,O] HT_ (h := ?_)
 refine pu_ 7 239 #[I,I,I,I,I,I,I,I,O,O,O,O] HT_ (h := ?_)
 refine pu_ 8 240 #[I,I,I,I,I,I,I,I,I,O,O,O] HT_ (h := ?_)
 refine pu_ 9 24 #[I,I,I,I,I,I,I,I,I,I,O,O] HT_ (h := ?_)
 refine pu_ 10 25 #[I,I,I,I,I,I,I,I,I,I,I,O] HT_ (h := ?_)
 refine pu_ 11 15 #[I,I,I,I,I,I,I,I,I,I,I,I] HT_ (h := ?_)
 refine done_ (done_of HT_.out (by kernel_rfl)) ?_
 go_wp2_with fail
 have La := Lg
 clear Lg
 generalize hW1 : w_3 = W1 at La ⊢
 clear hW1
 refine start_ (n := 12) (S := fun w' => w'.cell? ⟨b11, 0, none⟩ = some (.slice X0 old.length x0) ∧ w'.cell? ⟨b11, 1, none⟩ = some (.int .i64 nw) ∧ w'.cell? ⟨b11, 2, none⟩ = some (.slice X2 rs2.length x2) ∧ w'.cell? ⟨b11, 3, none⟩ = some (.slice X3 xs.length x3) ∧ w'.cell? ⟨w0.heap.size + 1, 0, none⟩ = some (.int .i64 lo) ∧ w'.cell? ⟨w0.heap.size + 1, 1, none⟩ = some (.int .i64 hi)) (ds := [3, 4]) #[O,O,O,O,O,O,O,O,O,O,O,O] (by kernel_rfl) rfl rfl ⟨(by simpa using La.out.b11.cell 0), (by simpa using La.out.b11.cell 1), (by simpa using La.out.b11.cell 2), (by simpa using La.out.b11.cell 3), (by simpa using La.out.b5.cell 0), (by simpa using La.out.b5.cell 1)⟩ (fun hHeld => ?_); refine with_tabW lc.tab38 lc.bits38 (fun HT_ HW_ => ?_)
 have Ld := Aside0.mk (La.out.later (below_drew (Below.refl _ _)))
 clear La
 generalize W1.drew = wd at Ld hHeld ⊢
 refine ta_ 0 242 #[I,O,O,O,O,O,O,O,O,O,O,O] HT_ HW_ hHeld (hy := by (rintro w' ⟨s0, s1, s2, s3, s4, s5⟩; go_simp; with_reducible rfl)) (h := ?_)
 refine ta_ 2 244 #[I,O,I,O,O,O,O,O,O,O,O,O] HT_ HW_ hHeld (hy := by (rintro w' ⟨s0, s1, s2, s3, s4, s5⟩; go_simp; with_reducible rfl)) (h := ?_)
 refine one_ (i := 1) (N := some 243) #[I,I,I,O,O,O,O,O,O,O,O,O] rfl rfl (one_of HT_.out (by kernel_rfl)) (by decide) (fun K hK => ?_)
 refine goes_ Try.func20 (by kernel_rfl) rfl #[.agg #[.slice X0 old.length x0, .int .i64 nw, .slice X2 rs2.length x2, .slice X3 xs.length x3]] (by rfl) rfl rfl (by (try simp only [List.map_toArray, List.map_cons, List.map_nil]); rfl) ?_
 refine (Map_calls nw _ Ld.out.m0 Ld.out.m2 Ld.out.m3 ho1 hs2 hj2 ss2 js2 HSS2.out HJS2.out).mono ?_
 rintro e_ w_ ⟨⟨Y0, y0, Y2, y2, Y3, y3, rfl, hM⟩, hbx⟩
 have HM := Aside0.mk hM
 have Le := Aside0.mk (Ld.out.later hbx)
 refine ⟨_, rfl, hK.out _ _ ⟨(by simpa using Le.out.b11.cell 0), (by simpa using Le.out.b11.cell 1), (by simpa using Le.out.b11.cell 2), (by simpa using Le.out.b11.cell 3), (by simpa using Le.out.b5.cell 0), (by simpa using Le.out.b5.cell 1)⟩ (fun hHeld => ?_)⟩
 clear hK K hM hbx Ld
 refine norm_ (by simp only [Act.put, sb0, sb1, sb2]; rfl) ?_
 refine last_ (i := 3) (N := some 245) #[I,I,I,I,O,O,O,O,O,O,O,O] rfl rfl (one_of HT_.out (by kernel_rfl)) (by decide) (fun K hK => ?_)
 refine goes_ Try.func25 (by kernel_rfl) rfl #[.agg #[.int .i64 lo, .int .i64 hi]] (by rfl) rfl rfl (by (try simp only [List.map_toArray, List.map_cons, List.map_nil]); rfl) ?_
 refine (to11_calls lo hi _).mono ?_
 rintro e_ w_2 ⟨rfl, hbx⟩
 have HM2 := Aside0.mk (HM.out.below hbx)
 have Lf := Aside0.mk (Le.out.later hbx)
 refine ⟨_, rfl, hK.out _ _ ?_⟩
 clear hK K hbx Le HM
 refine norm_ (by simp only [Act.put, sb0, sb1, sb2]; rfl) ?_
 refine last_ (i := 4) (N := some 246) #[I,I,I,I,I,O,O,O,O,O,O,O] rfl rfl (one_of HT_.out (by kernel_rfl)) (by decide) (fun K hK => ?_)
 refine goes_ Try.func24 (by kernel_rfl) rfl #[.agg #[.slice Y0 old.length y0, .int .i64 nw, .slice Y2 ss2.length y2, .slice Y3 js2.length y3], .agg #[.int .i64 lo, .int .i64 hi]] (by rfl) rfl rfl (by (try simp only [List.map_toArray, List.map_cons, List.map_nil]); rfl) ?_
 refine (Best_calls (nw := nw) HM2.out lo hi).mono ?_
 rintro e_ w_3 ⟨⟨v_, rfl, hR_⟩, hbx⟩
 obtain ⟨Ab, nb, cb, rfl⟩ := slice_of hR_
 have Lg := Aside0.mk (Lf.out.later hbx)
 have hE := HE2.out
 rw [hE]
 dsimp only
 refine ⟨_, rfl, hK.out _ _ ?_⟩
 clear hK K hbx hR_ hE Lf HM2
 refine norm_ (by simp only [Act.put, sb0, sb1, sb2]; rfl) ?_
 refine pu_ 5 241 #[I,I,I,I,I,I,O,O,O,O,O,O] HT_ (h := ?_)
 refine pu_ 6 247 #[I,I,I,I,I,I,I,O,O,O,O,O] HT_ (h := ?_)
 refine pu_ 7 248 #[I,I,I,I,I,I,I,I,O,O,O,O] HT_ (h := ?_)
 refine pu_ 8 249 #[I,I,I,I,I,I,I,I,I,O,O,O] HT_ (h := ?_)
 refine pu_ 9 26 #[I,I,I,I,I,I,I,I,I,I,O,O] HT_ (h := ?_)
 refine pu_ 10 27 #[I,I,I,I,I,I,I,I,I,I,I,O] HT_ (h := ?_)
 refine pu_ 11 17 #[I,I,I,I,I,I,I,I,I,I,I,I] HT_ (h := ?_)
 refine done_ (done_of HT_.out (by kernel_rfl)) ?_
 go_wp2_with fail
 refine (awake_calls _).mono ?_
 rintro e wz ⟨rfl, hb⟩
 have Lz := Aside0.mk (Lg.out.later hb)
 clear hb Lg
 go_wp2_with fail
 go_ret
 exact ⟨rfl, Lz.out.below⟩
end Go.Proofs.Ytiddkceahbnolaa
