/- border's law: list, Map. -/
import Derived.Test.YtiddkceahbnolaaZAwk
namespace Go.Proofs.Ytiddkceahbnolaa
open Go.RowKit Go.Shelf Go.Proofs.Ytiddkceahbnolaa.PBorderOrder Go.Proofs.YtiddkceahbnolaaW.PrintWords Go.Proofs.YtiddkceahbnolaaW.PrintLast Go.Proofs.YtiddkceahbnolaaW.PrintMore
set_option linter.all false
def mp.T1 : Bool × List (List Nat × List Nat) := (true, [([], []), ([0], [0]), ([1], [1]), ([], []), ([3], [3]), ([2, 4], [2, 4]), ([], []), ([6, 5, 2, 0, 1, 2, 3, 4, 5, 6], [5, 6])])
def mp.B1 : List Nat := [0, 1, 3, 0, 8, 31, 0, 127]
theorem mp.tab1 : rtab .any (opsOf Try.f20 1) = mp.T1 := by kernel_rfl
theorem mp.bits1 : waitsOk mp.T1.2 mp.B1 = true := by kernel_rfl
def mp.T6 : Bool × List (List Nat × List Nat) := (true, [([], []), ([0], [0]), ([], []), ([2], [2]), ([], []), ([4], [4]), ([], []), ([6], [6]), ([], []), ([8], [8]), ([9], [9]), ([3, 5, 7, 10], [3, 5, 7, 10]), ([11], [11]), ([1, 12, 10], [1, 12]), ([0, 1, 2, 3, 4, 5, 6, 7, 8, 9, 10, 11, 12, 13], []), ([14, 13, 13, 0, 1, 2, 3, 4, 5, 6, 7, 8, 9, 10, 11, 12, 13], [13, 14])])
def mp.B6 : List Nat := [0, 1, 0, 4, 0, 16, 0, 64, 0, 256, 768, 2044, 4092, 8191, 16383, 32767]
theorem mp.tab6 : rtab .any (opsOf Try.f20 6) = mp.T6 := by kernel_rfl
theorem mp.bits6 : waitsOk mp.T6.2 mp.B6 = true := by kernel_rfl
def mp.T10 : Bool × List (List Nat × List Nat) := (true, [([], []), ([0], [0]), ([], []), ([2], [2]), ([], []), ([3, 4], [3, 4]), ([5], [5]), ([6], [6]), ([], []), ([8], [8]), ([], []), ([9, 10], [9, 10]), ([11], [11]), ([12], [12]), ([7, 13], [7, 13]), ([14], [14]), ([1, 15], [1, 15]), ([0, 1, 2, 3, 4, 5, 6, 7, 8, 9, 10, 11, 12, 13, 14, 15, 16], []), ([17, 16, 16, 0, 1, 2, 3, 4, 5, 6, 7, 8, 9, 10, 11, 12, 13, 14, 15, 16], [16, 17])])
def mp.B10 : List Nat := [0, 1, 0, 4, 0, 28, 60, 124, 0, 256, 0, 1792, 3840, 7936, 16380, 32764, 65535, 131071, 262143]
theorem mp.tab10 : rtab .any (opsOf Try.f20 10) = mp.T10 := by kernel_rfl
theorem mp.bits10 : waitsOk mp.T10.2 mp.B10 = true := by kernel_rfl
theorem slice_inj {A B : Option Addr} {n m c d : Nat} (h : Value.slice A n c = Value.slice B m d) : A = B ∧ n = m ∧ c = d := by
 injection h with h1 h2 h3
 exact ⟨h1, h2, h3⟩
theorem infoStreet : (Try.prog.info? 115).map (fun i => (i.zero, i.size, i.bytes)) = some (some (.agg #[.int .i64 0, .int .i64 0, .int .i64 0, .int .i64 0, .int .i64 0]), 5, 40) := by kernel_rfl
theorem infoJoin : (Try.prog.info? 119).map (fun i => (i.zero, i.size, i.bytes)) = some (some (.agg #[.int .i64 0, .int .i64 0]), 2, 16) := by kernel_rfl
set_option maxRecDepth 100000 in
set_option maxHeartbeats 4000000 in
theorem list11_calls {A : Option Addr} {c : Nat} {xs : List Int} (w : World) (hC : (Kd.int .i64).C w A xs.length xs) (hx : xs.length ≤ 1000) :
  Calls Try.prog 53 #[.slice A xs.length c] w fun e w' => ∃ v, e = .returned v ∧ (Kd.int .i64).R 3 w' w.heap.size (fun _ => True) v xs ∧ Below w.heap.size w w' := by
 have HC := Aside0.mk hC
 clear hC
 go_enter Try.func53, Try.ntmps53
 go_wp2_with ((with_reducible refine gate_builtin (b := .append) (xs := #[.const (.slice none 0 0), .tmp 3]) rfl ?_); refine Kd.R_append_rows (Kd.int .i64) (w0 := w) w.heap.size rfl (.const (.slice none 0 0)) (.tmp 3) 26 3 (.int .i64 0) 8 rfl Try.underlying26 info3 rfl (by decide) (by omega) (.slice none 0 0) [] xs _ _ _ (fun _ => True) (fun _ => False) rfl rfl (Kd.R_nil _ _ _ _ _) HC.out (fun x cs h => h) (fun _ hk => hk.elim) (fun _ _ => trivial) (Below.refl _ _) (Nat.le_refl _) ?aL ?_; (case aL => (simp only [List.length_nil]; omega)); intro vn wn hon hbn hgn hatn; have HRn := Aside0.mk hon; have HBn := Aside0.mk hbn; clear hon hbn hgn hatn)
 go_ret
 exact ⟨_, rfl, HRn.out, HBn.out⟩
theorem to11_calls (a b : Int) (w : World) : Calls Try.prog 25 #[.agg #[.int .i64 a, .int .i64 b]] w fun e w' => e = .returned (.agg #[.int .i64 a, .int .i64 b]) ∧ Below w.heap.size w w' := tithinglaw11_to.calls a b a b w rfl
def cvS (x : S118) : S115 := ⟨x.f0, x.f1, x.f2, ⟨x.f3.f0, x.f3.f1⟩⟩
def cvJ (x : S62) : S119 := ⟨x.f0, x.f1⟩
set_option maxRecDepth 100000 in
set_option maxHeartbeats 40000000 in
theorem Map_calls {A0 : Option Addr} {c0 : Nat} {old : List Int} (nw : Int) {A2 : Option Addr} {c2 : Nat} {rs : List S118} {A3 : Option Addr} {c3 : Nat} {rj : List S62} (w : World)
  (h0 : (Kd.int .i64).C w A0 old.length old) (h2 : k118.C w A2 rs.length rs) (h3 : k62.C w A3 rj.length rj) (ho : old.length ≤ 1000) (hs : rs.length ≤ 1000) (hj : rj.length ≤ 1000) (ss : List S115) (js : List S119) (hss : rs.map cvS = ss) (hjs : rj.map cvJ = js) :
  Calls Try.prog 20 #[.agg #[.slice A0 old.length c0, .int .i64 nw, .slice A2 rs.length c2, .slice A3 rj.length c3]] w fun e w' => (∃ B0 d0 B2 d2 B3 d3, e = .returned (.agg #[.slice B0 old.length d0, .int .i64 nw, .slice B2 ss.length d2, .slice B3 js.length d3]) ∧ IsB w' B0 d0 old B2 d2 ss B3 d3 js) ∧ Below w.heap.size w w' := by
 have K0 := Aside0.mk h0
 have K2 := Aside0.mk h2
 have K3 := Aside0.mk h3
 have HSS := Aside0.mk hss
 have HJS := Aside0.mk hjs
 clear h0 h2 h3 hss hjs
 go_enter Try.func20, Try.ntmps20
 go_wp2_with fail
 have HB0 := Aside0.mk (below_alloc (below_alloc (Below.refl w.heap.size w) (.cells #[.slice A0 old.length c0, .int .i64 nw, .slice A2 rs.length c2, .slice A3 rj.length c3] 57)) (.cells #[.slice none 0 0, .int .i64 0, .slice none 0 0, .slice none 0 0] 69))
 have B10 := Aside0.mk ((Blk.new w [.slice A0 old.length c0, .int .i64 nw, .slice A2 rs.length c2, .slice A3 rj.length c3] 57).alloc (.cells #[.slice none 0 0, .int .i64 0, .slice none 0 0, .slice none 0 0] 69))
 have B20 := Aside0.mk (Blk.second w (.cells #[.slice A0 old.length c0, .int .i64 nw, .slice A2 rs.length c2, .slice A3 rj.length c3] 57) [.slice none 0 0, .int .i64 0, .slice none 0 0, .slice none 0 0] 69)
 have hs0 : w.heap.size + 1 < ((w.alloc (.cells #[.slice A0 old.length c0, .int .i64 nw, .slice A2 rs.length c2, .slice A3 rj.length c3] 57)).alloc (.cells #[.slice none 0 0, .int .i64 0, .slice none 0 0, .slice none 0 0] 69)).heap.size := by simp
 generalize (w.alloc (.cells #[.slice A0 old.length c0, .int .i64 nw, .slice A2 rs.length c2, .slice A3 rj.length c3] 57)).alloc (.cells #[.slice none 0 0, .int .i64 0, .slice none 0 0, .slice none 0 0] 69) = w0 at HB0 B10 B20 hs0 ⊢
 have h10 := B10.out.cell 0
 have h11 := B10.out.cell 1
 simp only [sb3, sb4] at h10 h11
 refine start_ (n := 8) (S := fun w' => w'.cell? ⟨w.heap.size, 0, none⟩ = some (.slice A0 old.length c0) ∧ w'.cell? ⟨w.heap.size, 1, none⟩ = some (.int .i64 nw)) (ds := [7]) #[O,O,O,O,O,O,O,O] (by kernel_rfl) rfl rfl ⟨(by simpa using (B10.out).cell 0), (by simpa using (B10.out).cell 1)⟩ (fun hHeld => ?_); refine with_tabW mp.tab1 mp.bits1 (fun HT_ HW_ => ?_)
 have B1d := Aside0.mk (B10.out.move rfl : Blk w0.drew _ _ _)
 have B2d := Aside0.mk (B20.out.move rfl : Blk w0.drew _ _ _)
 have HBd := Aside0.mk (below_drew HB0.out)
 have hsd : w.heap.size + 1 < w0.drew.heap.size := hs0
 clear B10 B20 HB0 h10 h11
 generalize w0.drew = wd at B1d B2d HBd hsd hHeld ⊢
 refine pu_ 0 7 #[I,O,O,O,O,O,O,O] HT_ (h := ?_)
 refine ta_ 1 8 #[I,I,O,O,O,O,O,O] HT_ HW_ hHeld (hy := by (rintro w' ⟨s0, s1⟩; go_simp; with_reducible rfl)) (h := ?_)
 refine pu_ 3 10 #[I,I,O,I,O,O,O,O] HT_ (h := ?_)
 refine ta_ 4 11 #[I,I,O,I,I,O,O,O] HT_ HW_ hHeld (hy := by (rintro w' ⟨s0, s1⟩; go_simp; with_reducible rfl)) (h := ?_)
 refine join_ (σ := Value × Nat) 1 #[I,I,I,I,I,I,I,O] (fun s => [(9, s.1), (12, .agg #[s.1, .int .i64 nw, .slice none 0 0, .slice none 0 0]), (3, .pointer (some ⟨s.2, 0, none⟩))]) (fun s w' => (Kd.int .i64).R 3 w' wd.heap.size (fun _ => True) s.1 old ∧ Blk w' s.2 [.slice none 0 0, .int .i64 0, .slice none 0 0, .slice none 0 0] 69 ∧ wd.heap.size ≤ s.2 ∧ Below wd.heap.size wd w') ?cont ?orders
 case orders =>
  intro hcont
  refine two_ (i := 2) (j := 6) (Ni := some 9) (Nj := some 3) #[I,I,I,I,I,O,O,O] #[I,I,O,I,I,O,I,O] rfl rfl rfl rfl (two_of HT_.out (by kernel_rfl)) (by decide) (by decide) (fun K hK => ?_) (fun K hK => ?_)
  ·refine goes_ Try.func53 (by kernel_rfl) rfl #[.slice A0 old.length c0] (by rfl) rfl rfl (by (try simp only [List.map_toArray, List.map_cons, List.map_nil]); rfl) ?_
   refine (list11_calls wd (Kd.C_below K0.out HBd.out) ho).mono ?_
   rintro e_ wc ⟨v_, rfl, hRl, hbx⟩
   obtain ⟨X0, n0, x0, rfl⟩ := slice_of hRl
   refine ⟨_, rfl, hK.out _ _ ⟨(by simpa using (B1d.out.below hbx).cell 0), (by simpa using (B1d.out.below hbx).cell 1)⟩ (fun _ => ?_)⟩
   clear hK K
   refine norm_ (by simp only [Act.put, sb0, sb1, sb2]; rfl) ?_
   refine pu_ 5 12 #[I,I,I,I,I,I,O,O] HT_ (h := ?_)
   refine one_ (i := 6) (N := some 3) #[I,I,I,I,I,I,I,O] rfl rfl (one_of HT_.out (by kernel_rfl)) (by decide) (fun K hK => ?_)
   refine value_ (w1 := ?_) (v := ?_) (by rfl) rfl ?_ ?_
   rotate_left 2
   ·go_simp
    constructor <;> rfl
   refine hK.out _ _ ⟨(by simpa using ((B1d.out.below hbx).alloc (.cells #[.slice none 0 0, .int .i64 0, .slice none 0 0, .slice none 0 0] 69)).cell 0), (by simpa using ((B1d.out.below hbx).alloc (.cells #[.slice none 0 0, .int .i64 0, .slice none 0 0, .slice none 0 0] 69)).cell 1)⟩ (fun _ => ?_)
   clear hK K
   have hfin := hcont (.slice X0 n0 x0, wc.heap.size) _ ⟨Kd.R_alloc hRl (.cells #[.slice none 0 0, .int .i64 0, .slice none 0 0, .slice none 0 0] 69), Blk.new wc [.slice none 0 0, .int .i64 0, .slice none 0 0, .slice none 0 0] 69, hbx.size, below_alloc hbx (.cells #[.slice none 0 0, .int .i64 0, .slice none 0 0, .slice none 0 0] 69)⟩
   refine norm_ ?_ hfin
   (simp only [putAll, Act.put, sb0, sb1, sb2]) <;> rfl
  ·refine value_ (w1 := ?_) (v := ?_) (by rfl) rfl ?_ ?_
   rotate_left 2
   ·go_simp
    constructor <;> rfl
   refine hK.out _ _ ⟨(by simpa using (B1d.out.alloc (.cells #[.slice none 0 0, .int .i64 0, .slice none 0 0, .slice none 0 0] 69)).cell 0), (by simpa using (B1d.out.alloc (.cells #[.slice none 0 0, .int .i64 0, .slice none 0 0, .slice none 0 0] 69)).cell 1)⟩ (fun _ => ?_)
   clear hK K
   have BL := Aside0.mk (Blk.new wd [.slice none 0 0, .int .i64 0, .slice none 0 0, .slice none 0 0] 69)
   have B1a := Aside0.mk (B1d.out.alloc (.cells #[.slice none 0 0, .int .i64 0, .slice none 0 0, .slice none 0 0] 69))
   have hBa := below_alloc (Below.refl wd.heap.size wd) (.cells #[.slice none 0 0, .int .i64 0, .slice none 0 0, .slice none 0 0] 69)
   refine norm_ (by simp only [Act.put, sb0, sb1, sb2]; rfl) ?_
   generalize wd.alloc (.cells #[.slice none 0 0, .int .i64 0, .slice none 0 0, .slice none 0 0] 69) = wa at BL B1a hBa ⊢
   refine one_ (i := 2) (N := some 9) #[I,I,I,I,I,O,I,O] rfl rfl (one_of HT_.out (by kernel_rfl)) (by decide) (fun K hK => ?_)
   refine goes_ Try.func53 (by kernel_rfl) rfl #[.slice A0 old.length c0] (by rfl) rfl rfl (by (try simp only [List.map_toArray, List.map_cons, List.map_nil]); rfl) ?_
   refine (list11_calls wa (Kd.C_below K0.out (HBd.out.trans (hBa.mono HBd.out.size))) ho).mono ?_
   rintro e_ wc ⟨v_, rfl, hRl, hbx⟩
   obtain ⟨X0, n0, x0, rfl⟩ := slice_of hRl
   refine ⟨_, rfl, hK.out _ _ ⟨(by simpa using (B1a.out.below hbx).cell 0), (by simpa using (B1a.out.below hbx).cell 1)⟩ (fun _ => ?_)⟩
   clear hK K
   refine norm_ (by simp only [Act.put, sb0, sb1, sb2]; rfl) ?_
   refine pu_ 5 12 #[I,I,I,I,I,I,I,O] HT_ (h := ?_)
   have hfin := hcont (.slice X0 n0 x0, wd.heap.size) _ ⟨Kd.R_lower hRl hBa.size, BL.out.below hbx, Nat.le_refl _, hBa.trans (hbx.mono hBa.size)⟩
   refine norm_ ?_ hfin
   (simp only [putAll, Act.put, sb0, sb1, sb2]) <;> rfl
 rintro ⟨v0, b3⟩ w6 ⟨hr0, hb3, hlo, hB6⟩
 dsimp only at hr0 hb3 hlo
 refine norm_ (by simp only [putAll, Act.put, sb0, sb1, sb2]; rfl) ?_
 have hR0 := Aside0.mk (Kd.R_types hr0 hb3 (by decide))
 have B16 := Aside0.mk (B1d.out.below hB6)
 have B26 := Aside0.mk (B2d.out.below hB6)
 have B36 := Aside0.mk hb3
 have HB6 := Aside0.mk (HBd.out.trans (hB6.mono HBd.out.size))
 obtain ⟨X0, n0, x0, rfl⟩ := slice_of hr0
 have hl3 := hb3.lt
 have hlw : w.heap.size + 1 < b3 := by omega
 clear hr0 hb3 hB6 B1d B2d HBd hHeld
 refine last_ (i := 7) (N := none) #[I,I,I,I,I,I,I,I] rfl rfl (one_of HT_.out (by kernel_rfl)) (by decide) (fun K hK => ?_)
 have hst_ := (show w6.cell? ⟨b3, 0, none⟩ = some (.slice none 0 0) by simpa using B36.out.cell 0)
 have hfr_ := B36.out.frozen 0
 have hst1_ : w6.cell? ⟨b3, 1, none⟩ = some (.int .i64 0) := by simpa using B36.out.cell 1
 have hst2_ : w6.cell? ⟨b3, 2, none⟩ = some (.slice none 0 0) := by simpa using B36.out.cell 2
 have hst3_ : w6.cell? ⟨b3, 3, none⟩ = some (.slice none 0 0) := by simpa using B36.out.cell 3
 have hfr1_ : w6.frozen? ⟨b3, 1, none⟩ = false := B36.out.frozen 1
 have hfr2_ : w6.frozen? ⟨b3, 2, none⟩ = false := B36.out.frozen 2
 have hfr3_ : w6.frozen? ⟨b3, 3, none⟩ = false := B36.out.frozen 3
 refine skip_ (w1 := ?_) (by rfl) rfl ?_ ?_
 rotate_left
 ·go_simp
  rfl
 refine hK.out _ _ ?_
 clear hK K hst_ hfr_ hst1_ hfr1_ hst2_ hfr2_ hst3_ hfr3_
 refine done_ (done_of HT_.out (by kernel_rfl)) ?_
 have B3L := Aside0.mk (show Blk _ b3 [.slice X0 n0 x0, .int .i64 nw, .slice none 0 0, .slice none 0 0] _ from blk_set (blk_set (blk_set (blk_set B36.out 0 (.slice X0 n0 x0)) 1 (.int .i64 nw)) 2 (.slice none 0 0)) 3 (.slice none 0 0))
 have HKL := Aside0.mk (((((Keep.refl w6.heap.size (fun b => b = b3) w6).setCell (p := ⟨b3, 0, none⟩) (.inl rfl) (.slice X0 n0 x0)).setCell (p := ⟨b3, 1, none⟩) (.inl rfl) (.int .i64 nw)).setCell (p := ⟨b3, 2, none⟩) (.inl rfl) (.slice none 0 0)).setCell (p := ⟨b3, 3, none⟩) (.inl rfl) (.slice none 0 0))
 have hsL : w6.heap.size = ((((w6.setCell ⟨b3, 0, none⟩ (.slice X0 n0 x0)).setCell ⟨b3, 1, none⟩ (.int .i64 nw)).setCell ⟨b3, 2, none⟩ (.slice none 0 0)).setCell ⟨b3, 3, none⟩ (.slice none 0 0)).heap.size := by simp only [size_set]
 clear B36 HT_ HW_
 generalize (((w6.setCell ⟨b3, 0, none⟩ (.slice X0 n0 x0)).setCell ⟨b3, 1, none⟩ (.int .i64 nw)).setCell ⟨b3, 2, none⟩ (.slice none 0 0)).setCell ⟨b3, 3, none⟩ (.slice none 0 0) = wL at B3L HKL hsL ⊢
 have B1L := Aside0.mk (B16.out.move (HKL.out.block _ (by omega) (by omega)))
 have B2L := Aside0.mk (B26.out.move (HKL.out.block _ (by omega) (by omega)))
 have hR0L := Aside0.mk (Kd.R_step hR0.out (fun k hk hlt => HKL.out.block k hlt (by simpa using hk)))
 have HBL := Aside0.mk (show Below w.heap.size w wL from ⟨HKL.out.os.trans HB6.out.os, HKL.out.tape.trans HB6.out.tape, HKL.out.output.trans HB6.out.output, Nat.le_trans HB6.out.size HKL.out.size, fun k hk => (HKL.out.block k (by omega) (by omega)).trans (HB6.out.block k hk)⟩)
 have hl3L : b3 < wL.heap.size := by omega
 have hwL : w.heap.size ≤ wL.heap.size := by omega
 clear HKL hsL B16 B26 hR0 HB6 hl3 hsd hs0 hlo
 have hlo : w.heap.size + 1 < b3 := hlw
 clear hlw
 go_wp2_with fail
 go_loopw [4] (fun v4 wr => ∃ (k : Nat) (v2 : Value), k ≤ rs.length ∧ v4 = .int .i64 k ∧ wL.heap.size ≤ wr.heap.size ∧ Aside0 (Keep wL.heap.size (fun b => b = b3) wL wr) ∧ Aside0 (Blk wr b3 [.slice X0 n0 x0, .int .i64 nw, v2, .slice none 0 0] 69) ∧ Aside0 (k115.R 115 wr wL.heap.size (fun b => wL.heap.size ≤ b) v2 ((rs.take k).map cvS))) (fun v4 _ => rs.length - (intOf v4).toNat)
 case atStart => exact ⟨0, .slice none 0 0, Nat.zero_le _, rfl, Nat.le_refl _, ⟨Keep.refl _ _ _⟩, B3L, ⟨Kd.R_nil _ _ _ _ _⟩⟩
 case round =>
  clear B3L
  obtain ⟨k, v2, hk, rfl, hsr, HK, B3, HR⟩ := hrel
  have B1 := Aside0.mk (B1L.out.move (HK.out.block _ (by omega) (by omega)))
  have h12 := B1.out.cell 2
  simp only [sb3, sb4] at h12
  have HBr := Aside0.mk (show Below w.heap.size w wr from ⟨HK.out.os.trans HBL.out.os, HK.out.tape.trans HBL.out.tape, HK.out.output.trans HBL.out.output, Nat.le_trans HBL.out.size HK.out.size, fun k hk => (HK.out.block k (by omega) (by omega)).trans (HBL.out.block k hk)⟩)
  by_cases hkl : k < rs.length
  ·obtain ⟨ad, e, hq0, hq1, hq2, hq3, hq4⟩ := at_T118 (Kd.C_below K2.out HBr.out) (k : Int) (by omega) (by omega)
   cases e
   simp only [Int.toNat_natCast] at hq0 hq1 hq2 hq3 hq4
   have hkI : (k : Int) < rs.length := by omega
   obtain ⟨x, hx⟩ : ∃ x, rd_T118 rs (k : Int) = x := ⟨_, rfl⟩
   rw [hx] at hq0 hq1 hq2 hq3 hq4
   have HTK := Aside0.mk (show (rs.take (k + 1)).map cvS = (rs.take k).map cvS ++ [cvS x] by
    rw [List.take_succ_eq_append_getElem hkl, List.map_append, ← hx]
    simp [rd_T118, List.getD, hkl])
   have HLE := Aside0.mk (show ((rs.take k).map cvS).length ≤ 1000 by rw [List.length_map, List.length_take]; omega)
   clear hx
   go_wp2_with fail
   have B3a := Aside0.mk (B3.out.alloc (.cells #[.int .i64 x.f0, .int .i64 x.f1, .int .i64 x.f2, .int .i64 x.f3.f0, .int .i64 x.f3.f1] 118))
   have B5a := Aside0.mk (Blk.new wr [.int .i64 x.f0, .int .i64 x.f1, .int .i64 x.f2, .int .i64 x.f3.f0, .int .i64 x.f3.f1] 118)
   have HKa := Aside0.mk (HK.out.alloc hsr (.cells #[.int .i64 x.f0, .int .i64 x.f1, .int .i64 x.f2, .int .i64 x.f3.f0, .int .i64 x.f3.f1] 118))
   have HRa := Aside0.mk (Kd.R_alloc HR.out (.cells #[.int .i64 x.f0, .int .i64 x.f1, .int .i64 x.f2, .int .i64 x.f3.f0, .int .i64 x.f3.f1] 118))
   have hsa := Nat.le_trans hsr (Nat.le_of_lt (size_alloc wr (.cells #[.int .i64 x.f0, .int .i64 x.f1, .int .i64 x.f2, .int .i64 x.f3.f0, .int .i64 x.f3.f1] 118)))
   clear B3 HK HR hsr h12 hq0 hq1 hq2 hq3 hq4 B1 HBr
   generalize wr.alloc (.cells #[.int .i64 x.f0, .int .i64 x.f1, .int .i64 x.f2, .int .i64 x.f3.f0, .int .i64 x.f3.f1] 118) = wa at B3a B5a HKa HRa hsa ⊢
   generalize wr.heap.size = b5 at B5a ⊢
   refine start_ (n := 16) (S := fun w' => w'.cell? ⟨b3, 2, none⟩ = some v2 ∧ w'.cell? ⟨b5, 0, none⟩ = some (.int .i64 x.f0) ∧ w'.cell? ⟨b5, 1, none⟩ = some (.int .i64 x.f1) ∧ w'.cell? ⟨b5, 2, none⟩ = some (.int .i64 x.f2) ∧ w'.cell? ⟨b5, 3, none⟩ = some (.int .i64 x.f3.f0) ∧ w'.cell? ⟨b5, 4, none⟩ = some (.int .i64 x.f3.f1)) (ds := [13, 15]) #[O,O,O,O,O,O,O,O,O,O,O,O,O,O,O,O] (by kernel_rfl) rfl rfl ⟨(by simpa using (B3a.out).cell 2), (by simpa using (B5a.out).cell 0), (by simpa using (B5a.out).cell 1), (by simpa using (B5a.out).cell 2), (by simpa using (B5a.out).cell 3), (by simpa using (B5a.out).cell 4)⟩ (fun hHeld => ?_); refine with_tabW mp.tab6 mp.bits6 (fun HT_ HW_ => ?_)
   have B3d := Aside0.mk (B3a.out.move rfl : Blk wa.drew _ _ _)
   have B5d := Aside0.mk (B5a.out.move rfl : Blk wa.drew _ _ _)
   have HKd := Aside0.mk HKa.out.drew
   have HRd := Aside0.mk (Kd.R_drew HRa.out)
   have hsd : wL.heap.size ≤ wa.drew.heap.size := hsa
   clear B3a B5a HKa HRa hsa
   generalize wa.drew = wd1 at B3d B5d HKd HRd hsd hHeld ⊢
   refine pu_ 0 25 #[I,O,O,O,O,O,O,O,O,O,O,O,O,O,O,O] HT_ (h := ?_)
   refine ta_ 1 26 #[I,I,O,O,O,O,O,O,O,O,O,O,O,O,O,O] HT_ HW_ hHeld (hy := by (rintro w' ⟨s0, s1, s2, s3, s4, s5⟩; go_simp; with_reducible rfl)) (h := ?_)
   refine pu_ 2 27 #[I,I,I,O,O,O,O,O,O,O,O,O,O,O,O,O] HT_ (h := ?_)
   refine ta_ 3 28 #[I,I,I,I,O,O,O,O,O,O,O,O,O,O,O,O] HT_ HW_ hHeld (hy := by (rintro w' ⟨s0, s1, s2, s3, s4, s5⟩; go_simp; with_reducible rfl)) (h := ?_)
   refine pu_ 4 29 #[I,I,I,I,I,O,O,O,O,O,O,O,O,O,O,O] HT_ (h := ?_)
   refine ta_ 5 30 #[I,I,I,I,I,I,O,O,O,O,O,O,O,O,O,O] HT_ HW_ hHeld (hy := by (rintro w' ⟨s0, s1, s2, s3, s4, s5⟩; go_simp; with_reducible rfl)) (h := ?_)
   refine pu_ 6 31 #[I,I,I,I,I,I,I,O,O,O,O,O,O,O,O,O] HT_ (h := ?_)
   refine ta_ 7 32 #[I,I,I,I,I,I,I,I,O,O,O,O,O,O,O,O] HT_ HW_ hHeld (hy := by (rintro w' ⟨s0, s1, s2, s3, s4, s5⟩; go_simp; with_reducible rfl)) (h := ?_)
   refine pu_ 8 33 #[I,I,I,I,I,I,I,I,I,O,O,O,O,O,O,O] HT_ (h := ?_)
   refine ta_ 9 34 #[I,I,I,I,I,I,I,I,I,I,O,O,O,O,O,O] HT_ HW_ hHeld (hy := by (rintro w' ⟨s0, s1, s2, s3, s4, s5⟩; go_simp; with_reducible rfl)) (h := ?_)
   refine one_ (i := 10) (N := some 35) #[I,I,I,I,I,I,I,I,I,I,I,O,O,O,O,O] rfl rfl (one_of HT_.out (by kernel_rfl)) (by decide) (fun K hK => ?_)
   refine goes_ Try.func25 (by kernel_rfl) rfl #[.agg #[.int .i64 x.f3.f0, .int .i64 x.f3.f1]] (by rfl) rfl rfl (by (try simp only [List.map_toArray, List.map_cons, List.map_nil]); rfl) ?_
   refine (to11_calls x.f3.f0 x.f3.f1 _).mono ?_
   rintro e_ w_ ⟨rfl, hbx⟩
   refine ⟨_, rfl, hK.out _ _ ⟨(by simpa using (B3d.out.below hbx).cell 2), (by simpa using (B5d.out.below hbx).cell 0), (by simpa using (B5d.out.below hbx).cell 1), (by simpa using (B5d.out.below hbx).cell 2), (by simpa using (B5d.out.below hbx).cell 3), (by simpa using (B5d.out.below hbx).cell 4)⟩ (fun hHeld => ?_)⟩
   clear hK K
   have B3e := Aside0.mk (B3d.out.below hbx)
   have B5e := Aside0.mk (B5d.out.below hbx)
   have HKe := Aside0.mk (HKd.out.trans (Keep.of_below hbx hsd))
   have HRe := Aside0.mk (Kd.R_below HRd.out hbx)
   have hse := Nat.le_trans hsd hbx.size
   clear hbx B3d B5d HKd HRd hsd hHeld
   refine norm_ (by simp only [Act.put, sb0, sb1, sb2]; rfl) ?_
   refine pu_ 11 36 #[I,I,I,I,I,I,I,I,I,I,I,I,O,O,O,O] HT_ (h := ?_)
   refine one_ (i := 12) (N := some 37) #[I,I,I,I,I,I,I,I,I,I,I,I,I,O,O,O] rfl rfl (one_of HT_.out (by kernel_rfl)) (by decide) (fun K hK => ?_)
   refine value_ (w1 := ?_) (v := ?_) (by rfl) rfl ?_ ?_
   rotate_left 2
   ·go_simp
    constructor <;> rfl
   refine hK.out _ _ ⟨(by simpa using (B3e.out.alloc (.cells #[.int .i64 x.f0, .int .i64 x.f1, .int .i64 x.f2, .int .i64 x.f3.f0, .int .i64 x.f3.f1] 115)).cell 2), (by simpa using (B5e.out.alloc (.cells #[.int .i64 x.f0, .int .i64 x.f1, .int .i64 x.f2, .int .i64 x.f3.f0, .int .i64 x.f3.f1] 115)).cell 0), (by simpa using (B5e.out.alloc (.cells #[.int .i64 x.f0, .int .i64 x.f1, .int .i64 x.f2, .int .i64 x.f3.f0, .int .i64 x.f3.f1] 115)).cell 1), (by simpa using (B5e.out.alloc (.cells #[.int .i64 x.f0, .int .i64 x.f1, .int .i64 x.f2, .int .i64 x.f3.f0, .int .i64 x.f3.f1] 115)).cell 2), (by simpa using (B5e.out.alloc (.cells #[.int .i64 x.f0, .int .i64 x.f1, .int .i64 x.f2, .int .i64 x.f3.f0, .int .i64 x.f3.f1] 115)).cell 3), (by simpa using (B5e.out.alloc (.cells #[.int .i64 x.f0, .int .i64 x.f1, .int .i64 x.f2, .int .i64 x.f3.f0, .int .i64 x.f3.f1] 115)).cell 4)⟩ (fun _ => ?_)
   clear hK K B5e
   refine norm_ (by simp only [Act.put, sb0, sb1, sb2]; rfl) ?_
   refine last_ (i := 13) (N := some 38) #[I,I,I,I,I,I,I,I,I,I,I,I,I,I,O,O] rfl rfl (one_of HT_.out (by kernel_rfl)) (by decide) (fun K hK => ?_)
   refine Kd.R_append_step k115 (w0 := w_) wL.heap.size (by rfl) (.tmp 26) (.tmp 37) 66 115 (.agg #[.int .i64 0, .int .i64 0, .int .i64 0, .int .i64 0, .int .i64 0]) 40 rfl Try.underlying66 infoStreet rfl (by decide) (by omega) v2 ((rs.take k).map cvS) (cvS x) [.int .i64 x.f0, .int .i64 x.f1, .int .i64 x.f2, .int .i64 x.f3.f0, .int .i64 x.f3.f1] (fun b => wL.heap.size ≤ b) (fun _ => False) rfl rfl (k115_mkM _ _ _ (cvS x)) (fun _ hk => hk.elim) (fun b hb => Nat.le_trans hse hb) HRe.out (Below.refl _ _) hse (by have := HLE.out; omega) ?_
   intro vn wn hon hbn hgn hatn
   obtain ⟨An, nn, cn, rfl⟩ := slice_of hon
   have HRn := Aside0.mk hon
   have B3n := Aside0.mk (B3e.out.move (hbn.block _ hl3L))
   have HKn := Aside0.mk (HKe.out.trans (Keep.of_below hbn (Nat.le_refl _)))
   have hsn := Nat.le_trans hse hbn.size
   clear hon hbn hgn hatn B3e HKe HRe hse
   refine hK.out _ _ ?_
   clear hK K
   refine norm_ (by simp only [Act.put, sb0, sb1, sb2]; rfl) ?_
   refine pu_ 14 39 #[I,I,I,I,I,I,I,I,I,I,I,I,I,I,I,O] HT_ (h := ?_)
   refine last_ (i := 15) (N := none) #[I,I,I,I,I,I,I,I,I,I,I,I,I,I,I,I] rfl rfl (one_of HT_.out (by kernel_rfl)) (by decide) (fun K hK => ?_)
   have hst_ := (show wn.cell? ⟨b3, 2, none⟩ = some v2 by simpa using B3n.out.cell 2)
   have hfr_ := B3n.out.frozen 2
   refine skip_ (w1 := ?_) (by rfl) rfl ?_ ?_
   rotate_left
   ·go_simp
    rfl
   refine hK.out _ _ ?_
   clear hK K hst_ hfr_ 
   have B3z := Aside0.mk (show Blk _ b3 [.slice X0 n0 x0, .int .i64 nw, .slice An nn cn, .slice none 0 0] _ from blk_set B3n.out 2 (.slice An nn cn))
   have HKz := Aside0.mk (HKn.out.setCell (p := ⟨b3, 2, none⟩) (.inl rfl) (.slice An nn cn))
   have HRz := Aside0.mk (Kd.R_far HRn.out (p := ⟨b3, 2, none⟩) (fun b hb => by simp only; omega) (.slice An nn cn))
   have hsz : wL.heap.size ≤ (wn.setCell ⟨b3, 2, none⟩ (.slice An nn cn)).heap.size := by rw [size_set]; exact hsn
   clear B3n HKn HRn hsn
   generalize wn.setCell ⟨b3, 2, none⟩ (.slice An nn cn) = wz at B3z HKz HRz hsz ⊢
   refine done_ (done_of HT_.out (by kernel_rfl)) ?_
   go_wp2_with fail
   exact ⟨⟨k + 1, .slice An nn cn, by omega, by go_num, hsz, HKz, B3z, ⟨by rw [HTK.out]; exact HRz.out⟩⟩, by simp [intOf]; omega⟩
  ·obtain rfl : k = rs.length := by omega
   rw [List.take_length, HSS.out] at HR
   obtain ⟨Y0, m0, y0, rfl⟩ := slice_of HR.out
   have hR0M := Aside0.mk (Kd.R_step hR0L.out (fun k hk hlt => HK.out.block k hlt (by simpa using hk)))
   have hR2M := Aside0.mk (Kd.R_types HR.out B3.out (by decide))
   have B2M := Aside0.mk (B2L.out.move (HK.out.block _ (by omega) (by omega)))
   go_wp2_with fail
   clear HK HR hR0L B2L HBL B1L h12
   have hl3M : b3 < wr.heap.size := by omega
   have hwM : w.heap.size ≤ wr.heap.size := by omega
   rename_i wL_
   have B3M := B3
   clear B3
   generalize hwM_ : wr = wM at B3M B1 B2M hR0M hR2M HBr hl3M hwM hsr ⊢
   clear hwM_
   go_loopw [6] (fun v6 wr => ∃ (k : Nat) (v3 : Value), k ≤ rj.length ∧ v6 = .int .i64 k ∧ wM.heap.size ≤ wr.heap.size ∧ Aside0 (Keep wM.heap.size (fun b => b = b3) wM wr) ∧ Aside0 (Blk wr b3 [.slice X0 n0 x0, .int .i64 nw, .slice Y0 m0 y0, v3] 69) ∧ Aside0 (k119.R 119 wr wM.heap.size (fun b => wM.heap.size ≤ b) v3 ((rj.take k).map cvJ))) (fun v6 _ => rj.length - (intOf v6).toNat)
   case atStart => exact ⟨0, .slice none 0 0, Nat.zero_le _, rfl, Nat.le_refl _, ⟨Keep.refl _ _ _⟩, B3M, ⟨Kd.R_nil _ _ _ _ _⟩⟩
   case round =>
    clear B3M hsr
    obtain ⟨k, v3, hk, rfl, hsr, HK, B3, HR⟩ := hrel
    have B1r := Aside0.mk (B1.out.move (HK.out.block _ (by omega) (by omega)))
    have h13 := B1r.out.cell 3
    simp only [sb3, sb4] at h13
    have HBr2 := Aside0.mk (show Below w.heap.size w wr from ⟨HK.out.os.trans HBr.out.os, HK.out.tape.trans HBr.out.tape, HK.out.output.trans HBr.out.output, Nat.le_trans HBr.out.size HK.out.size, fun k hk => (HK.out.block k (by omega) (by omega)).trans (HBr.out.block k hk)⟩)
    by_cases hkl : k < rj.length
    ·obtain ⟨ad, e, hq0, hq1⟩ := at_T62 (Kd.C_below K3.out HBr2.out) (k : Int) (by omega) (by omega)
     cases e
     simp only [Int.toNat_natCast] at hq0 hq1
     have hkI : (k : Int) < rj.length := by omega
     obtain ⟨x, hx⟩ : ∃ x, rd_T62 rj (k : Int) = x := ⟨_, rfl⟩
     rw [hx] at hq0 hq1
     have HTK := Aside0.mk (show (rj.take (k + 1)).map cvJ = (rj.take k).map cvJ ++ [cvJ x] by
      rw [List.take_succ_eq_append_getElem hkl, List.map_append, ← hx]
      simp [rd_T62, List.getD, hkl])
     have HLE := Aside0.mk (show ((rj.take k).map cvJ).length ≤ 1000 by rw [List.length_map, List.length_take]; omega)
     clear hx B1r HBr2
     go_wp2_with fail
     refine start_ (n := 19) (S := fun w' => w'.cell? ⟨b3, 3, none⟩ = some v3 ∧ w'.cell? ⟨w.heap.size, 3, none⟩ = some (.slice (some ad) rj.length c3) ∧ w'.cell? (ad.add (k * 2)) = some (.int .i64 x.f0) ∧ w'.cell? ⟨(ad.add (k * 2)).block, (ad.add (k * 2)).off + 1, none⟩ = some (.int .i64 x.f1)) (ds := [16, 18]) #[O,O,O,O,O,O,O,O,O,O,O,O,O,O,O,O,O,O,O] (by kernel_rfl) rfl rfl ⟨(by simpa using B3.out.cell 3), h13, hq0, hq1⟩ (fun hHeld => ?_); refine with_tabW mp.tab10 mp.bits10 (fun HT_ HW_ => ?_)
     have B3d := Aside0.mk (B3.out.move rfl : Blk wr.drew _ _ _)
     have HKd := Aside0.mk HK.out.drew
     have HRd := Aside0.mk (Kd.R_drew HR.out)
     have hsd : wM.heap.size ≤ wr.drew.heap.size := hsr
     clear B3 HK HR hsr h13 hq0 hq1
     generalize wr.drew = wd1 at B3d HKd HRd hsd hHeld ⊢
     refine pu_ 0 47 #[I,O,O,O,O,O,O,O,O,O,O,O,O,O,O,O,O,O,O] HT_ (h := ?_)
     refine ta_ 1 48 #[I,I,O,O,O,O,O,O,O,O,O,O,O,O,O,O,O,O,O] HT_ HW_ hHeld (hy := by (rintro w' ⟨s0, s1, s2, s3⟩; go_simp; with_reducible rfl)) (h := ?_)
     refine pu_ 2 49 #[I,I,I,O,O,O,O,O,O,O,O,O,O,O,O,O,O,O,O] HT_ (h := ?_)
     refine ta_ 3 50 #[I,I,I,I,O,O,O,O,O,O,O,O,O,O,O,O,O,O,O] HT_ HW_ hHeld (hy := by (rintro w' ⟨s0, s1, s2, s3⟩; go_simp; with_reducible rfl)) (h := ?_)
     refine pu_ 4 51 #[I,I,I,I,I,O,O,O,O,O,O,O,O,O,O,O,O,O,O] HT_ (h := ?_)
     refine pu_ 5 52 #[I,I,I,I,I,I,O,O,O,O,O,O,O,O,O,O,O,O,O] HT_ (h := ?_)
     refine pu_ 6 53 #[I,I,I,I,I,I,I,O,O,O,O,O,O,O,O,O,O,O,O] HT_ (h := ?_)
     refine ta_ 7 54 #[I,I,I,I,I,I,I,I,O,O,O,O,O,O,O,O,O,O,O] HT_ HW_ hHeld (hy := by (rintro w' ⟨s0, s1, s2, s3⟩; go_simp; with_reducible rfl)) (h := ?_)
     refine pu_ 8 55 #[I,I,I,I,I,I,I,I,I,O,O,O,O,O,O,O,O,O,O] HT_ (h := ?_)
     refine ta_ 9 56 #[I,I,I,I,I,I,I,I,I,I,O,O,O,O,O,O,O,O,O] HT_ HW_ hHeld (hy := by (rintro w' ⟨s0, s1, s2, s3⟩; go_simp; with_reducible rfl)) (h := ?_)
     refine pu_ 10 57 #[I,I,I,I,I,I,I,I,I,I,I,O,O,O,O,O,O,O,O] HT_ (h := ?_)
     refine pu_ 11 58 #[I,I,I,I,I,I,I,I,I,I,I,I,O,O,O,O,O,O,O] HT_ (h := ?_)
     refine pu_ 12 59 #[I,I,I,I,I,I,I,I,I,I,I,I,I,O,O,O,O,O,O] HT_ (h := ?_)
     refine ta_ 13 60 #[I,I,I,I,I,I,I,I,I,I,I,I,I,I,O,O,O,O,O] HT_ HW_ hHeld (hy := by (rintro w' ⟨s0, s1, s2, s3⟩; go_simp; with_reducible rfl)) (h := ?_)
     refine pu_ 14 61 #[I,I,I,I,I,I,I,I,I,I,I,I,I,I,I,O,O,O,O] HT_ (h := ?_)
     refine one_ (i := 15) (N := some 62) #[I,I,I,I,I,I,I,I,I,I,I,I,I,I,I,I,O,O,O] rfl rfl (one_of HT_.out (by kernel_rfl)) (by decide) (fun K hK => ?_)
     refine value_ (w1 := ?_) (v := ?_) (by rfl) rfl ?_ ?_
     rotate_left 2
     ·go_simp
      constructor <;> rfl
     refine hK.out _ _ ⟨((below_alloc (Below.refl _ _) (.cells #[.int .i64 x.f0, .int .i64 x.f1] 119)).cell (World.block_lt_of_cell? _ _ hHeld.1)).trans hHeld.1, ((below_alloc (Below.refl _ _) (.cells #[.int .i64 x.f0, .int .i64 x.f1] 119)).cell (World.block_lt_of_cell? _ _ hHeld.2.1)).trans hHeld.2.1, ((below_alloc (Below.refl _ _) (.cells #[.int .i64 x.f0, .int .i64 x.f1] 119)).cell (World.block_lt_of_cell? _ _ hHeld.2.2.1)).trans hHeld.2.2.1, ((below_alloc (Below.refl _ _) (.cells #[.int .i64 x.f0, .int .i64 x.f1] 119)).cell (World.block_lt_of_cell? _ _ hHeld.2.2.2)).trans hHeld.2.2.2⟩ (fun _ => ?_)
     clear hK K
     refine norm_ (by simp only [Act.put, sb0, sb1, sb2]; rfl) ?_
     refine last_ (i := 16) (N := some 63) #[I,I,I,I,I,I,I,I,I,I,I,I,I,I,I,I,I,O,O] rfl rfl (one_of HT_.out (by kernel_rfl)) (by decide) (fun K hK => ?_)
     refine Kd.R_append_step k119 (w0 := wd1) wM.heap.size (by rfl) (.tmp 48) (.tmp 62) 67 119 (.agg #[.int .i64 0, .int .i64 0]) 16 rfl Try.underlying67 infoJoin rfl (by decide) (by omega) v3 ((rj.take k).map cvJ) (cvJ x) [.int .i64 x.f0, .int .i64 x.f1] (fun b => wM.heap.size ≤ b) (fun _ => False) rfl rfl (k119_mkM _ _ _ (cvJ x)) (fun _ hk => hk.elim) (fun b hb => Nat.le_trans hsd hb) HRd.out (Below.refl _ _) hsd (by have := HLE.out; omega) ?_
     intro vn wn hon hbn hgn hatn
     obtain ⟨An, nn, cn, rfl⟩ := slice_of hon
     have HRn := Aside0.mk hon
     have B3n := Aside0.mk (B3d.out.move (hbn.block _ hl3M))
     have HKn := Aside0.mk (HKd.out.trans (Keep.of_below hbn (Nat.le_refl _)))
     have hsn := Nat.le_trans hsd hbn.size
     clear hon hbn hgn hatn B3d HKd HRd hsd
     refine hK.out _ _ ?_
     clear hK K
     refine norm_ (by simp only [Act.put, sb0, sb1, sb2]; rfl) ?_
     refine pu_ 17 64 #[I,I,I,I,I,I,I,I,I,I,I,I,I,I,I,I,I,I,O] HT_ (h := ?_)
     refine last_ (i := 18) (N := none) #[I,I,I,I,I,I,I,I,I,I,I,I,I,I,I,I,I,I,I] rfl rfl (one_of HT_.out (by kernel_rfl)) (by decide) (fun K hK => ?_)
     have hst_ := (show wn.cell? ⟨b3, 3, none⟩ = some v3 by simpa using B3n.out.cell 3)
     have hfr_ := B3n.out.frozen 3
     refine skip_ (w1 := ?_) (by rfl) rfl ?_ ?_
     rotate_left
     ·go_simp
      rfl
     refine hK.out _ _ ?_
     clear hK K hst_ hfr_ 
     have B3z := Aside0.mk (show Blk _ b3 [.slice X0 n0 x0, .int .i64 nw, .slice Y0 m0 y0, .slice An nn cn] _ from blk_set B3n.out 3 (.slice An nn cn))
     have HKz := Aside0.mk (HKn.out.setCell (p := ⟨b3, 3, none⟩) (.inl rfl) (.slice An nn cn))
     have HRz := Aside0.mk (Kd.R_far HRn.out (p := ⟨b3, 3, none⟩) (fun b hb => by simp only; omega) (.slice An nn cn))
     have hsz : wM.heap.size ≤ (wn.setCell ⟨b3, 3, none⟩ (.slice An nn cn)).heap.size := by rw [size_set]; exact hsn
     clear B3n HKn HRn hsn
     generalize wn.setCell ⟨b3, 3, none⟩ (.slice An nn cn) = wz at B3z HKz HRz hsz ⊢
     refine done_ (done_of HT_.out (by kernel_rfl)) ?_
     go_wp2_with fail
     exact ⟨⟨k + 1, .slice An nn cn, by omega, by go_num, hsz, HKz, B3z, ⟨by rw [HTK.out]; exact HRz.out⟩⟩, by simp [intOf]; omega⟩
    ·obtain rfl : k = rj.length := by omega
     rw [List.take_length, HJS.out] at HR
     obtain ⟨Z0, z0_, zc, rfl⟩ := slice_of HR.out
     have hR0Z := Aside0.mk (Kd.R_step hR0M.out (fun k hk hlt => HK.out.block k hlt (by simpa using hk)))
     have hR2Z := Aside0.mk (Kd.R_step hR2M.out (fun k hk hlt => HK.out.block k hlt (by simpa using hk.2)))
     have B2Z := Aside0.mk (B2M.out.move (HK.out.block _ (by omega) (by omega)))
     have h30 := B3.out.cell 0
     have h31 := B3.out.cell 1
     have h32 := B3.out.cell 2
     have h33 := B3.out.cell 3
     have h20 := B2Z.out.cell 0
     have h21 := B2Z.out.cell 1
     have h22 := B2Z.out.cell 2
     have h23 := B2Z.out.cell 3
     have f20 := B2Z.out.frozen 0
     have f21 := B2Z.out.frozen 1
     have f22 := B2Z.out.frozen 2
     have f23 := B2Z.out.frozen 3
     simp only [sb3, sb4] at h30 h31 h32 h33 h20 h21 h22 h23
     have BF := Aside0.mk (show Blk _ (w.heap.size + 1) [.slice X0 n0 x0, .int .i64 nw, .slice Y0 m0 y0, .slice Z0 z0_ zc] _ from blk_set (blk_set (blk_set (blk_set B2Z.out 0 (.slice X0 n0 x0)) 1 (.int .i64 nw)) 2 (.slice Y0 m0 y0)) 3 (.slice Z0 z0_ zc))
     have G0 := Aside0.mk (Kd.R_far (Kd.R_far (Kd.R_far (Kd.R_far (Kd.R_types hR0Z.out B2Z.out (by decide)) (p := ⟨w.heap.size + 1, 0, none⟩) (fun _ hk => hk.2) (.slice X0 n0 x0)) (p := ⟨w.heap.size + 1, 1, none⟩) (fun _ hk => hk.2) (.int .i64 nw)) (p := ⟨w.heap.size + 1, 2, none⟩) (fun _ hk => hk.2) (.slice Y0 m0 y0)) (p := ⟨w.heap.size + 1, 3, none⟩) (fun _ hk => hk.2) (.slice Z0 z0_ zc))
     have G2 := Aside0.mk (Kd.R_far (Kd.R_far (Kd.R_far (Kd.R_far (Kd.R_types hR2Z.out B2Z.out (by decide)) (p := ⟨w.heap.size + 1, 0, none⟩) (fun _ hk => hk.2) (.slice X0 n0 x0)) (p := ⟨w.heap.size + 1, 1, none⟩) (fun _ hk => hk.2) (.int .i64 nw)) (p := ⟨w.heap.size + 1, 2, none⟩) (fun _ hk => hk.2) (.slice Y0 m0 y0)) (p := ⟨w.heap.size + 1, 3, none⟩) (fun _ hk => hk.2) (.slice Z0 z0_ zc))
     have G3 := Aside0.mk (Kd.R_far (Kd.R_far (Kd.R_far (Kd.R_far (Kd.R_types HR.out B2Z.out (by decide)) (p := ⟨w.heap.size + 1, 0, none⟩) (fun _ hk => hk.2) (.slice X0 n0 x0)) (p := ⟨w.heap.size + 1, 1, none⟩) (fun _ hk => hk.2) (.int .i64 nw)) (p := ⟨w.heap.size + 1, 2, none⟩) (fun _ hk => hk.2) (.slice Y0 m0 y0)) (p := ⟨w.heap.size + 1, 3, none⟩) (fun _ hk => hk.2) (.slice Z0 z0_ zc))
     have HBf := Aside0.mk ((((HBr2.out.setCell (p := ⟨w.heap.size + 1, 0, none⟩) (by simp only; omega) (.slice X0 n0 x0)).setCell (p := ⟨w.heap.size + 1, 1, none⟩) (by simp only; omega) (.int .i64 nw)).setCell (p := ⟨w.heap.size + 1, 2, none⟩) (by simp only; omega) (.slice Y0 m0 y0)).setCell (p := ⟨w.heap.size + 1, 3, none⟩) (by simp only; omega) (.slice Z0 z0_ zc))
     go_wp2_with fail
     generalize ((((wr.setCell ⟨w.heap.size + 1, 0, none⟩ (.slice X0 n0 x0)).setCell ⟨w.heap.size + 1, 1, none⟩ (.int .i64 nw)).setCell ⟨w.heap.size + 1, 2, none⟩ (.slice Y0 m0 y0)).setCell ⟨w.heap.size + 1, 3, none⟩ (.slice Z0 z0_ zc)) = wf at BF G0 G2 G3 HBf ⊢
     obtain ⟨B0', d0', e0, hd0, hC0⟩ := Kd.R_reads G0.out
     obtain ⟨rfl, rfl, rfl⟩ := slice_inj e0
     obtain ⟨B2', d2', e2, hd2, hC2⟩ := Kd.R_reads G2.out
     obtain ⟨rfl, rfl, rfl⟩ := slice_inj e2
     obtain ⟨B3', d3', e3, hd3, hC3⟩ := Kd.R_reads G3.out
     obtain ⟨rfl, rfl, rfl⟩ := slice_inj e3
     refine bodyPost_ret (results_cell_row rfl _ _ (w.heap.size + 1) 69 #[.slice X0 old.length x0, .int .i64 nw, .slice Y0 ss.length y0, .slice Z0 js.length zc] (0, 0) _ rfl BF.out Try.underlying69 rfl (by kernel_rfl)) rfl ?_
     have hsl : ss.length ≤ 1000 := by rw [← HSS.out, List.length_map]; exact hs
     have hjl : js.length ≤ 1000 := by rw [← HJS.out, List.length_map]; exact hj
     exact ⟨⟨X0, x0, Y0, y0, Z0, zc, rfl, ⟨hC0, hd0, hC2, hd2, hC3, hd3, by omega, by omega, by omega⟩⟩, HBf.out⟩
end Go.Proofs.Ytiddkceahbnolaa
