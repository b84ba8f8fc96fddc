/- round's Divide at two weights. -/
import Derived.Test.YtiddkceahbnolaaZDiv
import Derived.Test.YtiddkceahbnolaaWMore
import Derived.Test.YtiddkceahbnolaaWInvWords
namespace Go.Proofs.Ytiddkceahbnolaa
open Go.RowKit Go.Shelf Go.Proofs.Ytiddkceahbnolaa.PBorderOrder Go.Proofs.YtiddkceahbnolaaW.PrintWords Go.Proofs.YtiddkceahbnolaaW.PrintLast Go.Proofs.YtiddkceahbnolaaW.PrintMore
set_option linter.all false
theorem rall1_Num (g : Nat) (first cap : Array Value) (hg : ∀ args w, (callFunc g args).run Try.prog w = .ok (.enter g args) w) (p : Int → Bool) (x : Int) (gp : Nat) (w : World)
  (hc : w.cell? ⟨gp, 0, none⟩ = some (.func (.func g) first cap)) (hp : Pred_Num g first cap p w) :
  Calls Try.prog 131 ((#[] : Array Value).push (enc_Num x) ++ #[.pointer (some ⟨gp, 0, none⟩)]) w fun e w' => e = .returned (.bool (!p x)) ∧ Below w.heap.size w w' := by
 simp only [Array.empty_append, List.push_toArray, List.append_toArray, List.nil_append, List.cons_append, enc_Num]
 have hgp : gp < w.heap.size := World.block_lt_of_cell? w _ hc
 have HP := Aside0.mk hp
 clear hp
 go_enter Try.func131, Try.ntmps131
 go_wp2_with fail
 have hc := HP.out _ x (Below.refl _ _)
 simp only [enc_Num] at hc
 refine hc.mono ?_
 rintro e w' ⟨rfl, hb⟩
 obtain ⟨b, hb1⟩ : ∃ b, p x = b := ⟨_, rfl⟩
 rw [hb1]
 go_wp2
 go_ret
 exact ⟨ret_bool (by rw [hb1]), below_seq (Below.refl _ _) hb⟩
theorem rall_Num (g : Nat) (first cap : Array Value) (hg : ∀ args w, (callFunc g args).run Try.prog w = .ok (.enter g args) w) (p : Int → Bool) (A : Option Addr) (c : Nat) (xs : List Int) (w : World)
  (hr : Kd.C (Kd.int .i64) w A xs.length xs) (hlen : xs.length ≤ 9223372036854775807) (hp : Pred_Num g first cap p w) :
  Calls Try.prog 122 #[.slice A xs.length c, .func (.func g) first cap] w fun e w' => e = .returned (.bool (xs.all p)) ∧ Below w.heap.size w w' := by
 go_enter Try.func122, Try.ntmps122
 have HR := Aside0.mk hr
 have HP := Aside0.mk hp
 clear hr hp
 go_wp2_with fail
 have hB : Below w.heap.size w (w.alloc (.cells #[.func (.func g) first cap] 83)) := (Below.refl _ _).alloc (Nat.le_refl _) _
 refine (contains_Num 131 #[.pointer (some ⟨w.heap.size, 0, none⟩)] (enters Try.func131 (by kernel_rfl) rfl) (fun x => !p x) A c xs _ (Kd.C_below HR.out hB) hlen ?_).mono ?_
 ·intro W x hW
  refine rall1_Num g first cap hg p x w.heap.size W ?_ (HP.out.later (hB.trans (hW.mono hB.size)))
  rw [hW.cell (p := ⟨w.heap.size, 0, none⟩) (by simp)]
  simp
 rintro e w' ⟨rfl, hb⟩
 have hn := Aside0.mk (List.any_eq_not_all_not (l := xs) (p := fun x => !p x))
 obtain ⟨j, hj⟩ : ∃ j, (xs.any fun x => !p x) = j := ⟨_, rfl⟩
 rw [hj] at hn ⊢
 clear hj
 go_wp2
 go_ret
 exact ⟨ret_bool (by rw [hn.out]; simp), below_seq hB hb⟩
theorem isCell_calls (n : Int) (w : World) : Calls Try.prog 123 #[.int .i64 n] w fun e w' => e = .returned (.bool (withinB n 0 10000)) ∧ Below w.heap.size w w' := by
 refine (round_isCell.calls n (withinB n 0 10000) w ?_).mono ?_
 ·unfold round_isCell.f round_within.f withinB
  by_cases h : 0 ≤ n <;> simp [h]
 ·rintro e w' ⟨h1, h2⟩
  exact ⟨h1, h2.below⟩
theorem rwithin_calls (n lo hi : Int) (w : World) :
  Calls Try.prog 124 #[.int .i64 n, .int .i64 lo, .int .i64 hi] w fun e w' => e = .returned (.bool (withinB n lo hi)) ∧ Below w.heap.size w w' := by
 refine (round_within.calls n lo hi (withinB n lo hi) w ?_).mono ?_
 ·unfold round_within.f withinB
  by_cases h : lo ≤ n <;> simp [h]
 ·rintro e w' ⟨h1, h2⟩
  exact ⟨h1, h2.below⟩
/-- Two rows of numbers of the call's own, apart from each other. -/
structure Two (base : Nat) (w : World) (v1 v2 : Value) (l1 l2 : List Int) : Prop where
 r1 : (Kd.int .i64).R 3 w base (fun _ => True) v1 l1
 r2 : (Kd.int .i64).R 3 w base (fun _ => True) v2 l2
 ne : ∀ k, v1.ownBlock = some k → some k ≠ v2.ownBlock
theorem Two.nil (base : Nat) (w : World) : Two base w (.slice none 0 0) (.slice none 0 0) [] [] := ⟨Kd.R_nil _ _ _ _ _, Kd.R_nil _ _ _ _ _, fun k hk => by simp [Value.ownBlock] at hk⟩
theorem Two.symm {base : Nat} {w : World} {v1 v2 : Value} {l1 l2 : List Int} (h : Two base w v1 v2 l1 l2) : Two base w v2 v1 l2 l1 := ⟨h.r2, h.r1, fun k hk e => h.ne k e.symm hk.symm⟩
theorem Two.below {base : Nat} {w w' : World} {v1 v2 : Value} {l1 l2 : List Int} (h : Two base w v1 v2 l1 l2) (hb : Below w.heap.size w w') : Two base w' v1 v2 l1 l2 := ⟨Kd.R_below h.r1 hb, Kd.R_below h.r2 hb, h.ne⟩
theorem Two.app1 {base : Nat} {w w' : World} {v1 v2 v : Value} {l1 l2 l : List Int} (h : Two base w v1 v2 l1 l2) (hR : (Kd.int .i64).R 3 w' base (fun _ => True) v l) (hg : w.grownBy w' v1.ownBlock) (hat : v.ownBlock = v1.ownBlock ∨ ∃ b, v.ownBlock = some b ∧ w.heap.size ≤ b) : Two base w' v v2 l l2 := by
 refine ⟨hR, Kd.R_grown2 h.r2 rfl hg h.ne, fun k hk => ?_⟩
 rcases hat with hat | ⟨b, hb, hle⟩
 ·exact h.ne k (hat ▸ hk)
 ·intro e
  have := (Kd.R_bound h.r2).1 k e.symm
  rw [hb] at hk
  injection hk with hk
  omega
theorem Two.app2 {base : Nat} {w w' : World} {v1 v2 v : Value} {l1 l2 l : List Int} (h : Two base w v1 v2 l1 l2) (hR : (Kd.int .i64).R 3 w' base (fun _ => True) v l) (hg : w.grownBy w' v2.ownBlock) (hat : v.ownBlock = v2.ownBlock ∨ ∃ b, v.ownBlock = some b ∧ w.heap.size ≤ b) : Two base w' v1 v l1 l := (h.symm.app1 hR hg hat).symm
/-- What Divide makes of a count by two weights: the sum, the wholes, what is left, the parts. -/
structure DivOk (w0 w1 c s q0 q1 r0 r1 left p0 p1 : Int) : Prop where
 b0 : 0 ≤ w0 ∧ w0 ≤ 1000
 b1 : 0 ≤ w1 ∧ w1 ≤ 1000
 bc : 0 ≤ c ∧ c ≤ 10000
 sum : w0 + w1 = s
 pos : 0 < s
 m0 : 0 ≤ c * w0 ∧ c * w0 ≤ 10000000
 m1 : 0 ≤ c * w1 ∧ c * w1 ≤ 10000000
 d0 : c * w0 / s = q0
 d1 : c * w1 / s = q1
 e0 : 0 ≤ q0 ∧ q0 ≤ 10000
 e1 : 0 ≤ q1 ∧ q1 ≤ 10000
 t0 : c * w0 % s = r0
 t1 : c * w1 % s = r1
 lf : c - q0 - q1 = left
 l01 : left = 0 ∨ left = 1
 parts : if left = 0 then p0 = q0 ∧ p1 = q1 else if r0 - r1 < 0 then p0 = q0 ∧ p1 = q1 + 1 else p0 = q0 + 1 ∧ p1 = q1
theorem DivOk.rests {w0 w1 c s q0 q1 r0 r1 left p0 p1 : Int} (h : DivOk w0 w1 c s q0 q1 r0 r1 left p0 p1) : Rests c w0 w1 s r0 r1 := by
 have h1 := h.m0
 have h2 := h.m1
 have h3 := h.pos
 have h4 := h.b0
 have h5 := h.b1
 have h6 := h.sum
 refine ⟨by omega, IntWalk.i64_in _ (by omega), IntWalk.i64_in _ (by omega), ?_, ?_, ?_, ?_⟩
 ·rw [Int.tmod_eq_emod_of_nonneg h1.1, h.t0]
 ·rw [Int.tmod_eq_emod_of_nonneg h2.1, h.t1]
 ·have := Int.emod_nonneg (c * w0) (b := s) (by omega)
  have h7 := Int.emod_lt_of_pos (c * w0) h3
  rw [h.t0] at this h7
  omega
 ·have := Int.emod_nonneg (c * w1) (b := s) (by omega)
  have h7 := Int.emod_lt_of_pos (c * w1) h3
  rw [h.t1] at this h7
  omega
/-- What Divide has in memory ahead of its loop. -/
structure DB (w : World) (g2 g6 : Nat) (aw : Addr) (cw : Nat) (c w0 w1 s : Int) : Prop where
 l : Blk w g2 [.slice (some aw) 2 cw] 26
 c : Blk w (g2 + 1) [.int .i64 c] 3
 s : Blk w g6 [.int .i64 s] 3
 a0 : w.cell? (aw.add 0) = some (.int .i64 w0)
 a1 : w.cell? (aw.add 1) = some (.int .i64 w1)
theorem DB.later {w w' : World} {g2 g6 : Nat} {aw : Addr} {cw : Nat} {c w0 w1 s : Int} {B : Nat} (h : DB w g2 g6 aw cw c w0 w1 s) (hb : Below B w w') (hB : g2 + 1 < g6 ∧ g6 < B ∧ aw.block < B) : DB w' g2 g6 aw cw c w0 w1 s :=
 ⟨h.l.move (hb.block _ (by omega)), h.c.move (hb.block _ (by omega)), h.s.move (hb.block _ (by omega)), (hb.cell (p := aw.add 0) hB.2.2).trans h.a0, (hb.cell (p := aw.add 1) hB.2.2).trans h.a1⟩
theorem Blk.second (w : World) (o : Obj) (cs : List Value) (t : TypeId) : Blk ((w.alloc o).alloc (.cells cs.toArray t)) (w.heap.size + 1) cs t := by
 have h := Blk.new (w.alloc o) cs t
 have e : (w.alloc o).heap.size = w.heap.size + 1 := by simp
 rw [e] at h
 exact h
theorem C2_at {w : World} {aw : Addr} {w0 w1 : Int} (h : (Kd.int .i64).C w (some aw) 2 [w0, w1]) : w.cell? (aw.add 0) = some (.int .i64 w0) ∧ w.cell? (aw.add 1) = some (.int .i64 w1) := by
 obtain ⟨ad, e, h0⟩ := Kd.at_int h 0 (by omega) (by omega)
 cases e
 obtain ⟨ad, e, h1⟩ := Kd.at_int h 1 (by omega) (by omega)
 cases e
 exact ⟨h0, h1⟩
theorem add1 (a : Addr) : a.add 1 = ⟨a.block, a.off + 1, none⟩ := by simp [Addr.add]
theorem add0 (a : Addr) : a.add 0 = a := by simp [Addr.add]
theorem num_at {w : World} {base : Nat} {ok : Nat → Prop} {v : Value} {xs : List Int} (h : (Kd.int .i64).R 3 w base ok v xs) (i : Nat) (hi : i < xs.length) : ∃ g c, v = .slice (some ⟨g, 0, none⟩) xs.length c ∧ w.cell? ⟨g, i, none⟩ = some (.int .i64 (xs.getD i 0)) := by
 obtain ⟨ad, c, rfl⟩ := Kd.R_slice1 h (by omega)
 obtain ⟨g, rfl⟩ := Kd.R_head h
 have := (Kd.R_celln (0 : Int) h (i : Int) (by omega) (by omega)).1
 exact ⟨g, c, rfl, this⟩
theorem int_total (w0 w1 : Int) (h0 : 0 ≤ w0 ∧ w0 ≤ 1000) (h1 : 0 ≤ w1 ∧ w1 ≤ 1000) : round_total.f 3 [w0, w1] = some (w0 + w1) := by
 simp [round_total.f, round_total.l0, rd, wrap64]
 omega
set_option maxRecDepth 100000 in
set_option maxHeartbeats 40000000 in
theorem Divide_calls {w : World} {aw : Addr} {cw : Nat} {w0 w1 c s q0 q1 r0 r1 left p0 p1 : Int} (h : (Kd.int .i64).C w (some aw) 2 [w0, w1]) (hcw : 2 ≤ cw) (hd : DivOk w0 w1 c s q0 q1 r0 r1 left p0 p1) :
  Calls Try.prog 108 #[.slice (some aw) 2 cw, .int .i64 c] w fun e w' => (∃ v, e = .returned (.tuple #[v, .int .i64 0]) ∧ (Kd.int .i64).R 3 w' w.heap.size (fun _ => True) v [p0, p1]) ∧ Below w.heap.size w w' := by
 have HC := Aside0.mk h
 have HD := Aside0.mk hd
 have hpos := hd.pos
 have hb0 := hd.b0
 have hb1 := hd.b1
 have hbc := hd.bc
 have HS := Aside0.mk hd.sum
 clear h hd
 go_enter Try.func108, Try.ntmps108
 go_wp2_with fail
 have HB3 := Aside0.mk (below_alloc (below_alloc (Below.refl w.heap.size w) (.cells #[.slice (some aw) 2 cw] 26)) (.cells #[.int .i64 c] 3))
 have B2 := Aside0.mk ((Blk.new w [.slice (some aw) 2 cw] 26).alloc (.cells #[.int .i64 c] 3))
 have B3 := Aside0.mk (Blk.second w (.cells #[.slice (some aw) 2 cw] 26) [.int .i64 c] 3)
 have hs3 : w.heap.size + 1 < ((w.alloc (.cells #[.slice (some aw) 2 cw] 26)).alloc (.cells #[.int .i64 c] 3)).heap.size := by simp
 generalize (w.alloc (.cells #[.slice (some aw) 2 cw] 26)).alloc (.cells #[.int .i64 c] 3) = w3 at HB3 B2 B3 hs3 ⊢
 have hall : [w0, w1].all (fun n => withinB n 0 10000) = true := by simp [withinB]; omega
 have hcall := rall_Num 123 #[] #[] (enters Try.func123 (by kernel_rfl) rfl) (fun n => withinB n 0 10000) (some aw) cw [w0, w1] w3 (Kd.C_below HC.out HB3.out) (by simp) (fun W x _ => isCell_calls x W)
 rw [hall] at hcall
 refine hcall.mono ?_
 clear hall hcall
 rintro e w4 ⟨rfl, hb⟩
 have HB4 := Aside0.mk (HB3.out.trans (hb.mono HB3.out.size))
 have B24 := Aside0.mk (B2.out.below hb)
 have B34 := Aside0.mk (B3.out.below hb)
 have hs4 := Nat.lt_of_lt_of_le hs3 hb.size
 clear hb HB3 B2 B3 hs3
 have h20 := B24.out.cell 0
 have h30 := B34.out.cell 0
 simp only [List.getElem?_cons_zero] at h20 h30
 go_wp2_with fail
 have hwb : withinB c 0 100000 = true := by simp [withinB]; omega
 have hcall := rwithin_calls c 0 100000 w4
 rw [hwb] at hcall
 refine hcall.mono ?_
 clear hcall hwb
 rintro e w5 ⟨rfl, hb⟩
 have HB5 := Aside0.mk (HB4.out.trans (hb.mono HB4.out.size))
 have B25 := Aside0.mk (B24.out.below hb)
 have B35 := Aside0.mk (B34.out.below hb)
 have hs5 := Nat.lt_of_lt_of_le hs4 hb.size
 clear hb HB4 B24 B34 hs4 h20 h30
 have h20 := B25.out.cell 0
 have h30 := B35.out.cell 0
 simp only [List.getElem?_cons_zero] at h20 h30
 go_wp2_with fail
 refine (round_total.calls 3 (some aw) cw [w0, w1] (w0 + w1) w5 (Kd.C_below HC.out HB5.out) (by simpa using hcw) (int_total w0 w1 hb0 hb1)).mono ?_
 rintro e w6 ⟨rfl, hb⟩
 replace hb := hb.below
 rw [HS.out]
 have HB6 := Aside0.mk (HB5.out.trans (hb.mono HB5.out.size))
 have B26 := Aside0.mk (B25.out.below hb)
 have B36 := Aside0.mk (B35.out.below hb)
 have hs6 := Nat.lt_of_lt_of_le hs5 hb.size
 clear hb HB5 B25 B35 hs5 h20 h30
 have h20 := (B26.out.alloc (.cells #[.int .i64 s] 3)).cell 0
 have h30 := (B36.out.alloc (.cells #[.int .i64 s] 3)).cell 0
 have h60 := (Blk.new w6 [.int .i64 s] 3).cell 0
 simp only [List.getElem?_cons_zero] at h20 h30 h60
 have hnz : (s == 0) = false := by simp; omega
 go_wp2_with fail
 have hsz : w6.heap.size < (w6.alloc (.cells #[.int .i64 s] 3)).heap.size := by simp
 have HB7 := Aside0.mk (below_alloc HB6.out (.cells #[.int .i64 s] 3))
 have haw : aw.block < w.heap.size := World.block_lt_of_cell? w (aw.add 0) (C2_at HC.out).1
 have E7 := Aside0.mk (DB.mk (B26.out.alloc (.cells #[.int .i64 s] 3)) (B36.out.alloc (.cells #[.int .i64 s] 3)) (Blk.new w6 [.int .i64 s] 3) ((HB7.out.cell (p := aw.add 0) haw).trans (C2_at HC.out).1) ((HB7.out.cell (p := aw.add 1) haw).trans (C2_at HC.out).2))
 clear HB6 B26 B36 h20 h30 h60
 generalize w6.alloc (.cells #[.int .i64 s] 3) = w7 at hsz HB7 E7 ⊢
 generalize w6.heap.size = g6 at hsz hs6 E7 ⊢
 have he7 : w.heap.size + 1 < g6 ∧ g6 < w7.heap.size ∧ aw.block < w7.heap.size := by omega
 have hw7 : w.heap.size ≤ w7.heap.size := by omega
 clear haw hsz hs6
 go_loopw [7, 8, 9, 35] (fun v7 v8 v9 v35 wr => w7.heap.size ≤ wr.heap.size ∧ Aside0 (Below w.heap.size w wr) ∧ Aside0 (DB wr w.heap.size g6 aw cw c w0 w1 s) ∧ ((v35 = .int .i64 0 ∧ v9 = .int .i64 c ∧ Aside0 (Two w7.heap.size wr v7 v8 [] [])) ∨ (v35 = .int .i64 1 ∧ v9 = .int .i64 (c - q0) ∧ Aside0 (Two w7.heap.size wr v7 v8 [q0] [0])) ∨ (v35 = .int .i64 2 ∧ v9 = .int .i64 left ∧ Aside0 (Two w7.heap.size wr v7 v8 [q0, q1] [0, 1])))) (fun _ _ _ v35 _ => 2 - (intOf v35).toNat)
 case atStart => exact ⟨Nat.le_refl _, HB7, E7, .inl ⟨rfl, rfl, ⟨Two.nil _ _⟩⟩⟩
 case round =>
  clear HB7 E7
  obtain ⟨hsr, HB, E, h⟩ := hrel
  have h20 := E.out.l.cell 0
  have h30 := E.out.c.cell 0
  have h60 := E.out.s.cell 0
  have ha0 : wr.cell? aw = some (.int .i64 w0) := by have := E.out.a0; rw [add0] at this; exact this
  have ha1 : wr.cell? ⟨aw.block, aw.off + 1, none⟩ = some (.int .i64 w1) := by have := E.out.a1; rw [add1] at this; exact this
  simp only [List.getElem?_cons_zero] at h20 h30 h60
  rcases h with ⟨rfl, rfl, HT⟩ | ⟨rfl, rfl, HT⟩ | ⟨rfl, rfl, HT⟩
  ·have hm := HD.out.m0
   have he := HD.out.e0
   have hq := HD.out.d0
   go_wp2_with (first | ((with_reducible refine gate_builtin (b := .append) (xs := #[.tmp 40, .tmp 46]) rfl ?_); at_builtin; refine Kd.R_append (Kd.int .i64) (w0 := wr) w7.heap.size rfl (.tmp 40) (.tmp 46) 26 3 (.int .i64 0) 8 rfl Try.underlying26 info3 rfl (by decide) (by omega) u7 ([] : List Int) q0 [.int .i64 q0] (fun _ => True) (fun _ => False) rfl rfl rfl (fun _ hk => hk.elim) (fun _ _ => trivial) HT.out.r1 (Below.refl _ _) hsr (by simp) ?_; intro v7 wn hon hbn hgn hatn; have HT1 := Aside0.mk (HT.out.app1 hon hgn hatn); have HB1 := Aside0.mk (HB.out.trans (hbn.mono hw7)); have E1 := Aside0.mk (E.out.later hbn he7); have hsn := Nat.le_trans hsr hbn.size; clear hon hbn hgn hatn) | ((with_reducible refine gate_builtin (b := .append) (xs := #[.tmp 48, .tmp 50]) rfl ?_); at_builtin; refine Kd.R_append (Kd.int .i64) (w0 := wn) w7.heap.size rfl (.tmp 48) (.tmp 50) 26 3 (.int .i64 0) 8 rfl Try.underlying26 info3 rfl (by decide) (by omega) u8 ([] : List Int) 0 [.int .i64 0] (fun _ => True) (fun _ => False) rfl rfl rfl (fun _ hk => hk.elim) (fun _ _ => trivial) HT1.out.r2 (Below.refl _ _) hsn (by simp) ?_; intro v8 wm hon hbn hgn hatn; have HT2 := Aside0.mk (HT1.out.app2 hon hgn hatn); have HB2 := Aside0.mk (HB1.out.trans (hbn.mono hw7)); have E2 := Aside0.mk (E1.out.later hbn he7); have hsm := Nat.le_trans hsn hbn.size; clear hon hbn hgn hatn HT1 HB1 E1; obtain ⟨ad, cv, e, hcell⟩ := num_at HT2.out.r1 0 (by simp); cases e; simp only [List.nil_append, List.cons_append, List.getD_cons_zero, List.getD_cons_succ] at hcell))
   exact ⟨⟨hsm, HB2, E2, .inr (.inl ⟨rfl, rfl, HT2⟩)⟩, by simp [intOf]⟩
  ·have hm := HD.out.m1
   have he := HD.out.e0
   have he1 := HD.out.e1
   have hq := HD.out.d1
   have hl := HD.out.lf
   go_wp2_with (first | ((with_reducible refine gate_builtin (b := .append) (xs := #[.tmp 40, .tmp 46]) rfl ?_); at_builtin; refine Kd.R_append (Kd.int .i64) (w0 := wr) w7.heap.size rfl (.tmp 40) (.tmp 46) 26 3 (.int .i64 0) 8 rfl Try.underlying26 info3 rfl (by decide) (by omega) u7 [q0] q1 [.int .i64 q1] (fun _ => True) (fun _ => False) rfl rfl rfl (fun _ hk => hk.elim) (fun _ _ => trivial) HT.out.r1 (Below.refl _ _) hsr (by simp) ?_; intro v7 wn hon hbn hgn hatn; have HT1 := Aside0.mk (HT.out.app1 hon hgn hatn); have HB1 := Aside0.mk (HB.out.trans (hbn.mono hw7)); have E1 := Aside0.mk (E.out.later hbn he7); have hsn := Nat.le_trans hsr hbn.size; clear hon hbn hgn hatn) | ((with_reducible refine gate_builtin (b := .append) (xs := #[.tmp 48, .tmp 50]) rfl ?_); at_builtin; refine Kd.R_append (Kd.int .i64) (w0 := wn) w7.heap.size rfl (.tmp 48) (.tmp 50) 26 3 (.int .i64 0) 8 rfl Try.underlying26 info3 rfl (by decide) (by omega) u8 [0] 1 [.int .i64 1] (fun _ => True) (fun _ => False) rfl rfl rfl (fun _ hk => hk.elim) (fun _ _ => trivial) HT1.out.r2 (Below.refl _ _) hsn (by simp) ?_; intro v8 wm hon hbn hgn hatn; have HT2 := Aside0.mk (HT1.out.app2 hon hgn hatn); have HB2 := Aside0.mk (HB1.out.trans (hbn.mono hw7)); have E2 := Aside0.mk (E1.out.later hbn he7); have hsm := Nat.le_trans hsn hbn.size; clear hon hbn hgn hatn HT1 HB1 E1; obtain ⟨ad, cv, e, hcell⟩ := num_at HT2.out.r1 1 (by simp); cases e; simp only [List.nil_append, List.cons_append, List.getD_cons_zero, List.getD_cons_succ] at hcell))
   exact ⟨⟨hsm, HB2, E2, .inr (.inr ⟨rfl, rfl, HT2⟩)⟩, by simp [intOf]⟩
  ·obtain ⟨g7, c7, rfl, h70⟩ := num_at HT.out.r1 0 (by simp)
   obtain ⟨g8, c8, rfl, _⟩ := num_at HT.out.r2 0 (by simp)
   have hne : g7 ≠ g8 := fun e => HT.out.ne g7 (by simp [Value.ownBlock]) (by simp [Value.ownBlock, e])
   obtain ⟨_, hb8, hb8', _⟩ := (Kd.R_bound HT.out.r2).1 g8 (by simp [Value.ownBlock])
   obtain ⟨_, hb7, hb7', _⟩ := (Kd.R_bound HT.out.r1).1 g7 (by simp [Value.ownBlock])
   clear h70
   have HR := Aside0.mk HD.out.rests
   have HR8 := Aside0.mk (show IsO w7.heap.size (fun _ => True) wr g8 c8 [0, 1] from HT.out.r2)
   have HR7 := Aside0.mk (show (Kd.int .i64).R 3 wr w7.heap.size (fun _ => True) (.slice (some ⟨g7, 0, none⟩) 2 c7) [q0, q1] from HT.out.r1)
   have B12 := Aside0.mk (Blk.new wr [.func (.func 126) #[] #[.pointer (some ⟨w.heap.size + 1, 0, none⟩), .pointer (some ⟨w.heap.size, 0, none⟩), .pointer (some ⟨g6, 0, none⟩)]] 186)
   have hb12 : wr.heap.size < (wr.alloc (.cells #[.func (.func 126) #[] #[.pointer (some ⟨w.heap.size + 1, 0, none⟩), .pointer (some ⟨w.heap.size, 0, none⟩), .pointer (some ⟨g6, 0, none⟩)]] 186)).heap.size := by simp
   have HB12 := Aside0.mk (below_alloc HB.out (.cells #[.func (.func 126) #[] #[.pointer (some ⟨w.heap.size + 1, 0, none⟩), .pointer (some ⟨w.heap.size, 0, none⟩), .pointer (some ⟨g6, 0, none⟩)]] 186))
   have HR812 := Aside0.mk (show IsO w7.heap.size (fun _ => True) _ g8 c8 [0, 1] from Kd.R_alloc HR8.out (.cells #[.func (.func 126) #[] #[.pointer (some ⟨w.heap.size + 1, 0, none⟩), .pointer (some ⟨w.heap.size, 0, none⟩), .pointer (some ⟨g6, 0, none⟩)]] 186))
   have HR712 := Aside0.mk (Kd.R_alloc HR7.out (.cells #[.func (.func 126) #[] #[.pointer (some ⟨w.heap.size + 1, 0, none⟩), .pointer (some ⟨w.heap.size, 0, none⟩), .pointer (some ⟨g6, 0, none⟩)]] 186))
   have E12 := Aside0.mk (E.out.later (below_alloc (Below.refl wr.heap.size wr) (.cells #[.func (.func 126) #[] #[.pointer (some ⟨w.heap.size + 1, 0, none⟩), .pointer (some ⟨w.heap.size, 0, none⟩), .pointer (some ⟨g6, 0, none⟩)]] 186)) (by omega))
   go_wp2_with fail
   clear HT HR8 HR7 E HB h20 h30 h60 ha0 ha1
   generalize wr.alloc (.cells #[.func (.func 126) #[] #[.pointer (some ⟨w.heap.size + 1, 0, none⟩), .pointer (some ⟨w.heap.size, 0, none⟩), .pointer (some ⟨g6, 0, none⟩)]] 186) = wa at B12 hb12 HB12 HR812 HR712 E12 ⊢
   generalize wr.heap.size = g12 at B12 hb12 hb8' hb7' hsr ⊢
   refine (sort2_calls (cap := c8) (r0 - r1) HR812.out (enters Try.func128 (by kernel_rfl) rfl) (fun W hK => ?_)).mono ?_
   ·refine cmp_calls (g3 := w.heap.size + 1) (g2 := w.heap.size) (g6 := g6) (g12 := g12) (aw := aw) (cw := cw) ?_ HR.out
    exact ⟨E12.out.c.move (hK.block _ (by omega) (by omega)), E12.out.l.move (hK.block _ (by omega) (by omega)), E12.out.s.move (hK.block _ (by omega) (by omega)), B12.out.move (hK.block _ (by omega) (by omega)), (hK.cell (p := aw.add 0) (by show aw.block < _; omega) (by show ¬ aw.block = _; omega)).trans E12.out.a0, (hK.cell (p := aw.add 1) (by show aw.block < _; omega) (by show ¬ aw.block = _; omega)).trans E12.out.a1⟩
   rintro e wb ⟨rfl, hO, hK⟩
   have HBb := Aside0.mk (show Below w.heap.size w wb from ⟨hK.os.trans HB12.out.os, hK.tape.trans HB12.out.tape, hK.output.trans HB12.out.output, Nat.le_trans HB12.out.size hK.size, fun k hk => (hK.block k (by omega) (by omega)).trans (HB12.out.block k hk)⟩)
   have HR7b := Aside0.mk (Kd.R_step (Kd.R_tight rfl HR712.out) (fun k hk hlt => hK.block k hlt (by simp only [Value.ownBlock, Option.some.injEq] at hk; omega)))
   have hc8 : 2 ≤ c8 := (Kd.R_reads' HR812.out).2.1
   clear HB12 HR812 HR712 E12 B12 hb12
   have HO := Aside0.mk hO
   have hl := HD.out.l01
   have hp := HD.out.parts
   have e0 := HD.out.e0
   have e1 := HD.out.e1
   have hc0 := (IsO.c0 (HR7b.out : IsO _ _ wb g7 c7 [q0, q1]))
   have hc1 := (IsO.c1 (HR7b.out : IsO _ _ wb g7 c7 [q0, q1]))
   have hf0 := (IsO.f0 (HR7b.out : IsO _ _ wb g7 c7 [q0, q1]))
   have hf1 := (IsO.f1 (HR7b.out : IsO _ _ wb g7 c7 [q0, q1]))
   clear hO hK
   rcases hl with rfl | rfl
   ·obtain ⟨rfl, rfl⟩ : p0 = q0 ∧ p1 = q1 := by rw [if_pos rfl] at hp; exact hp
    clear hp HD
    go_wp2_with fail
    go_loopw [67] (fun v67 wc => v67 = .int .i64 0 ∧ wc = wb) (fun _ _ => 0)
    case atStart => exact ⟨rfl, rfl⟩
    case round =>
     obtain ⟨rfl, rfl⟩ := hrel
     go_wp2_with fail
     go_ret2
     exact ⟨⟨_, rfl, Kd.R_mono (Kd.R_lower HR7b.out hw7) (fun _ _ => trivial)⟩, HBb.out⟩
   ·rw [if_neg (by omega)] at hp
    clear HD
    by_cases hd : r0 - r1 < 0
    ·rw [if_pos hd] at hp
     have HO1 := Aside0.mk (show IsO w7.heap.size (fun _ => True) wb g8 c8 [1, 0] by have := HO.out; rw [if_pos hd] at this; exact this)
     obtain ⟨rfl, rfl⟩ := hp
     have ho := HO1.out.c0
     clear HO HO1 hd HR
     go_wp2_with fail
     go_loopw [67] (fun v67 wc => (v67 = .int .i64 0 ∧ wc = wb) ∨ (v67 = .int .i64 1 ∧ wc = wb.setCell ⟨g7, 1, none⟩ (.int .i64 (q1 + 1)))) (fun v67 _ => 1 - (intOf v67).toNat)
     case atStart => exact .inl ⟨rfl, rfl⟩
     case round =>
      rcases hrel with ⟨rfl, rfl⟩ | ⟨rfl, rfl⟩
      ·go_wp2_with fail
       exact ⟨.inr ⟨rfl, trivial⟩, by simp [intOf]⟩
      ·have HRf := Aside0.mk (IsO.p1 (HR7b.out : IsO _ _ wb g7 c7 [p0, q1]) (q1 + 1))
       have HBf := Aside0.mk (HBb.out.setCell (p := ⟨g7, 1, none⟩) (by simp only; omega) (.int .i64 (q1 + 1)))
       generalize wb.setCell ⟨g7, 1, none⟩ (.int .i64 (q1 + 1)) = wf at HRf HBf ⊢
       go_wp2_with fail
       go_ret2
       exact ⟨⟨_, rfl, Kd.R_mono (Kd.R_lower HRf.out hw7) (fun _ _ => trivial)⟩, HBf.out⟩
    ·rw [if_neg hd] at hp
     have HO1 := Aside0.mk (show IsO w7.heap.size (fun _ => True) wb g8 c8 [0, 1] by have := HO.out; rw [if_neg hd] at this; exact this)
     obtain ⟨rfl, rfl⟩ := hp
     have ho := HO1.out.c0
     clear HO HO1 hd HR
     go_wp2_with fail
     go_loopw [67] (fun v67 wc => (v67 = .int .i64 0 ∧ wc = wb) ∨ (v67 = .int .i64 1 ∧ wc = wb.setCell ⟨g7, 0, none⟩ (.int .i64 (q0 + 1)))) (fun v67 _ => 1 - (intOf v67).toNat)
     case atStart => exact .inl ⟨rfl, rfl⟩
     case round =>
      rcases hrel with ⟨rfl, rfl⟩ | ⟨rfl, rfl⟩
      ·go_wp2_with fail
       exact ⟨.inr ⟨rfl, trivial⟩, by simp [intOf]⟩
      ·have HRf := Aside0.mk (IsO.p0 (HR7b.out : IsO _ _ wb g7 c7 [q0, p1]) (q0 + 1))
       have HBf := Aside0.mk (HBb.out.setCell (p := ⟨g7, 0, none⟩) (by simp only; omega) (.int .i64 (q0 + 1)))
       generalize wb.setCell ⟨g7, 0, none⟩ (.int .i64 (q0 + 1)) = wf at HRf HBf ⊢
       go_wp2_with fail
       go_ret2
       exact ⟨⟨_, rfl, Kd.R_mono (Kd.R_lower HRf.out hw7) (fun _ _ => trivial)⟩, HBf.out⟩
end Go.Proofs.Ytiddkceahbnolaa
