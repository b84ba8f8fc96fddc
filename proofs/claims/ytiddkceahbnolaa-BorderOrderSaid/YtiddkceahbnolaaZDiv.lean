/- round's Divide at two weights: slices' stable sort of two indexes. -/
import Derived.Test.YtiddkceahbnolaaZBnd
import Derived.BigQuiet
import Derived.Deep.QuietTactic
namespace Go.Proofs.Ytiddkceahbnolaa
open Go.RowKit Go.Shelf Go.Proofs.Ytiddkceahbnolaa.PBorderOrder Go.Proofs.YtiddkceahbnolaaW.PrintWords Go.Proofs.YtiddkceahbnolaaW.PrintLast
set_option linter.all false
def sr.T6 : Bool × List (List Nat × List Nat) := (true, [([], []), ([], []), ([], []), ([], []), ([3], [3]), ([], []), ([], []), ([6], [6]), ([5, 7], [5, 7]), ([8], [8]), ([], []), ([], []), ([10, 11], [10, 11]), ([12], [12]), ([0, 1, 0, 1, 5, 6, 7, 8, 9, 13], [0, 1]), ([14, 9, 0, 1, 5, 6, 7, 8, 9, 13], [9, 14]), ([2, 4, 0, 1, 2, 3, 4, 5, 6, 7, 8, 9, 10, 11, 12, 13, 14, 15], [2, 4]), ([16, 13, 15, 0, 1, 2, 3, 4, 5, 6, 7, 8, 9, 10, 11, 12, 13, 14, 15], [13, 16])])
def sr.B6 : List Nat := [0, 0, 0, 0, 8, 0, 0, 64, 224, 480, 0, 0, 3072, 7168, 16355, 32739, 65535, 131071]
theorem sr.tab6 : rtab .any (opsOf Try.f133 6) = sr.T6 := by kernel_rfl
theorem sr.bits6 : waitsOk sr.T6.2 sr.B6 = true := by kernel_rfl
set_option maxRecDepth 100000 in
set_option maxHeartbeats 4000000 in
theorem rest_calls {W : World} {g3 g2 g6 : Nat} {aw : Addr} {cw : Nat} {c s : Int} (h0 : W.cell? ⟨g3, 0, none⟩ = some (.int .i64 c)) (h1 : W.cell? ⟨g2, 0, none⟩ = some (.slice (some aw) 2 cw)) (h2 : W.cell? ⟨g6, 0, none⟩ = some (.int .i64 s)) (hs : ¬ s = 0) (i : Nat) (hi : i < 2) (x m r : Int) (hx : W.cell? (aw.add i) = some (.int .i64 x)) (hm : IntKind.i64.wrap (c * x) = m) (hr : m.tmod s = r) :
  Calls Try.prog 126 #[.int .i64 (i : Int), .pointer (some ⟨g3, 0, none⟩), .pointer (some ⟨g2, 0, none⟩), .pointer (some ⟨g6, 0, none⟩)] W fun e w' => e = .returned (.int .i64 r) ∧ ∃ n, w' = W.drewN n := by
 have hi1 : (i : Int) < 2 := by omega
 go_enter Try.func126, Try.ntmps126
 go_wp2_with fail
 go_quiet (fail)
 go_wp2
 go_ret
 exact ⟨rfl, _, rfl⟩
/-- What the closures of Divide look at: the count, the two weights, their sum; what the weights leave. -/
structure DEnv (w : World) (g3 g2 g6 g12 : Nat) (aw : Addr) (cw : Nat) (c w0 w1 s : Int) : Prop where
 c : Blk w g3 [.int .i64 c] 3
 l : Blk w g2 [.slice (some aw) 2 cw] 26
 s : Blk w g6 [.int .i64 s] 3
 f : Blk w g12 [.func (.func 126) #[] #[.pointer (some ⟨g3, 0, none⟩), .pointer (some ⟨g2, 0, none⟩), .pointer (some ⟨g6, 0, none⟩)]] 186
 a0 : w.cell? (aw.add 0) = some (.int .i64 w0)
 a1 : w.cell? (aw.add 1) = some (.int .i64 w1)
/-- What two weights leave of a count. -/
structure Rests (c w0 w1 s r0 r1 : Int) : Prop where
 nz : ¬ s = 0
 hm0 : IntKind.i64.wrap (c * w0) = c * w0
 hm1 : IntKind.i64.wrap (c * w1) = c * w1
 hr0 : (c * w0).tmod s = r0
 hr1 : (c * w1).tmod s = r1
 hb0 : 0 ≤ r0 ∧ r0 < 100000000
 hb1 : 0 ≤ r1 ∧ r1 < 100000000
set_option maxRecDepth 100000 in
set_option maxHeartbeats 4000000 in
theorem cmp_calls {W : World} {g3 g2 g6 g12 : Nat} {aw : Addr} {cw : Nat} {c w0 w1 s r0 r1 : Int} (h : DEnv W g3 g2 g6 g12 aw cw c w0 w1 s) (hr : Rests c w0 w1 s r0 r1) :
  Calls Try.prog 128 #[.int .i64 1, .int .i64 0, .pointer (some ⟨g12, 0, none⟩)] W fun e w' => e = .returned (.int .i64 (r0 - r1)) ∧ ∃ n, w' = W.drewN n := by
 have h0 := h.c.cell 0
 have h1 := h.l.cell 0
 have h2 := h.s.cell 0
 have h3 := h.f.cell 0
 simp only [List.getElem?_cons_zero] at h0 h1 h2 h3
 have HC0 := Aside0.mk (fun n : Nat => rest_calls (W := W.drewN n) h0 h1 h2 hr.nz 0 (by omega) w0 (c * w0) r0 h.a0 hr.hm0 hr.hr0)
 have HC1 := Aside0.mk (fun n : Nat => rest_calls (W := W.drewN n) h0 h1 h2 hr.nz 1 (by omega) w1 (c * w1) r1 h.a1 hr.hm1 hr.hr1)
 have b0 := hr.hb0
 have b1 := hr.hb1
 have hw : IntKind.i64.wrap (r0 - r1) = r0 - r1 := IntWalk.i64_in _ (by omega)
 clear h hr h0 h1 h2
 simp only [Int.ofNat_zero, Int.ofNat_one] at HC0 HC1
 have eg : ∀ args w, (callFunc 126 args).run Try.prog w = .ok (.enter 126 args) w := enters Try.func126 (by kernel_rfl) rfl
 go_enter Try.func128, Try.ntmps128
 go_wp2_with fail
 go_quiet (first | (go_at_fn 126; with_reducible exact Calls.quiet_of (HC0.out _)) | (go_at_fn 126; with_reducible exact Calls.quiet_of (HC1.out _)))
 go_wp2
 go_ret
 exact ⟨rfl, _, rfl⟩
def IsO (base : Nat) (ok : Nat → Prop) (w : World) (go cap : Nat) (l : List Int) : Prop := (Kd.int .i64).R 3 w base ok (.slice (some ⟨go, 0, none⟩) 2 cap) l
theorem IsO.c0 {base : Nat} {ok : Nat → Prop} {w : World} {go cap : Nat} {a b : Int} (h : IsO base ok w go cap [a, b]) : w.cell? ⟨go, 0, none⟩ = some (.int .i64 a) := (Kd.R_celln (0 : Int) h 0 (by omega) (by omega)).1
theorem IsO.c1 {base : Nat} {ok : Nat → Prop} {w : World} {go cap : Nat} {a b : Int} (h : IsO base ok w go cap [a, b]) : w.cell? ⟨go, 1, none⟩ = some (.int .i64 b) := (Kd.R_celln (0 : Int) h 1 (by omega) (by omega)).1
theorem IsO.f0 {base : Nat} {ok : Nat → Prop} {w : World} {go cap : Nat} {a b : Int} (h : IsO base ok w go cap [a, b]) : w.frozen? ⟨go, 0, none⟩ = false := (Kd.R_celln (0 : Int) h 0 (by omega) (by omega)).2
theorem IsO.f1 {base : Nat} {ok : Nat → Prop} {w : World} {go cap : Nat} {a b : Int} (h : IsO base ok w go cap [a, b]) : w.frozen? ⟨go, 1, none⟩ = false := (Kd.R_celln (0 : Int) h 1 (by omega) (by omega)).2
theorem IsO.p0 {base : Nat} {ok : Nat → Prop} {w : World} {go cap : Nat} {a b : Int} (h : IsO base ok w go cap [a, b]) (x : Int) : IsO base ok (w.setCell ⟨go, 0, none⟩ (.int .i64 x)) go cap [x, b] := Kd.R_putn h 0 x
theorem IsO.p1 {base : Nat} {ok : Nat → Prop} {w : World} {go cap : Nat} {a b : Int} (h : IsO base ok w go cap [a, b]) (x : Int) : IsO base ok (w.setCell ⟨go, 1, none⟩ (.int .i64 x)) go cap [a, x] := Kd.R_putn h 1 x
theorem IsO.drewN {base : Nat} {ok : Nat → Prop} {w : World} {go cap : Nat} {l : List Int} (h : IsO base ok w go cap l) (n : Nat) : IsO base ok (w.drewN n) go cap l := Kd.R_drewN h n
set_option maxRecDepth 100000 in
set_option maxHeartbeats 4000000 in
/-- slices' insertion sort of two indexes, by a comparison that says d of the second and the first. -/
theorem ins2_calls {w : World} {base go cap g : Nat} {ok : Nat → Prop} {cb : Array Value} (d : Int) (hO : IsO base ok w go cap [0, 1]) (eg : ∀ args w, (callFunc g args).run Try.prog w = .ok (.enter g args) w)
  (hc : ∀ W, Keep w.heap.size (fun b => b = go) w W → Calls Try.prog g (#[.int .i64 1, .int .i64 0] ++ cb) W fun e w' => e = .returned (.int .i64 d) ∧ ∃ n, w' = W.drewN n) :
  Calls Try.prog 133 #[.slice (some ⟨go, 0, none⟩) 2 cap, .int .i64 0, .int .i64 2, .func (.func g) #[] cb] w fun e w' => e = .returned (.tuple #[]) ∧ IsO base ok w' go cap (if d < 0 then [1, 0] else [0, 1]) ∧ Keep w.heap.size (fun b => b = go) w w' := by
 have HO := Aside0.mk hO
 have HC := Aside0.mk hc
 have HF := Aside0.mk (show ∃ l, (if d < 0 then [1, 0] else [0, 1] : List Int) = l from ⟨_, rfl⟩)
 obtain ⟨F, hF⟩ := HF.out
 rw [hF]
 have HF := Aside0.mk hF
 have EG := Aside0.mk eg
 clear hO hc hF eg
 go_enter Try.func133, Try.ntmps133
 go_wp2_with fail
 go_loopw [8] (fun v8 wr => Aside0 (Keep w.heap.size (fun b => b = go) w wr) ∧ ((v8 = .int .i64 1 ∧ Aside0 (IsO base ok wr go cap [0, 1])) ∨ (v8 = .int .i64 2 ∧ Aside0 (IsO base ok wr go cap F)))) (fun v8 _ => 2 - (intOf v8).toNat)
 case atStart => exact ⟨⟨Keep.refl _ _ _⟩, .inl ⟨rfl, HO⟩⟩
 case round =>
  obtain ⟨HK, h⟩ := hrel
  rcases h with ⟨rfl, BO⟩ | ⟨rfl, BO⟩
  ·go_wp2_with fail
   go_loopw [9] (fun v9 wr => Aside0 (Keep w.heap.size (fun b => b = go) w wr) ∧ ((v9 = .int .i64 1 ∧ Aside0 (IsO base ok wr go cap [0, 1])) ∨ (v9 = .int .i64 0 ∧ Aside0 (IsO base ok wr go cap F)))) (fun v9 _ => (intOf v9).toNat)
   case atStart => exact ⟨HK, .inl ⟨rfl, BO⟩⟩
   case round =>
    clear HK BO
    obtain ⟨HK, h⟩ := hrel
    rcases h with ⟨rfl, BO⟩ | ⟨rfl, BO⟩
    ·have h0 := BO.out.c0
     have h1 := BO.out.c1
     have HCn := Aside0.mk (fun n : Nat => HC.out (wr.drewN n) (HK.out.drewN n))
     have eg := EG.out
     by_cases hd : d < 0
     ·have hdb : decide (d < 0) = true := decide_eq_true hd
      have hFt : F = [1, 0] := by have := HF.out; rw [if_pos hd] at this; exact this.symm
      have HFT := Aside0.mk hFt
      clear hFt hd
      go_wp2_with fail
      go_quiet ((go_at_fn g; with_reducible exact Calls.quiet_of (HCn.out _)))
      replace BO := Aside0.mk (BO.out.drewN nq)
      replace HK := Aside0.mk (HK.out.drewN nq)
      replace h0 : (wr.drewN nq).cell? ⟨go, 0, none⟩ = some (.int .i64 0) := h0
      replace h1 : (wr.drewN nq).cell? ⟨go, 1, none⟩ = some (.int .i64 1) := h1
      clear HCn eg
      generalize wr.drewN nq = wd at BO HK h0 h1 ⊢
      go_wp2_with fail
      have hwz : wrap64 0 = 0 := IntWalk.wrap64_in _ (by omega)
      refine start_ (n := 18) (S := fun w' => w'.cell? ⟨go, 0, none⟩ = some (.int .i64 0) ∧ w'.cell? ⟨go, 1, none⟩ = some (.int .i64 1)) (ds := [15, 17]) #[O,O,O,O,O,O,O,O,O,O,O,O,O,O,O,O,O,O] (by kernel_rfl) rfl rfl ⟨h0, h1⟩ (fun hHeld => ?_); refine with_tabW sr.tab6 sr.bits6 (fun HT_ HW_ => ?_)
      replace BO := Aside0.mk (show IsO base ok wd.drew go cap _ from Kd.R_drew BO.out)
      replace HK := Aside0.mk HK.out.drew
      replace h0 : wd.drew.cell? ⟨go, 0, none⟩ = some (.int .i64 0) := h0
      replace h1 : wd.drew.cell? ⟨go, 1, none⟩ = some (.int .i64 1) := h1
      generalize wd.drew = we at BO HK h0 h1 hHeld ⊢
      refine pu_ 0 37 #[I,O,O,O,O,O,O,O,O,O,O,O,O,O,O,O,O,O] HT_ (h := ?_)
      refine pu_ 1 38 #[I,I,O,O,O,O,O,O,O,O,O,O,O,O,O,O,O,O] HT_ (h := ?_)
      refine pu_ 2 39 #[I,I,I,O,O,O,O,O,O,O,O,O,O,O,O,O,O,O] HT_ (h := ?_)
      refine pu_ 3 40 #[I,I,I,I,O,O,O,O,O,O,O,O,O,O,O,O,O,O] HT_ (h := ?_)
      refine pu_ 4 41 #[I,I,I,I,I,O,O,O,O,O,O,O,O,O,O,O,O,O] HT_ (h := ?_)
      refine pu_ 5 42 #[I,I,I,I,I,I,O,O,O,O,O,O,O,O,O,O,O,O] HT_ (h := ?_)
      refine pu_ 6 43 #[I,I,I,I,I,I,I,O,O,O,O,O,O,O,O,O,O,O] HT_ (h := ?_)
      refine pu_ 7 44 #[I,I,I,I,I,I,I,I,O,O,O,O,O,O,O,O,O,O] HT_ (h := ?_)
      refine pu_ 8 45 #[I,I,I,I,I,I,I,I,I,O,O,O,O,O,O,O,O,O] HT_ (h := ?_)
      refine ta_ 9 46 #[I,I,I,I,I,I,I,I,I,I,O,O,O,O,O,O,O,O] HT_ HW_ hHeld (hy := by (rintro w' ⟨s0, s1⟩; go_simp; with_reducible rfl)) (h := ?_)
      refine pu_ 10 47 #[I,I,I,I,I,I,I,I,I,I,I,O,O,O,O,O,O,O] HT_ (h := ?_)
      refine pu_ 11 48 #[I,I,I,I,I,I,I,I,I,I,I,I,O,O,O,O,O,O] HT_ (h := ?_)
      refine pu_ 12 49 #[I,I,I,I,I,I,I,I,I,I,I,I,I,O,O,O,O,O] HT_ (h := ?_)
      refine ta_ 13 50 #[I,I,I,I,I,I,I,I,I,I,I,I,I,I,O,O,O,O] HT_ HW_ hHeld (hy := by (rintro w' ⟨s0, s1⟩; go_simp; with_reducible rfl)) (h := ?_)
      refine pu_ 14 51 #[I,I,I,I,I,I,I,I,I,I,I,I,I,I,I,O,O,O] HT_ (h := ?_)
      refine last_ (i := 15) (N := none) #[I,I,I,I,I,I,I,I,I,I,I,I,I,I,I,I,O,O] rfl rfl (one_of HT_.out (by kernel_rfl)) (by decide) (fun K hK => ?_)
      have hst_ := h1
      have hfr_ := BO.out.f1
      refine skip_ (w1 := ?_) (by rfl) rfl ?_ ?_
      rotate_left
      ·go_simp
       rfl
      refine hK.out _ _ ?_
      clear hK K hst_ hfr_ 
      have BO1 := Aside0.mk (BO.out.p1 0)
      have HK1 := Aside0.mk (HK.out.setCell (p := ⟨go, 1, none⟩) (.inl rfl) (.int .i64 0))
      clear BO HK h0 h1
      have h0 := BO1.out.c0
      generalize we.setCell ⟨go, 1, none⟩ (.int .i64 0) = wf at BO1 HK1 h0 ⊢
      refine pu_ 16 52 #[I,I,I,I,I,I,I,I,I,I,I,I,I,I,I,I,I,O] HT_ (h := ?_)
      refine last_ (i := 17) (N := none) #[I,I,I,I,I,I,I,I,I,I,I,I,I,I,I,I,I,I] rfl rfl (one_of HT_.out (by kernel_rfl)) (by decide) (fun K hK => ?_)
      have hst_ := h0
      have hfr_ := BO1.out.f0
      refine skip_ (w1 := ?_) (by rfl) rfl ?_ ?_
      rotate_left
      ·go_simp
       rfl
      refine hK.out _ _ ?_
      clear hK K hst_ hfr_ 
      have BO2 := Aside0.mk (BO1.out.p0 1)
      have HK2 := Aside0.mk (HK1.out.setCell (p := ⟨go, 0, none⟩) (.inl rfl) (.int .i64 1))
      clear BO1 HK1 h0
      generalize wf.setCell ⟨go, 0, none⟩ (.int .i64 1) = wg at BO2 HK2 ⊢
      refine done_ (done_of HT_.out (by kernel_rfl)) ?_
      clear hwz
      go_wp2_with fail
      go_roundw
      case rel => exact ⟨HK2, .inr ⟨rfl, by rw [HFT.out]; exact BO2⟩⟩
      case measure => simp [intOf]
     ·have hdb : decide (d < 0) = false := decide_eq_false hd
      have hFt : F = [0, 1] := by have := HF.out; rw [if_neg hd] at this; exact this.symm
      have HFT := Aside0.mk hFt
      clear hFt hd
      go_wp2_with fail
      go_quiet ((go_at_fn g; with_reducible exact Calls.quiet_of (HCn.out _)))
      replace BO := Aside0.mk (BO.out.drewN nq)
      replace HK := Aside0.mk (HK.out.drewN nq)
      clear HCn eg h0 h1
      generalize wr.drewN nq = wd at BO HK ⊢
      go_wp2_with fail
      go_roundw
      case rel => exact ⟨HK, .inr ⟨rfl, by rw [HFT.out]; exact BO⟩⟩
      case measure => simp [intOf]
    ·go_wp2_with fail
     go_quiet (fail)
     replace BO := Aside0.mk (BO.out.drewN nq)
     replace HK := Aside0.mk (HK.out.drewN nq)
     generalize wr.drewN nq = wd at BO HK ⊢
     go_wp2_with fail
     go_roundw
     case rel => exact ⟨HK, .inr ⟨rfl, BO⟩⟩
     case measure => simp [intOf]
  ·go_wp2_with fail
   go_end0
   exact ⟨rfl, BO.out, HK.out⟩
set_option maxRecDepth 100000 in
set_option maxHeartbeats 4000000 in
/-- slices' stable sort of two indexes. -/
theorem stable2_calls {w : World} {base go cap g : Nat} {ok : Nat → Prop} {cb : Array Value} (d : Int) (hO : IsO base ok w go cap [0, 1]) (eg : ∀ args w, (callFunc g args).run Try.prog w = .ok (.enter g args) w)
  (hc : ∀ W, Keep w.heap.size (fun b => b = go) w W → Calls Try.prog g (#[.int .i64 1, .int .i64 0] ++ cb) W fun e w' => e = .returned (.int .i64 d) ∧ ∃ n, w' = W.drewN n) :
  Calls Try.prog 132 #[.slice (some ⟨go, 0, none⟩) 2 cap, .int .i64 2, .func (.func g) #[] cb] w fun e w' => e = .returned (.tuple #[]) ∧ IsO base ok w' go cap (if d < 0 then [1, 0] else [0, 1]) ∧ Keep w.heap.size (fun b => b = go) w w' := by
 have HI := Aside0.mk (ins2_calls (cap := cap) (cb := cb) d hO eg hc)
 obtain ⟨F, hF⟩ : ∃ l, (if d < 0 then [1, 0] else [0, 1] : List Int) = l := ⟨_, rfl⟩
 rw [hF] at HI ⊢
 clear hO hc eg hF
 go_enter Try.func132, Try.ntmps132
 go_wp2_with fail
 go_loopw [7, 8] (fun v7 v8 wr => v7 = .int .i64 0 ∧ v8 = .int .i64 20 ∧ wr = w) (fun _ _ _ => 0)
 case atStart => exact ⟨rfl, rfl, rfl⟩
 case round =>
  obtain ⟨rfl, rfl, rfl⟩ := hrel
  go_wp2_with fail
  refine HI.out.mono ?_
  rintro e w1 ⟨rfl, hb, hk⟩
  have HB := Aside0.mk hb
  have HK := Aside0.mk hk
  clear hb hk HI
  go_wp2_with fail
  go_loopw [6] (fun v6 w2 => v6 = .int .i64 20 ∧ w2 = w1) (fun _ _ => 0)
  case atStart => exact ⟨rfl, rfl⟩
  case round =>
   obtain ⟨rfl, rfl⟩ := hrel
   go_wp2_with fail
   go_end0
   exact ⟨rfl, HB.out, HK.out⟩
theorem sort2_calls {w : World} {base go cap g : Nat} {ok : Nat → Prop} {cb : Array Value} (d : Int) (hO : IsO base ok w go cap [0, 1]) (eg : ∀ args w, (callFunc g args).run Try.prog w = .ok (.enter g args) w)
  (hc : ∀ W, Keep w.heap.size (fun b => b = go) w W → Calls Try.prog g (#[.int .i64 1, .int .i64 0] ++ cb) W fun e w' => e = .returned (.int .i64 d) ∧ ∃ n, w' = W.drewN n) :
  Calls Try.prog 127 #[.slice (some ⟨go, 0, none⟩) 2 cap, .func (.func g) #[] cb] w fun e w' => e = .returned (.tuple #[]) ∧ IsO base ok w' go cap (if d < 0 then [1, 0] else [0, 1]) ∧ Keep w.heap.size (fun b => b = go) w w' := by
 have HI := Aside0.mk (stable2_calls (cap := cap) (cb := cb) d hO eg hc)
 obtain ⟨F, hF⟩ : ∃ l, (if d < 0 then [1, 0] else [0, 1] : List Int) = l := ⟨_, rfl⟩
 rw [hF] at HI ⊢
 clear hO hc eg hF
 go_enter Try.func127, Try.ntmps127
 go_wp2_with fail
 refine HI.out.mono ?_
 rintro e w1 ⟨rfl, hb, hk⟩
 have HB := Aside0.mk hb
 have HK := Aside0.mk hk
 clear hb hk HI
 go_wp2_with fail
 go_end0
 exact ⟨rfl, HB.out, HK.out⟩
end Go.Proofs.Ytiddkceahbnolaa
