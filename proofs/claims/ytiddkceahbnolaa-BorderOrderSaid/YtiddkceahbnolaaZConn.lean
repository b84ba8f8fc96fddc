/- border's connected: the walk. -/
import Derived.Test.YtiddkceahbnolaaZConP
import Derived.BigQuiet
import Derived.Deep.QuietTactic
namespace Go.Proofs.Ytiddkceahbnolaa
open Go.RowKit Go.Shelf Go.Proofs.Ytiddkceahbnolaa.PBorderOrder Go.Proofs.YtiddkceahbnolaaW.PrintWords Go.Proofs.YtiddkceahbnolaaW.PrintLast Go.Proofs.YtiddkceahbnolaaW.PrintMore
set_option linter.all false
def cn.T17 : Bool × List (List Nat × List Nat) := (true, [([], []), ([0], [0]), ([1], [1]), ([2], [2]), ([], []), ([], []), ([4, 5], [4, 5]), ([6], [6]), ([], []), ([], []), ([8, 9], [8, 9]), ([10], [10]), ([7, 11], [7, 11]), ([3, 12], [3, 12])])
def cn.B17 : List Nat := [0, 1, 3, 7, 0, 0, 48, 112, 0, 0, 768, 1792, 4080, 8191]
theorem cn.tab17 : rtab .any (opsOf Try.f58 17) = cn.T17 := by kernel_rfl
theorem cn.bits17 : waitsOk cn.T17.2 cn.B17 = true := by kernel_rfl
def cn.T18 : Bool × List (List Nat × List Nat) := (true, [([], []), ([], []), ([], []), ([], []), ([], []), ([], []), ([4, 5], [4, 5]), ([6], [6]), ([], []), ([], []), ([8, 9], [8, 9]), ([10], [10]), ([0, 1, 0, 1, 4, 5, 6, 7, 11], [0, 1]), ([12, 7, 0, 1, 4, 5, 6, 7, 11], [7, 12]), ([2, 3, 0, 1, 2, 3, 4, 5, 6, 7, 8, 9, 10, 11, 12, 13], [2, 3]), ([14, 11, 13, 0, 1, 2, 3, 4, 5, 6, 7, 8, 9, 10, 11, 12, 13], [11, 14])])
def cn.B18 : List Nat := [0, 0, 0, 0, 0, 0, 48, 112, 0, 0, 768, 1792, 4083, 8179, 16383, 32767]
theorem cn.tab18 : rtab .any (opsOf Try.f58 18) = cn.T18 := by kernel_rfl
theorem cn.bits18 : waitsOk cn.T18.2 cn.B18 = true := by kernel_rfl
def castL (ys : List Nat) : List Int := ys.map (fun n : Nat => (n : Int))
theorem castL_get (ys : List Nat) (i : Nat) (h : i < ys.length) : rdOf (0 : Int) (castL ys) (i : Int) = ((ys.getD i 0 : Nat) : Int) := by
 simp [rdOf, castL, List.getD, h]
theorem ints_cell {W : World} {base g n cap : Nat} {ok : Nat → Prop} {ys : List Nat} (h : (Kd.int .i64).R 3 W base ok (.slice (some ⟨g, 0, none⟩) n cap) (castL ys)) (i : Nat) (hi : i < n) : W.cell? ⟨g, i, none⟩ = some (.int .i64 ((ys.getD i 0 : Nat) : Int)) ∧ W.frozen? ⟨g, i, none⟩ = false := by
 have hl : n = ys.length := by obtain ⟨e, _⟩ := Kd.R_reads' h; rw [e]; simp [castL]
 have := Kd.R_celln (0 : Int) h (i : Int) (by omega) (by omega)
 rw [castL_get ys i (by omega)] at this
 exact this
theorem ints_put {W : World} {base g n cap : Nat} {ok : Nat → Prop} {xs : List Int} (h : (Kd.int .i64).R 3 W base ok (.slice (some ⟨g, 0, none⟩) n cap) xs) (i : Nat) (x : Nat) : (Kd.int .i64).R 3 (W.setCell ⟨g, i, none⟩ (.int .i64 (x : Int))) base ok (.slice (some ⟨g, 0, none⟩) n cap) (xs.set i (x : Int)) :=
 Kd.R_putn h (i : Int) (x : Int)
theorem ints_at {W : World} {base g n cap : Nat} {ok : Nat → Prop} {xs : List Int} (h : (Kd.int .i64).R 3 W base ok (.slice (some ⟨g, 0, none⟩) n cap) xs) (i : Nat) (hi : i < n) : W.cell? ⟨g, i, none⟩ = some (.int .i64 (rdOf (0 : Int) xs (i : Int))) := (Kd.R_celln (0 : Int) h (i : Int) (by omega) (by omega)).1
theorem ints_frozen {W : World} {base g n cap : Nat} {ok : Nat → Prop} {xs : List Int} (h : (Kd.int .i64).R 3 W base ok (.slice (some ⟨g, 0, none⟩) n cap) xs) (i : Nat) (hi : i < n) : W.frozen? ⟨g, i, none⟩ = false := (Kd.R_celln (0 : Int) h (i : Int) (by omega) (by omega)).2
theorem castL_swap (ys : List Nat) (k r a b : Nat) : ((castL ys).set k (a : Int)).set r (b : Int) = castL (swapL ys k r a b) := by simp [castL, swapL, List.map_set]
def membersAt (l : Nat → Int) (d : Int) (k : Nat) : List Nat := (List.range k).filter (fun i => l i == d)
theorem membersAt_succ (l : Nat → Int) (d : Int) (k : Nat) : membersAt l d (k + 1) = if l k == d then membersAt l d k ++ [k] else membersAt l d k := by
 unfold membersAt
 rw [List.range_succ, List.filter_append]
 by_cases h : (l k == d) = true
 ·rw [if_pos h]
  simp [List.filter_cons, h]
 ·rw [if_neg h]
  simp [List.filter_cons, h]
theorem membersAt_nodup (l : Nat → Int) (d : Int) (k : Nat) : (membersAt l d k).Nodup := List.Nodup.sublist List.filter_sublist List.nodup_range
theorem membersAt_len (l : Nat → Int) (d : Int) (k : Nat) : (membersAt l d k).length ≤ k := by
 have := List.length_filter_le (fun i => l i == d) (List.range k)
 rwa [List.length_range] at this
theorem membersAt_lt {l : Nat → Int} {d : Int} {k x : Nat} (h : x ∈ membersAt l d k) : x < k := List.mem_range.1 (List.mem_filter.1 h).1
theorem jn_symm (js : List S119) (a b : Nat) : jn js a b = jn js b a := by
 unfold jn
 congr 1
 funext j
 rw [Bool.or_comm]
set_option maxRecDepth 100000 in
set_option maxHeartbeats 40000000 in
theorem connected_calls {A0 : Option Addr} {c0 : Nat} {old : List Int} {nw : Int} {A2 : Option Addr} {c2 : Nat} {ss : List S115} {A3 : Option Addr} {c3 : Nat} {js : List S119} {w : World} {gw mb : Nat} (hw : IsW w gw mb A0 c0 old nw A2 c2 ss A3 c3 js) (hss : ss.length ≤ 8) (l : Nat → Int) (d : Int) :
  Calls Try.prog 58 #[.pointer (some ⟨gw, 0, none⟩), encL l, .int .i64 d] w fun e w' => e = .returned (.bool (connB (jn js) (membersAt l d ss.length))) ∧ Below w.heap.size w w' := by
 have HBW := Aside0.mk hw.blk
 have HJM := Aside0.mk hw.jm
 clear hw
 unfold encL
 go_enter Try.func58, Try.ntmps58
 have hgw := HBW.out.lt
 have hmb := HJM.out.lt
 have hc2 := HBW.out.cell 2
 simp only [sb3, sb4] at hc2
 go_wp2_with fail
 clear hc2
 have HB0 := Aside0.mk (below_alloc (Below.refl w.heap.size w) (.cells #[.int .i64 (l 0), .int .i64 (l 1), .int .i64 (l 2), .int .i64 (l 3), .int .i64 (l 4), .int .i64 (l 5), .int .i64 (l 6), .int .i64 (l 7)] 121))
 have B1 := Aside0.mk (show Blk (w.alloc (.cells #[.int .i64 (l 0), .int .i64 (l 1), .int .i64 (l 2), .int .i64 (l 3), .int .i64 (l 4), .int .i64 (l 5), .int .i64 (l 6), .int .i64 (l 7)] 121)) w.heap.size (cellsL l) 121 from Blk.new w (cellsL l) 121)
 have hs0 : w.heap.size < (w.alloc (.cells #[.int .i64 (l 0), .int .i64 (l 1), .int .i64 (l 2), .int .i64 (l 3), .int .i64 (l 4), .int .i64 (l 5), .int .i64 (l 6), .int .i64 (l 7)] 121)).heap.size := by simp
 generalize w.alloc (.cells #[.int .i64 (l 0), .int .i64 (l 1), .int .i64 (l 2), .int .i64 (l 3), .int .i64 (l 4), .int .i64 (l 5), .int .i64 (l 6), .int .i64 (l 7)] 121) = w1 at HB0 B1 hs0 ⊢
 go_loopw [7, 18] (fun v7 v18 wr => ∃ k : Nat, k ≤ ss.length ∧ v18 = .int .i64 k ∧ Aside0 (Below w.heap.size w wr) ∧ Aside0 (Blk wr w.heap.size (cellsL l) 121) ∧ w1.heap.size ≤ wr.heap.size ∧ Aside0 ((Kd.int .i64).R 3 wr w1.heap.size (fun b => w1.heap.size ≤ b) v7 (castL (membersAt l d k)))) (fun _ v18 _ => ss.length - (intOf v18).toNat)
 case atStart => exact ⟨0, Nat.zero_le _, rfl, HB0, B1, Nat.le_refl _, ⟨Kd.R_nil _ _ _ _ _⟩⟩
 case round =>
  clear HB0 B1
  obtain ⟨k, hk, rfl, HB, B1, hsr, HR⟩ := hrel
  by_cases hkl : k < ss.length
  ·have hc := B1.out.cell k
   rw [cellsL_get l k (by omega)] at hc
   have hk0 : (0 : Int) ≤ (k : Int) := by omega
   have hk8 : (k : Int) < 8 := by omega
   have hsu := membersAt_succ l d k
   have hle := membersAt_len l d k
   cases hm : (l k == d)
   ·rw [hm, if_neg (by simp)] at hsu
    have HSU := Aside0.mk hsu
    clear hsu hle
    go_wp2_with fail
    refine ⟨⟨k + 1, by omega, by go_num, HB, B1, hsr, ⟨by rw [HSU.out]; exact HR.out⟩⟩, by simp [intOf]; omega⟩
   ·rw [hm, if_pos rfl] at hsu
    have HSU := Aside0.mk hsu
    clear hsu
    have HLE := Aside0.mk (show (castL (membersAt l d k)).length ≤ k by simpa [castL] using hle)
    clear hle
    go_wp2_with ((with_reducible refine gate_builtin (b := .append) (xs := #[.tmp 26, .tmp 28]) rfl ?_); at_builtin; refine Kd.R_append (Kd.int .i64) (w0 := wr) w1.heap.size rfl (.tmp 26) (.tmp 28) 26 3 (.int .i64 0) 8 rfl Try.underlying26 info3 rfl (by decide) (by omega) u7 (castL (membersAt l d k)) (k : Int) [.int .i64 (k : Int)] (fun b => w1.heap.size ≤ b) (fun _ => False) rfl rfl ?aP (fun _ hk => hk.elim) ?aF ?aO ?aB ?aS ?aL ?_; (case aP => exact rfl); (case aF => exact (fun b hb => Nat.le_trans hsr hb)); (case aO => exact HR.out); (case aB => exact Below.refl _ _); (case aS => exact hsr); (case aL => have := HLE.out; omega); intro vn wn hon hbn hgn hatn; have HRn := Aside0.mk hon; have HBn := Aside0.mk (HB.out.trans (hbn.mono (by omega))); have Bn := Aside0.mk (B1.out.move (hbn.block _ hs0)); have hsn := Nat.le_trans hsr hbn.size; clear hon hbn hgn hatn)
    go_roundw
    case rel => exact ⟨k + 1, by omega, by go_num, HBn, Bn, hsn, ⟨by rw [HSU.out]; have := HRn.out; simpa [castL] using this⟩⟩
    case measure => simp [intOf]; omega
  ·obtain rfl : k = ss.length := by omega
   have HND := Aside0.mk (membersAt_nodup l d ss.length)
   have HLT := Aside0.mk (fun x (hx : x ∈ membersAt l d ss.length) => (membersAt_lt hx : x < ss.length))
   have hle := membersAt_len l d ss.length
   obtain ⟨ms, hms⟩ : ∃ ms, membersAt l d ss.length = ms := ⟨_, rfl⟩
   rw [hms] at HR HND HLT hle
   have HMS := Aside0.mk hms
   clear hms
   obtain ⟨A7, c7, hv, _, _⟩ := Kd.R_reads HR.out
   subst hv
   obtain ⟨n, hn⟩ : ∃ n, (castL ms).length = n := ⟨_, rfl⟩
   have hnl : n = ms.length := by rw [← hn]; simp [castL]
   rw [hn] at HR
   rw [hn]
   by_cases h0 : n = 0
   ·have e0 : ms = [] := List.length_eq_zero_iff.1 (by omega)
    subst h0 e0
    clear hn hnl
    go_wp2_with fail
    go_ret
    rw [HMS.out]
    exact ⟨rfl, HB.out⟩
   have hnz : ((n : Int) == 0) = false := by simpa using h0
   obtain ⟨g, cap, hv, hg1, hg2, _⟩ := Kd.R_form HR.out (by rw [hn]; omega)
   rw [hn] at hv
   injection hv with hv1 hv2 hv3
   subst hv1 hv3
   have hn8 : n ≤ 8 := by omega
   have HF := Aside0.mk (Bfs.start (f := jn js) HND.out (show 0 < ms.length by omega))
   have HN := Aside0.mk hnl
   clear hn hnl hv2 hle B1
   go_wp2_with fail
   have hgb : w.heap.size ≤ g := by omega
   go_loopw [9, 10] (fun v9 v10 wr => ∃ (ys : List Nat) (r nx : Nat), v9 = .int .i64 r ∧ v10 = .int .i64 nx ∧ nx ≤ r ∧ r ≤ n ∧ Aside0 (Bfs (jn js) ms ys r nx) ∧ Aside0 (Below w.heap.size w wr) ∧ Aside0 ((Kd.int .i64).R 3 wr w1.heap.size (fun b => w1.heap.size ≤ b) (.slice (some ⟨g, 0, none⟩) n c7) (castL ys))) (fun _ v10 _ => n - (intOf v10).toNat)
   case atStart => exact ⟨ms, 1, 0, rfl, rfl, by omega, by omega, HF, HB, HR⟩
   case round =>
    clear HF HB HR hg2
    obtain ⟨ys, r, nx, rfl, rfl, hnr, hrn, HF, HB, HR⟩ := hrel
    by_cases hlt : nx < r
    ·have hltb : decide ((nx : Int) < (r : Int)) = true := by simpa using hlt
     go_wp2_with fail
     go_loopw [9, 11] (fun v9 v11 wr => ∃ (ys : List Nat) (r k : Nat), v9 = .int .i64 r ∧ v11 = .int .i64 k ∧ nx < r ∧ r ≤ k ∧ k ≤ n ∧ Aside0 (BfsIn (jn js) ms ys r nx k) ∧ Aside0 (Below w.heap.size w wr) ∧ Aside0 ((Kd.int .i64).R 3 wr w1.heap.size (fun b => w1.heap.size ≤ b) (.slice (some ⟨g, 0, none⟩) n c7) (castL ys))) (fun _ v11 _ => n - (intOf v11).toNat)
     case atStart => exact ⟨ys, r, r, rfl, rfl, hlt, Nat.le_refl _, hrn, ⟨HF.out.enter hlt⟩, HB, HR⟩
     case round =>
      clear HF HB HR hlt hltb hnr hrn
      obtain ⟨ys, r, k, rfl, rfl, hnx, hrk, hkn, HF, HB, HR⟩ := hrel
      have HYL := Aside0.mk (show ys.length = n by rw [HF.out.b.len, HN.out])
      by_cases hk : k < n
      ·have hkb : decide ((k : Int) < (n : Int)) = true := by simpa using hk
       have hnxn : nx < n := by omega
       have hrn : r < n := by omega
       have q1 : (0 : Int) ≤ (nx : Int) := by omega
       have q2 : (nx : Int) < (n : Int) := by omega
       have q3 : (0 : Int) ≤ (k : Int) := by omega
       have q4 : (k : Int) < (n : Int) := by omega
       have q5 : (0 : Int) ≤ (r : Int) := by omega
       have q6 : (r : Int) < (n : Int) := by omega
       have hcx := (ints_cell HR.out nx hnxn).1
       have hck := (ints_cell HR.out k hk).1
       have hkf := (ints_cell HR.out k hk).2
       have hcr := (ints_cell HR.out r hrn).1
       have BWw := Aside0.mk (HBW.out.below HB.out)
       have HJw := Aside0.mk (HJM.out.move (HB.out.block mb hmb))
       have hyx : ys.getD nx 0 < 8 := by have := HLT.out _ ((HF.out.b.mem _).1 (getD_mem (by rw [HYL.out]; exact hnxn))); omega
       have hyk : ys.getD k 0 < 8 := by have := HLT.out _ ((HF.out.b.mem _).1 (getD_mem (by rw [HYL.out]; exact hk))); omega
       have hlk := HJw.out.lookup hyx hyk wr.drew rfl
       unfold encJ at hlk
       obtain ⟨vx, hvx⟩ : ∃ v, ys.getD nx 0 = v := ⟨_, rfl⟩
       obtain ⟨vk, hvk⟩ : ∃ v, ys.getD k 0 = v := ⟨_, rfl⟩
       obtain ⟨vr, hvr⟩ : ∃ v, ys.getD r 0 = v := ⟨_, rfl⟩
       rw [hvx] at hcx hlk
       rw [hvk] at hck hlk
       rw [hvr] at hcr
       have HVX := Aside0.mk hvx
       have HVK := Aside0.mk hvk
       have HVR := Aside0.mk hvr
       clear hvx hvk hvr hyx hyk hcr
       go_wp2_with fail
       refine start_ (n := 14) (S := fun w' => w'.cell? ⟨gw, 4, none⟩ = some (.map (some mb)) ∧ w'.cell? ⟨g, nx, none⟩ = some (.int .i64 (vx : Int)) ∧ w'.cell? ⟨g, k, none⟩ = some (.int .i64 (vk : Int)) ∧ (Instr.lookup 130 (.map (some mb)) (.agg #[.int .i64 (vx : Int), .int .i64 (vk : Int)]) false).run Try.prog w' = .ok (.bool (jn js vx vk)) w') (ds := []) #[O,O,O,O,O,O,O,O,O,O,O,O,O,O] (by kernel_rfl) rfl rfl ⟨(by simpa using BWw.out.cell 4), hcx, hck, hlk⟩ (fun hHeld => ?_); refine with_tabW cn.tab17 cn.bits17 (fun HT_ HW_ => ?_)
       have HBd := Aside0.mk (below_drew HB.out)
       have HRd := Aside0.mk (Kd.R_drew HR.out)
       clear HB HR BWw HJw hcx hck hlk hkf
       generalize wr.drew = wd at HBd HRd hHeld ⊢
       refine pu_ 0 46 #[I,O,O,O,O,O,O,O,O,O,O,O,O,O] HT_ (h := ?_)
       refine pu_ 1 47 #[I,I,O,O,O,O,O,O,O,O,O,O,O,O] HT_ (h := ?_)
       refine pu_ 2 48 #[I,I,I,O,O,O,O,O,O,O,O,O,O,O] HT_ (h := ?_)
       refine ta_ 3 49 #[I,I,I,I,O,O,O,O,O,O,O,O,O,O] HT_ HW_ hHeld (hy := by (rintro w' ⟨s0, s1, s2, s3⟩; go_simp; with_reducible rfl)) (h := ?_)
       refine pu_ 4 50 #[I,I,I,I,I,O,O,O,O,O,O,O,O,O] HT_ (h := ?_)
       refine pu_ 5 51 #[I,I,I,I,I,I,O,O,O,O,O,O,O,O] HT_ (h := ?_)
       refine pu_ 6 52 #[I,I,I,I,I,I,I,O,O,O,O,O,O,O] HT_ (h := ?_)
       refine ta_ 7 53 #[I,I,I,I,I,I,I,I,O,O,O,O,O,O] HT_ HW_ hHeld (hy := by (rintro w' ⟨s0, s1, s2, s3⟩; go_simp; with_reducible rfl)) (h := ?_)
       refine pu_ 8 54 #[I,I,I,I,I,I,I,I,I,O,O,O,O,O] HT_ (h := ?_)
       refine pu_ 9 55 #[I,I,I,I,I,I,I,I,I,I,O,O,O,O] HT_ (h := ?_)
       refine pu_ 10 56 #[I,I,I,I,I,I,I,I,I,I,I,O,O,O] HT_ (h := ?_)
       refine ta_ 11 57 #[I,I,I,I,I,I,I,I,I,I,I,I,O,O] HT_ HW_ hHeld (hy := by (rintro w' ⟨s0, s1, s2, s3⟩; go_simp; with_reducible rfl)) (h := ?_)
       refine pu_ 12 58 #[I,I,I,I,I,I,I,I,I,I,I,I,I,O] HT_ (h := ?_)
       refine ta_ 13 59 #[I,I,I,I,I,I,I,I,I,I,I,I,I,I] HT_ HW_ hHeld (hy := by (rintro w' ⟨s0, s1, s2, s3⟩; go_simp; with_reducible rfl)) (h := ?_)
       refine done_ (done_of HT_.out (by kernel_rfl)) ?_
       have hcr := (ints_cell HRd.out r hrn).1
       have hck := (ints_cell HRd.out k hk).1
       have hkf := (ints_cell HRd.out k hk).2
       rw [HVR.out] at hcr
       rw [HVK.out] at hck
       cases hj : jn js vx vk
       ·clear hcr hck hkf
        go_wp2_with fail
        go_roundw
        case rel => exact ⟨ys, r, k + 1, rfl, by go_num, hnx, by omega, by omega, ⟨HF.out.pass (by rw [HYL.out]; exact hk) (by rw [HVX.out, HVK.out]; exact hj)⟩, HBd, HRd⟩
        case measure => simp [intOf]; omega
       ·go_wp2_with fail
        refine start_ (n := 16) (S := fun w' => w'.cell? ⟨g, r, none⟩ = some (.int .i64 (vr : Int)) ∧ w'.cell? ⟨g, k, none⟩ = some (.int .i64 (vk : Int))) (ds := [13, 15]) #[O,O,O,O,O,O,O,O,O,O,O,O,O,O,O,O] (by kernel_rfl) rfl rfl ⟨hcr, hck⟩ (fun hHeld => ?_); refine with_tabW cn.tab18 cn.bits18 (fun HT_ HW_ => ?_)
        have HB1 := Aside0.mk (below_drew HBd.out)
        have HR1 := Aside0.mk (Kd.R_drew HRd.out)
        replace hck := (show wd.drew.cell? ⟨g, k, none⟩ = some (.int .i64 (vk : Int)) from hck)
        replace hkf : wd.drew.frozen? ⟨g, k, none⟩ = false := hkf
        clear HBd HRd hcr
        generalize wd.drew = we at HB1 HR1 hck hkf hHeld ⊢
        refine pu_ 0 60 #[I,O,O,O,O,O,O,O,O,O,O,O,O,O,O,O] HT_ (h := ?_)
        refine pu_ 1 61 #[I,I,O,O,O,O,O,O,O,O,O,O,O,O,O,O] HT_ (h := ?_)
        refine pu_ 2 62 #[I,I,I,O,O,O,O,O,O,O,O,O,O,O,O,O] HT_ (h := ?_)
        refine pu_ 3 63 #[I,I,I,I,O,O,O,O,O,O,O,O,O,O,O,O] HT_ (h := ?_)
        refine pu_ 4 64 #[I,I,I,I,I,O,O,O,O,O,O,O,O,O,O,O] HT_ (h := ?_)
        refine pu_ 5 65 #[I,I,I,I,I,I,O,O,O,O,O,O,O,O,O,O] HT_ (h := ?_)
        refine pu_ 6 66 #[I,I,I,I,I,I,I,O,O,O,O,O,O,O,O,O] HT_ (h := ?_)
        refine ta_ 7 67 #[I,I,I,I,I,I,I,I,O,O,O,O,O,O,O,O] HT_ HW_ hHeld (hy := by (rintro w' ⟨s0, s1⟩; go_simp; with_reducible rfl)) (h := ?_)
        refine pu_ 8 68 #[I,I,I,I,I,I,I,I,I,O,O,O,O,O,O,O] HT_ (h := ?_)
        refine pu_ 9 69 #[I,I,I,I,I,I,I,I,I,I,O,O,O,O,O,O] HT_ (h := ?_)
        refine pu_ 10 70 #[I,I,I,I,I,I,I,I,I,I,I,O,O,O,O,O] HT_ (h := ?_)
        refine ta_ 11 71 #[I,I,I,I,I,I,I,I,I,I,I,I,O,O,O,O] HT_ HW_ hHeld (hy := by (rintro w' ⟨s0, s1⟩; go_simp; with_reducible rfl)) (h := ?_)
        refine pu_ 12 72 #[I,I,I,I,I,I,I,I,I,I,I,I,I,O,O,O] HT_ (h := ?_)
        refine last_ (i := 13) (N := none) #[I,I,I,I,I,I,I,I,I,I,I,I,I,I,O,O] rfl rfl (one_of HT_.out (by kernel_rfl)) (by decide) (fun K hK => ?_)
        have hst_ := hck
        have hfr_ := hkf
        refine skip_ (w1 := ?_) (by rfl) rfl ?_ ?_
        rotate_left
        ·go_simp
         rfl
        refine hK.out _ _ ?_
        clear hK K hst_ hfr_ 
        have HB2 := Aside0.mk (HB1.out.setCell (p := ⟨g, k, none⟩) (by simp only; omega) (.int .i64 (vr : Int)))
        have HR2 := Aside0.mk (ints_put HR1.out k vr)
        have hrf := (ints_frozen HR2.out r hrn)
        have hcr2 := (ints_at HR2.out r hrn)
        clear HB1 HR1
        generalize we.setCell ⟨g, k, none⟩ (.int .i64 (vr : Int)) = wf at HB2 HR2 hrf hcr2 ⊢
        refine pu_ 14 73 #[I,I,I,I,I,I,I,I,I,I,I,I,I,I,I,O] HT_ (h := ?_)
        refine last_ (i := 15) (N := none) #[I,I,I,I,I,I,I,I,I,I,I,I,I,I,I,I] rfl rfl (one_of HT_.out (by kernel_rfl)) (by decide) (fun K hK => ?_)
        have hst_ := hcr2
        have hfr_ := hrf
        refine skip_ (w1 := ?_) (by rfl) rfl ?_ ?_
        rotate_left
        ·go_simp
         rfl
        refine hK.out _ _ ?_
        clear hK K hst_ hfr_ 
        have HB3 := Aside0.mk (HB2.out.setCell (p := ⟨g, r, none⟩) (by simp only; omega) (.int .i64 (vk : Int)))
        have HR3 := Aside0.mk (ints_put HR2.out r vk)
        clear HB2 HR2 hcr2
        generalize wf.setCell ⟨g, r, none⟩ (.int .i64 (vk : Int)) = wg at HB3 HR3 ⊢
        refine done_ (done_of HT_.out (by kernel_rfl)) ?_
        go_wp2_with fail
        go_roundw
        case rel => exact ⟨swapL ys k r vr vk, r + 1, k + 1, by go_num, by go_num, by omega, by omega, by omega, ⟨by have hsw := HF.out.swap (by rw [HYL.out]; exact hk) (by rw [HVX.out, HVK.out]; exact hj); rw [HVR.out, HVK.out] at hsw; exact hsw⟩, HB3, ⟨by rw [← castL_swap]; exact HR3.out⟩⟩
        case measure => simp [intOf]; omega
      ·obtain rfl : k = n := by omega
       have hkb : decide ((k : Int) < (k : Int)) = false := by simp
       go_wp2_with fail
       go_roundw
       case rel => exact ⟨ys, r, nx + 1, rfl, by go_num, by omega, by omega, ⟨by have := HF.out; rw [← HYL.out] at this; exact this.leave⟩, HB, HR⟩
       case measure => simp [intOf]; omega
    ·obtain rfl : nx = r := by omega
     have hltb : decide ((nx : Int) < (nx : Int)) = false := by simp
     go_wp2_with fail
     go_ret
     rw [HMS.out]
     refine ⟨ret_bool ?_, HB.out⟩
     have hfin := HF.out.fin (jn_symm js)
     have hcb := connB_iff (jn_symm js) HND.out
     have hyl : ys.length = n := by rw [HF.out.len, HN.out]
     rw [hyl] at hfin
     rw [Bool.eq_iff_iff, hcb, ← hfin]
     simp [Int.natCast_inj]
end Go.Proofs.Ytiddkceahbnolaa
