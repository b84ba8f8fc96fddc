/- walk's iterator 'next': the places that are joined with a place, with the greatest times of the roads, for every loop body that keeps what the iterator reads. -/
import Derived.Test.YtiddkceahbnolaaChk
import Derived.RangeFuncNested
import Derived.RangeFuncBound
import Derived.RangeFuncCalls
import Derived.RangeFuncLeaves
import Derived.Shelf.Abstract
import Derived.Shelf.RegionOpen
import Derived.OwnWalkIn
import Derived.TacticsInMore
import Derived.LoopNIn
import Derived.LoopIn
namespace Go.Proofs.Ytiddkceahbnolaa
open Go.RowKit Go.Shelf Go.Proofs.Ytiddkceahbnolaa.PWalkOrder Go.Proofs.YtiddkceahbnolaaW.PrintWords
attribute [local go_sem] Oper.semAt_some
set_option linter.unusedVariables false
set_option linter.unusedSimpArgs false

/-- Below n₀ all is as it was, but for the blocks of S; the streams are as they were. -/
structure Keep (n₀ : Nat) (S : Nat → Prop) (w w' : World) : Prop where
 os : w'.os = w.os
 tape : w'.tape = w.tape
 output : w'.output = w.output
 size : w.heap.size ≤ w'.heap.size
 block : ∀ k, k < n₀ → ¬ S k → w'.heap[k]? = w.heap[k]?
theorem Keep.refl (n₀ : Nat) (S : Nat → Prop) (w : World) : Keep n₀ S w w := ⟨rfl, rfl, rfl, Nat.le_refl _, fun _ _ _ => rfl⟩
theorem Keep.trans {n₀ : Nat} {S : Nat → Prop} {a b c : World} (h : Keep n₀ S a b) (k : Keep n₀ S b c) : Keep n₀ S a c :=
 ⟨k.os.trans h.os, k.tape.trans h.tape, k.output.trans h.output, Nat.le_trans h.size k.size, fun i hi hs => (k.block i hi hs).trans (h.block i hi hs)⟩
theorem Keep.of_below {n₀ B : Nat} {S : Nat → Prop} {a b : World} (h : Below B a b) (hB : n₀ ≤ B) : Keep n₀ S a b := ⟨h.os, h.tape, h.output, h.size, fun k hk _ => h.block k (by omega)⟩
theorem Keep.mono {n₀ n₁ : Nat} {S T : Nat → Prop} {a b : World} (h : Keep n₀ S a b) (hn : n₁ ≤ n₀) (hS : ∀ k, k < n₁ → S k → T k) : Keep n₁ T a b := ⟨h.os, h.tape, h.output, h.size, fun k hk hs => h.block k (by omega) (fun x => hs (hS k hk x))⟩
theorem Keep.alloc {n₀ : Nat} {S : Nat → Prop} {a b : World} (h : Keep n₀ S a b) (hB : n₀ ≤ b.heap.size) (o : Obj) : Keep n₀ S a (b.alloc o) :=
 h.trans (Keep.of_below ((Below.refl b.heap.size b).alloc (Nat.le_refl _) o) hB)
theorem Keep.setCell {n₀ : Nat} {S : Nat → Prop} {a b : World} (h : Keep n₀ S a b) {p : Addr} (hp : S p.block ∨ n₀ ≤ p.block) (u : Value) : Keep n₀ S a (b.setCell p u) :=
 h.trans ⟨rfl, rfl, rfl, by simp [World.setCell], fun k hk hs => Below.heap_setCell _ _ _ _ (by
  rintro rfl
  rcases hp with hp | hp
  ·exact hs hp
  ·omega)⟩
theorem Keep.drewN {n₀ : Nat} {S : Nat → Prop} {a b : World} (h : Keep n₀ S a b) (n : Nat) : Keep n₀ S a (b.drewN n) := ⟨h.os, h.tape, h.output, h.size, h.block⟩
theorem Keep.drew {n₀ : Nat} {S : Nat → Prop} {a b : World} (h : Keep n₀ S a b) : Keep n₀ S a b.drew := ⟨h.os, h.tape, h.output, h.size, h.block⟩
theorem Keep.put {n₀ : Nat} {S : Nat → Prop} {a b : World} (h : Keep n₀ S a b) {l : Nat} (hl : S l ∨ n₀ ≤ l) (o : Obj) : Keep n₀ S a (b.putObj l o) :=
 h.trans ⟨rfl, rfl, rfl, by simp [World.putObj], fun k hk hs => World.putObj_heap_other (by
  rintro rfl
  rcases hl with hl | hl
  ·exact hs hl
  ·omega)⟩
theorem Keep.cell {n₀ : Nat} {S : Nat → Prop} {w w' : World} (h : Keep n₀ S w w') {p : Addr} (hp : p.block < n₀) (hs : ¬ S p.block) : w'.cell? p = w.cell? p := World.cell?_of_block (w := w) (h.block p.block hp hs)
theorem Keep.frozen {n₀ : Nat} {S : Nat → Prop} {w w' : World} (h : Keep n₀ S w w') {p : Addr} (hp : p.block < n₀) (hs : ¬ S p.block) : w'.frozen? p = w.frozen? p := World.frozen?_of_block (w := w) (h.block p.block hp hs)
theorem keepK_b {n₀ : Nat} {S : Nat → Prop} {w : World} (hn : n₀ ≤ w.heap.size) (W : World) (l : Nat) (o o' : Obj) (hl : w.heap.size ≤ l) (h : W.heap[l]? = some o) (_ : o.isCells = false) (_ : o.isWalk = false) : Keep n₀ S W (W.putObj l o') :=
 Keep.of_below ((Below.refl n₀ W).grown (grownBy_putObj' W l o') (by have := (Array.getElem?_eq_some_iff.1 h).1; omega) (fun k e => by cases e; omega)) (Nat.le_refl _)

/-- What a road is to a place: the other place, and the greatest time. -/
def nbr (n : Int) (r : S94) : Option (Int × Int) :=
 if n = r.f0 then (if 0 ≤ r.f1 then some (r.f1, r.f2.f1) else none) else if n = r.f1 then (if 0 ≤ r.f0 then some (r.f0, r.f2.f1) else none) else none
def nbrs (R : List S94) (n : Int) : List (Int × Int) := R.filterMap (nbr n)
theorem nbrs_step (R : List S94) (n : Int) (k : Nat) (h : k < R.length) : nbrs (R.take (k + 1)) n = nbrs (R.take k) n ++ (nbr n (enc_rd_Road R k)).toList := by
 unfold nbrs
 rw [List.take_succ_eq_append_getElem h, List.filterMap_append]
 congr 1
 have : enc_rd_Road R k = R[k] := by simp [enc_rd_Road, rd_T94, List.getD, h]
 rw [this]
 cases hn : nbr n R[k] <;> simp [hn]
theorem rd_mem (R : List S94) (k : Nat) (h : k < R.length) : enc_rd_Road R k ∈ R := by
 have : enc_rd_Road R k = R[k] := by simp [enc_rd_Road, rd_T94, List.getD, h]
 rw [this]
 exact List.getElem_mem h
theorem nbrs_len (R : List S94) (n : Int) : (nbrs R n).length ≤ R.length := List.length_filterMap_le _ _

def enc2 (x : Int × Int) : Array Value := #[.int .i64 x.1, .int .i64 x.2]

/-- What the iterator reads: the two variables that it has captured; the roads. -/
structure NextReads (n₀ : Nat) (S : Nat → Prop) (W : World) (gm gn : Nat) (A0 : Option Addr) (n0 c0 : Nat) (A1 : Option Addr) (c1 : Nat) (R : List S94) (n : Int) : Prop where
 m : Blk W gm [.slice A0 n0 c0, .slice A1 R.length c1] 41
 n : W.cell? ⟨gn, 0, none⟩ = some (.int .i64 n)
 roads : Kd.C k94 W A1 R.length R
 lm : gm < n₀ ∧ ¬ S gm
 ln : gn < n₀ ∧ ¬ S gn
 lr : 0 < R.length → ∀ ad, A1 = some ad → ad.block < n₀ ∧ ¬ S ad.block

theorem roads_keep {n₀ : Nat} {S : Nat → Prop} {W W' : World} {A1 : Option Addr} {R : List S94} (h : Kd.C k94 W A1 R.length R) (hl : 0 < R.length → ∀ ad, A1 = some ad → ad.block < n₀ ∧ ¬ S ad.block) (k : Keep n₀ S W W') (i : Nat) (hi : i < R.length) :
  ∃ ad , A1 = some ad ∧ W'.cell? (ad.add (i * 4)) = some (.int .i64 (rd_T94 R i).f0) ∧ W'.cell? ⟨(ad.add (i * 4)).block, (ad.add (i * 4)).off + 1, none⟩ = some (.int .i64 (rd_T94 R i).f1) ∧ W'.cell? ⟨(ad.add (i * 4)).block, (ad.add (i * 4)).off + 2, none⟩ = some (.int .i64 (rd_T94 R i).f2.f0) ∧ W'.cell? ⟨(ad.add (i * 4)).block, (ad.add (i * 4)).off + 3, none⟩ = some (.int .i64 (rd_T94 R i).f2.f1) := by
 obtain ⟨ad, e, h0, h1, h2, h3⟩ := at_T94 h i (by omega) (by omega)
 simp only [Int.toNat_natCast] at h0 h1 h2 h3
 obtain ⟨hl1, hl2⟩ := hl (by omega) ad e
 have hbk : (ad.add (i * 4)).block = ad.block := by unfold Addr.add; split <;> rfl
 refine ⟨ad, e, ?_, ?_, ?_, ?_⟩
 ·rw [k.cell (by rw [hbk]; exact hl1) (by rw [hbk]; exact hl2)]; exact h0
 ·rw [k.cell (by simp only [hbk]; exact hl1) (by simp only [hbk]; exact hl2)]; exact h1
 ·rw [k.cell (by simp only [hbk]; exact hl1) (by simp only [hbk]; exact hl2)]; exact h2
 ·rw [k.cell (by simp only [hbk]; exact hl1) (by simp only [hbk]; exact hl2)]; exact h3

theorem abides_alloc {β : Type} {B : Nat} {J : β → World → Prop} (h : AbidesFrom B J) {s : β} {W : World} (o : Obj) (hj : J s W) : J s (W.alloc o) :=
 h s W _ none hj (grown_of_below (below_alloc (Below.refl _ _) o) none) (by simp)

set_option maxRecDepth 100000 in
set_option maxHeartbeats 4000000 in
theorem next1_in (F : Fence) (n : Nat) (hf : F.fn 105) (hro : F.round = none) (hn : 1 ≤ n) (l gm gn n₀ : Nat) (S : Nat → Prop) (A0 : Option Addr) (n0 c0 : Nat) (A1 : Option Addr) (c1 : Nat) (R : List S94) (near : Int) (hreach : R.length ≤ 281474976710656)
  (J Jx : List (Int × Int) → World → Prop) (B : Nat) (hJA : AbidesFrom B J)
  (Pr : Int × Int → Prop) (hPr : ∀ r ∈ R, ∀ x, nbr near r = some x → Pr x)
  (hY : ∀ pre x W, Pr x → J pre W → pre.length < R.length → YieldAt F (n - 1) Try.prog l (enc2 x) W fun e W' =>
   (e = .returned (.bool true) ∧ J (pre ++ [x]) W' ∧ Keep n₀ S W W') ∨ (e = .returned (.bool false) ∧ Jx (pre ++ [x]) W'))
  (W : World) (hW : n₀ ≤ W.heap.size) (hR : NextReads n₀ S W gm gn A0 n0 c0 A1 c1 R near) (h0 : J [] W) :
  CallsIn F n Try.prog 105 #[.func (.yield l) #[] #[], .pointer (some ⟨gm, 0, none⟩), .pointer (some ⟨gn, 0, none⟩)] W fun e W' => (∃ v, e = .returned v) ∧
   ((∃ ys, ys = nbrs R near ∧ J ys W') ∨ (∃ pre, True ∧ Jx pre W')) := by
 have HR := Aside0.mk hR
 have HY := Aside0.mk hY
 have HPr := Aside0.mk hPr
 have HJA := Aside0.mk hJA
 have hz0 := hR.m.cell 0
 have hz1 := hR.m.cell 1
 simp only [sb3, sb4] at hz0 hz1
 clear hR hY hPr hJA
 refine callsIn_of_wp Try.func105 rfl hf ?_ hro
 simp only [Try.ntmps105, List.size_toArray, List.length_cons, List.length_nil, Nat.reduceAdd, Nat.reduceSub, Array.replicate_succ, Array.replicate_zero, List.push_toArray, List.append_toArray, List.nil_append, List.cons_append]
 gi_wp2
 gi_loopw [10] (fun i wr => ∃ k : Nat, k ≤ R.length ∧ i = .int .i64 k ∧ Aside0 (J (nbrs (R.take k) near) wr) ∧ Aside0 (Keep n₀ S W wr))
  (fun i _ => R.length - (intOf i).toNat)
 case atStart => exact ⟨0, Nat.zero_le _, rfl, ⟨h0⟩, ⟨Keep.refl _ _ _⟩⟩
 case round =>
  obtain ⟨k, hk, rfl, HJ, HK⟩ := hrel
  by_cases hlt : k < R.length
  ·obtain ⟨ad, e, h0, h1, h2, h3⟩ := roads_keep HR.out.roads HR.out.lr HK.out k hlt
   cases e
   obtain ⟨r, hr⟩ : ∃ r, rd_T94 R (k : Int) = r := ⟨_, rfl⟩
   rw [hr] at h0 h1 h2 h3
   have HRR := Aside0.mk (show enc_rd_Road R k = r from hr)
   clear hr
   have hgn := (HK.out.cell (p := ⟨gn, 0, none⟩) HR.out.ln.1 HR.out.ln.2).trans HR.out.n
   have hlgn : gn < wr.heap.size := World.block_lt_of_cell? _ _ hgn
   --BEGIN
   have HKS := Aside0.mk (Nat.le_trans hW HK.out.size)
   by_cases p0 : near = r.f0
   ·have p0b : (near == r.f0) = true := beq_iff_eq.2 p0
    have P0 := Aside0.mk p0
    clear p0
    by_cases q : 0 ≤ r.f1
    ·have HNB := Aside0.mk (show nbr near r = some (r.f1, r.f2.f1) by unfold nbr; rw [if_pos P0.out, if_pos q])
     have HJ2 := Aside0.mk (abides_alloc HJA.out (.cells #[.int .i64 r.f0, .int .i64 r.f1, .int .i64 r.f2.f0, .int .i64 r.f2.f1] 94) HJ.out)
     have HST := Aside0.mk (show nbrs (R.take (k + 1)) near = nbrs (R.take k) near ++ [(r.f1, r.f2.f1)] by rw [nbrs_step R near k hlt, HRR.out, HNB.out]; rfl)
     obtain ⟨fn, tmps, assign, body, hy, hRR⟩ := HY.out _ (r.f1, r.f2.f1) _ (HPr.out r (by rw [← HRR.out]; exact rd_mem R k hlt) _ HNB.out) HJ2.out (Nat.lt_of_le_of_lt (nbrs_len _ _) (by rw [List.length_take]; omega))
     dsimp only [enc2] at hy
     gi_wp2_with fail
     refine hRR.mono ?_
     rintro e W3 (⟨rfl, hJ3, hk3⟩ | ⟨rfl, hJx3⟩)
     ·gi_wp2_with fail
      go_roundw
      case rel => exact ⟨k + 1, by omega, by go_num, ⟨by rw [HST.out]; exact hJ3⟩, ⟨(HK.out.alloc HKS.out _).trans hk3⟩⟩
      case measure => simp [intOf]; omega
     ·gi_wp2_with fail
      refine bodyPost_ret (results_none rfl _ _ _) rfl ?_
      exact ⟨⟨_, rfl⟩, .inr ⟨_, trivial, hJx3⟩⟩
    ·have HNB := Aside0.mk (show nbr near r = none by unfold nbr; rw [if_pos P0.out, if_neg q])
     have q' : decide (0 ≤ r.f1) = false := by simpa using q
     have HJ2 := Aside0.mk (show J (nbrs (R.take (k + 1)) near) wr by rw [nbrs_step R near k hlt, HRR.out, HNB.out]; simpa using HJ.out)
     gi_wp2_with fail
     refine ⟨fun _ h => (by cases h), ?_⟩
     gi_wp2_with fail
     go_roundw
     case rel => exact ⟨k + 1, by omega, by go_num, ⟨abides_alloc HJA.out _ HJ2.out⟩, ⟨HK.out.alloc HKS.out _⟩⟩
     case measure => simp [intOf]; omega
   ·have p0b : (near == r.f0) = false := beq_eq_false_iff_ne.2 p0
    have P0 := Aside0.mk p0
    clear p0
    by_cases p1 : near = r.f1
    ·have p1b : (near == r.f1) = true := beq_iff_eq.2 p1
     have P1 := Aside0.mk p1
     clear p1
     by_cases q : 0 ≤ r.f0
     ·have HNB := Aside0.mk (show nbr near r = some (r.f0, r.f2.f1) by unfold nbr; rw [if_neg P0.out, if_pos P1.out, if_pos q])
      have HJ2 := Aside0.mk (abides_alloc HJA.out (.cells #[.int .i64 r.f0, .int .i64 r.f1, .int .i64 r.f2.f0, .int .i64 r.f2.f1] 94) HJ.out)
      have HST := Aside0.mk (show nbrs (R.take (k + 1)) near = nbrs (R.take k) near ++ [(r.f0, r.f2.f1)] by rw [nbrs_step R near k hlt, HRR.out, HNB.out]; rfl)
      obtain ⟨fn, tmps, assign, body, hy, hRR⟩ := HY.out _ (r.f0, r.f2.f1) _ (HPr.out r (by rw [← HRR.out]; exact rd_mem R k hlt) _ HNB.out) HJ2.out (Nat.lt_of_le_of_lt (nbrs_len _ _) (by rw [List.length_take]; omega))
      dsimp only [enc2] at hy
      gi_wp2_with fail
      refine hRR.mono ?_
      rintro e W3 (⟨rfl, hJ3, hk3⟩ | ⟨rfl, hJx3⟩)
      ·gi_wp2_with fail
       go_roundw
       case rel => exact ⟨k + 1, by omega, by go_num, ⟨by rw [HST.out]; exact hJ3⟩, ⟨(HK.out.alloc HKS.out _).trans hk3⟩⟩
       case measure => simp [intOf]; omega
      ·gi_wp2_with fail
       refine bodyPost_ret (results_none rfl _ _ _) rfl ?_
       exact ⟨⟨_, rfl⟩, .inr ⟨_, trivial, hJx3⟩⟩
     ·have HNB := Aside0.mk (show nbr near r = none by unfold nbr; rw [if_neg P0.out, if_pos P1.out, if_neg q])
      have q' : decide (0 ≤ r.f0) = false := by simpa using q
      have HJ2 := Aside0.mk (show J (nbrs (R.take (k + 1)) near) wr by rw [nbrs_step R near k hlt, HRR.out, HNB.out]; simpa using HJ.out)
      gi_wp2_with fail
      refine ⟨fun _ h => (by cases h), ?_⟩
      gi_wp2_with fail
      go_roundw
      case rel => exact ⟨k + 1, by omega, by go_num, ⟨abides_alloc HJA.out _ HJ2.out⟩, ⟨HK.out.alloc HKS.out _⟩⟩
      case measure => simp [intOf]; omega
    ·have p1b : (near == r.f1) = false := beq_eq_false_iff_ne.2 p1
     have P1 := Aside0.mk p1
     clear p1
     have HNB := Aside0.mk (show nbr near r = none by unfold nbr; rw [if_neg P0.out, if_neg P1.out])
     have HJ2 := Aside0.mk (show J (nbrs (R.take (k + 1)) near) wr by rw [nbrs_step R near k hlt, HRR.out, HNB.out]; simpa using HJ.out)
     gi_wp2_with fail
     refine ⟨fun _ h => (by cases h), ?_⟩
     gi_wp2_with fail
     go_roundw
     case rel => exact ⟨k + 1, by omega, by go_num, ⟨abides_alloc HJA.out _ HJ2.out⟩, ⟨HK.out.alloc HKS.out _⟩⟩
     case measure => simp [intOf]; omega
  ·obtain rfl : k = R.length := by omega
   gi_wp2
   go_end0
   exact ⟨⟨_, rfl⟩, .inl ⟨_, rfl, by rw [← List.take_length (l := R)]; exact HJ.out⟩⟩

theorem next_stops (F : Fence) (n : Nat) (hf : F.fn 105) (hro : F.round = none) (hn : 1 ≤ n) (gm gn n₀ : Nat) (S : Nat → Prop) (A0 : Option Addr) (n0 c0 : Nat) (A1 : Option Addr) (c1 : Nat) (R : List S94) (near : Int) (hreach : R.length ≤ 281474976710656)
  (Pr : Int × Int → Prop) (hPr : ∀ r ∈ R, ∀ x, nbr near r = some x → Pr x) (w : World) (hw : n₀ ≤ w.heap.size) (hR : NextReads n₀ S w gm gn A0 n0 c0 A1 c1 R near) :
  SeqStopsK F n Try.prog 105 #[.pointer (some ⟨gm, 0, none⟩), .pointer (some ⟨gn, 0, none⟩)] (fun x : { x // Pr x } => enc2 x.1) (Keep n₀ S) (fun ys => ys.map (·.1) = nbrs R near) (fun _ => True) R.length w := fun l J Jx W hW hJ hJx hY h0 => by
 have hk : Keep n₀ S w W := Keep.of_below hW hw
 refine (next1_in F n hf hro hn l gm gn n₀ S A0 n0 c0 A1 c1 R near hreach (fun pre W => ∃ ys : List { x // Pr x }, ys.map (·.1) = pre ∧ J ys W) (fun pre W => ∃ ys : List { x // Pr x }, ys.map (·.1) = pre ∧ Jx ys W) W.heap.size ?_ Pr hPr ?_ W (Nat.le_trans hw hW.size) ?_ ⟨[], rfl, h0⟩).mono ?_
 ·rintro s A B row ⟨ys, e, hj⟩ hg hr
  exact ⟨ys, e, hJ ys A B row hj hg hr⟩
 ·rintro pre x W' hx ⟨ys, rfl, hj⟩ hlen
  refine (hY ys ⟨x, hx⟩ W' hj (by simpa using hlen)).mono ?_
  rintro e W'' (⟨rfl, h1, h2⟩ | ⟨rfl, h1⟩)
  ·exact .inl ⟨rfl, ⟨_, by simp, h1⟩, h2⟩
  ·exact .inr ⟨rfl, ⟨_, by simp, h1⟩⟩
 ·exact ⟨((hk.block gm hR.lm.1 hR.lm.2).trans hR.m), (hk.cell (p := ⟨gn, 0, none⟩) hR.ln.1 hR.ln.2).trans hR.n, Kd.C_below hR.roads hW, hR.lm, hR.ln, hR.lr⟩
 ·rintro e W' ⟨hv, ⟨ys, he, zs, h1, h2⟩ | ⟨pre, _, zs, h1, h2⟩⟩
  ·exact ⟨hv, .inl ⟨zs, h1.trans he, h2⟩⟩
  ·exact ⟨hv, .inr ⟨zs, trivial, h2⟩⟩

theorem next_calls (F : Fence) (n : Nat) (hf : F.fn 73) (hro : F.round = none) (A0 : Option Addr) (n0 c0 : Nat) (A1 : Option Addr) (c1 n1 : Nat) (near : Int) (w : World) :
  CallsIn F n Try.prog 73 #[.agg #[.slice A0 n0 c0, .slice A1 n1 c1], .int .i64 near] w fun e w' => e = .returned (.func (.func 105) #[] #[.pointer (some ⟨w.heap.size, 0, none⟩), .pointer (some ⟨w.heap.size + 1, 0, none⟩)]) ∧
   w' = (w.alloc (.cells #[.slice A0 n0 c0, .slice A1 n1 c1] 41)).alloc (.cells #[.int .i64 near] 3) := by
 refine callsIn_of_wp Try.func73 rfl hf ?_ hro
 simp only [Try.ntmps73, List.size_toArray, List.length_cons, List.length_nil, Nat.reduceAdd, Nat.reduceSub, Array.replicate_succ, Array.replicate_zero, List.push_toArray, List.append_toArray, List.nil_append, List.cons_append]
 gi_wp2
 go_ret
 exact ⟨rfl, rfl⟩
end Go.Proofs.Ytiddkceahbnolaa
