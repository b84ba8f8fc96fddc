/- A range over border's iterator 'of', whose round lays its street in a block of its own. -/
import Derived.Test.YtiddkceahbnolaaZChk
import Derived.Test.YtiddkceahbnolaaWLast
import Derived.RangeFuncFrom
import Derived.CallsIn
import Derived.OrdersIn
namespace Go.Proofs.Ytiddkceahbnolaa
open Go.RowKit Go.Shelf Go.Proofs.Ytiddkceahbnolaa.PBorderOrder Go.Proofs.YtiddkceahbnolaaW.PrintWords
attribute [local go_sem] Oper.semAt_some
set_option linter.all false
abbrev IS : Type := Nat × S115
/-- The streets of an old district among the first k, with their indexes. -/
def ofAt (ss : List S115) (old : Int) (k : Nat) : List IS := ((List.range k).filter (fun i => (enc_rd_Street ss i).f0 == old)).map (fun i => (i, enc_rd_Street ss i))
theorem ofAt_succ (ss : List S115) (old : Int) (k : Nat) : ofAt ss old (k + 1) = if (enc_rd_Street ss k).f0 = old then ofAt ss old k ++ [(k, enc_rd_Street ss k)] else ofAt ss old k := by
 unfold ofAt
 rw [List.range_succ, List.filter_append, List.map_append]
 by_cases h : (enc_rd_Street ss k).f0 = old
 ·rw [if_pos h]
  simp [List.filter_cons, h]
 ·rw [if_neg h]
  simp [List.filter_cons, h]
theorem ofAt_len (ss : List S115) (old : Int) (k : Nat) : (ofAt ss old k).length ≤ k := by
 unfold ofAt
 rw [List.length_map]
 have := List.length_filter_le (fun i => (enc_rd_Street ss i).f0 == old) (List.range k)
 rwa [List.length_range] at this
def encS (x : S115) : Value := .agg #[.int .i64 x.f0, .int .i64 x.f1, .int .i64 x.f2, .int .i64 x.f3.f0, .int .i64 x.f3.f1]
def encIS (x : IS) : Array Value := #[.int .i64 (x.1 : Int), encS x.2]
/-- What the iterator reads: the two variables that it has captured; the streets. -/
structure OfReads (n₀ : Nat) (S : Nat → Prop) (W : World) (gm gn : Nat) (u0 u1 u3 : Value) (A2 : Option Addr) (c2 : Nat) (ss : List S115) (old : Int) : Prop where
 m : Blk W gm [u0, u1, .slice A2 ss.length c2, u3] 69
 n : W.cell? ⟨gn, 0, none⟩ = some (.int .i64 old)
 streets : Kd.C k115 W A2 ss.length ss
 lm : gm < n₀ ∧ ¬ S gm
 ln : gn < n₀ ∧ ¬ S gn
 lr : 0 < ss.length → ∀ ad, A2 = some ad → ad.block < n₀ ∧ ¬ S ad.block
theorem streets_keep {n₀ : Nat} {S : Nat → Prop} {W W' : World} {A2 : Option Addr} {ss : List S115} (h : Kd.C k115 W A2 ss.length ss) (hl : 0 < ss.length → ∀ ad, A2 = some ad → ad.block < n₀ ∧ ¬ S ad.block) (k : Keep n₀ S W W') (i : Nat) (hi : i < ss.length) :
  ∃ ad , A2 = some ad ∧ W'.cell? (ad.add (i * 5)) = some (.int .i64 (rd_T115 ss i).f0) ∧ W'.cell? ⟨(ad.add (i * 5)).block, (ad.add (i * 5)).off + 1, none⟩ = some (.int .i64 (rd_T115 ss i).f1) ∧ W'.cell? ⟨(ad.add (i * 5)).block, (ad.add (i * 5)).off + 2, none⟩ = some (.int .i64 (rd_T115 ss i).f2) ∧ W'.cell? ⟨(ad.add (i * 5)).block, (ad.add (i * 5)).off + 3, none⟩ = some (.int .i64 (rd_T115 ss i).f3.f0) ∧ W'.cell? ⟨(ad.add (i * 5)).block, (ad.add (i * 5)).off + 4, none⟩ = some (.int .i64 (rd_T115 ss i).f3.f1) := by
 obtain ⟨ad, e, h0, h1, h2, h3, h4⟩ := at_T115 h i (by omega) (by omega)
 simp only [Int.toNat_natCast] at h0 h1 h2 h3 h4
 obtain ⟨hl1, hl2⟩ := hl (by omega) ad e
 have hbk : (ad.add (i * 5)).block = ad.block := by unfold Addr.add; split <;> rfl
 refine ⟨ad, e, ?_, ?_, ?_, ?_, ?_⟩
 ·rw [k.cell (by rw [hbk]; exact hl1) (by rw [hbk]; exact hl2)]; exact h0
 ·rw [k.cell (by simp only [hbk]; exact hl1) (by simp only [hbk]; exact hl2)]; exact h1
 ·rw [k.cell (by simp only [hbk]; exact hl1) (by simp only [hbk]; exact hl2)]; exact h2
 ·rw [k.cell (by simp only [hbk]; exact hl1) (by simp only [hbk]; exact hl2)]; exact h3
 ·rw [k.cell (by simp only [hbk]; exact hl1) (by simp only [hbk]; exact hl2)]; exact h4
theorem abides_alloc {β : Type} {B : Nat} {J : β → World → Prop} (h : AbidesFrom B J) {s : β} {W : World} (o : Obj) (hj : J s W) : J s (W.alloc o) :=
 h s W _ none hj (grown_of_below (below_alloc (Below.refl _ _) o) none) (by simp)
set_option maxRecDepth 100000 in
set_option maxHeartbeats 4000000 in
theorem of1_in (F : Fence) (n : Nat) (hf : F.fn 109) (hro : F.round = none) (hn : 1 ≤ n) (l gm gn n₀ : Nat) (S : Nat → Prop) (u0 u1 u3 : Value) (A2 : Option Addr) (c2 : Nat) (ss : List S115) (old : Int) (hreach : ss.length ≤ 281474976710656)
  (J Jx : List IS → World → Prop) (B : Nat) (hJA : AbidesFrom B J)
  (hY : ∀ pre k W, k < ss.length → (enc_rd_Street ss k).f0 = old → pre = ofAt ss old k → J pre W → YieldAt F (n - 1) Try.prog l (encIS (k, enc_rd_Street ss k)) W fun e W' =>
   (e = .returned (.bool true) ∧ J (pre ++ [(k, enc_rd_Street ss k)]) W' ∧ Keep n₀ S W W') ∨ (e = .returned (.bool false) ∧ Jx (pre ++ [(k, enc_rd_Street ss k)]) W'))
  (W : World) (hW : n₀ ≤ W.heap.size) (hR : OfReads n₀ S W gm gn u0 u1 u3 A2 c2 ss old) (h0 : J [] W) :
  CallsIn F n Try.prog 109 #[.func (.yield l) #[] #[], .pointer (some ⟨gm, 0, none⟩), .pointer (some ⟨gn, 0, none⟩)] W fun e W' => (∃ v, e = .returned v) ∧
   ((∃ ys, ys = ofAt ss old ss.length ∧ J ys W') ∨ (∃ pre, True ∧ Jx pre W')) := by
 have HR := Aside0.mk hR
 have HY := Aside0.mk hY
 have HJA := Aside0.mk hJA
 have hz2 := hR.m.cell 2
 simp only [sb3, sb4] at hz2
 clear hR hY hJA
 refine callsIn_of_wp Try.func109 rfl hf ?_ hro
 simp only [Try.ntmps109, List.size_toArray, List.length_cons, List.length_nil, Nat.reduceAdd, Nat.reduceSub, Array.replicate_succ, Array.replicate_zero, List.push_toArray, List.append_toArray, List.nil_append, List.cons_append]
 gi_wp2
 gi_loopw [9] (fun i wr => ∃ k : Nat, k ≤ ss.length ∧ i = .int .i64 k ∧ Aside0 (J (ofAt ss old k) wr) ∧ Aside0 (Keep n₀ S W wr))
  (fun i _ => ss.length - (intOf i).toNat)
 case atStart => exact ⟨0, Nat.zero_le _, rfl, ⟨h0⟩, ⟨Keep.refl _ _ _⟩⟩
 case round =>
  obtain ⟨k, hk, rfl, HJ, HK⟩ := hrel
  by_cases hlt : k < ss.length
  ·obtain ⟨ad, e, h0, h1, h2, h3, h4⟩ := streets_keep HR.out.streets HR.out.lr HK.out k hlt
   cases e
   have hyy := HY.out (ofAt ss old k) k
   have hst := ofAt_succ ss old k
   have hrr : enc_rd_Street ss k = rd_T115 ss (k : Int) := rfl
   rw [hrr] at hyy hst
   obtain ⟨r, hr⟩ : ∃ r, rd_T115 ss (k : Int) = r := ⟨_, rfl⟩
   rw [hr] at h0 h1 h2 h3 h4 hyy hst
   have HYY := Aside0.mk hyy
   clear hr hrr hyy
   have hgn := (HK.out.cell (p := ⟨gn, 0, none⟩) HR.out.ln.1 HR.out.ln.2).trans HR.out.n
   have hlgn : gn < wr.heap.size := World.block_lt_of_cell? _ _ hgn
   have HKS := Aside0.mk (Nat.le_trans hW HK.out.size)
   have HJ2 := Aside0.mk (abides_alloc HJA.out (.cells #[.int .i64 r.f0, .int .i64 r.f1, .int .i64 r.f2, .int .i64 r.f3.f0, .int .i64 r.f3.f1] 115) HJ.out)
   by_cases p0 : r.f0 = old
   ·have p0b : (r.f0 == old) = true := beq_iff_eq.2 p0
    rw [if_pos p0] at hst
    have HST := Aside0.mk hst
    obtain ⟨fn, tmps, assign, body, hy, hRR⟩ := HYY.out _ hlt p0 rfl HJ2.out
    dsimp only [encIS, encS] at hy
    clear p0 hst
    gi_wp2_with fail
    refine hRR.mono ?_
    rintro e W3 (⟨rfl, hJ3, hk3⟩ | ⟨rfl, hJx3⟩)
    ·gi_wp2_with fail
     go_roundw
     case rel => exact ⟨k + 1, by omega, by go_num, ⟨by rw [HST.out]; exact hJ3⟩, ⟨(HK.out.alloc HKS.out _).trans hk3⟩⟩
     case measure => simp [intOf]; omega
    ·gi_wp2_with fail
     refine bodyPost_ret (results_none rfl _ _ _) rfl ?_
     exact ⟨⟨_, rfl⟩, .inr ⟨_, trivial, hJx3⟩⟩
   ·have p0b : (r.f0 == old) = false := beq_eq_false_iff_ne.2 p0
    rw [if_neg p0] at hst
    have HST := Aside0.mk hst
    clear p0 hst
    gi_wp2_with fail
    refine ⟨fun _ h => (by cases h), ?_⟩
    gi_wp2_with fail
    go_roundw
    case rel => exact ⟨k + 1, by omega, by go_num, ⟨by rw [HST.out]; exact HJ2.out⟩, ⟨HK.out.alloc HKS.out _⟩⟩
    case measure => simp [intOf]; omega
  ·obtain rfl : k = ss.length := by omega
   gi_wp2
   go_end0
   exact ⟨⟨_, rfl⟩, .inl ⟨_, rfl, HJ.out⟩⟩
/-- What the body is handed: an index, and the street of the old district there. -/
def IsOf (ss : List S115) (old : Int) (x : IS) : Prop := x.1 < ss.length ∧ x.2 = enc_rd_Street ss x.1 ∧ x.2.f0 = old
theorem of_stops (F : Fence) (n : Nat) (hf : F.fn 109) (hro : F.round = none) (hn : 1 ≤ n) (gm gn n₀ : Nat) (S : Nat → Prop) (u0 u1 u3 : Value) (A2 : Option Addr) (c2 : Nat) (ss : List S115) (old : Int) (hreach : ss.length ≤ 281474976710656)
  (w : World) (hw : n₀ ≤ w.heap.size) (hR : OfReads n₀ S w gm gn u0 u1 u3 A2 c2 ss old) :
  SeqStopsK F n Try.prog 109 #[.pointer (some ⟨gm, 0, none⟩), .pointer (some ⟨gn, 0, none⟩)] (fun x : { x // IsOf ss old x } => encIS x.1) (Keep n₀ S) (fun ys => ys.map (·.1) = ofAt ss old ss.length) (fun _ => True) ss.length w := fun l J Jx W hW hJ hJx hY h0 => by
 have hk : Keep n₀ S w W := Keep.of_below hW hw
 refine (of1_in F n hf hro hn l gm gn n₀ S u0 u1 u3 A2 c2 ss old hreach (fun pre W => ∃ ys : List { x // IsOf ss old x }, ys.map (·.1) = pre ∧ J ys W) (fun pre W => ∃ ys : List { x // IsOf ss old x }, ys.map (·.1) = pre ∧ Jx ys W) W.heap.size ?_ ?_ W (Nat.le_trans hw hW.size) ?_ ⟨[], rfl, h0⟩).mono ?_
 ·rintro s A B row ⟨ys, e, hj⟩ hg hr
  exact ⟨ys, e, hJ ys A B row hj hg hr⟩
 ·rintro pre k W' hkl hko he ⟨ys, rfl, hj⟩
  have hlen : ys.length < ss.length := by
   have := ofAt_len ss old k
   rw [← he, List.length_map] at this
   omega
  refine (hY ys ⟨(k, enc_rd_Street ss k), hkl, rfl, hko⟩ W' hj hlen).mono ?_
  rintro e W'' (⟨rfl, h1, h2⟩ | ⟨rfl, h1⟩)
  ·exact .inl ⟨rfl, ⟨_, by simp, h1⟩, h2⟩
  ·exact .inr ⟨rfl, ⟨_, by simp, h1⟩⟩
 ·exact ⟨((hk.block gm hR.lm.1 hR.lm.2).trans hR.m), (hk.cell (p := ⟨gn, 0, none⟩) hR.ln.1 hR.ln.2).trans hR.n, Kd.C_below hR.streets hW, hR.lm, hR.ln, hR.lr⟩
 ·rintro e W' ⟨hv, ⟨ys, he, zs, h1, h2⟩ | ⟨pre, _, zs, h1, h2⟩⟩
  ·exact ⟨hv, .inl ⟨zs, h1.trans he, h2⟩⟩
  ·exact ⟨hv, .inr ⟨zs, trivial, h2⟩⟩
theorem of_in (F : Fence) (n : Nat) (hf : F.fn 84) (hro : F.round = none) (u0 u1 u2 u3 : Value) (old : Int) (hu0 : u0.cells = #[u0]) (hu1 : u1.cells = #[u1]) (hu2 : u2.cells = #[u2]) (hu3 : u3.cells = #[u3]) (w : World) :
  CallsIn F n Try.prog 84 #[.agg #[u0, u1, u2, u3], .int .i64 old] w fun e w' => e = .returned (.func (.func 109) #[] #[.pointer (some ⟨w.heap.size, 0, none⟩), .pointer (some ⟨w.heap.size + 1, 0, none⟩)]) ∧
   w' = (w.alloc (.cells #[u0, u1, u2, u3] 69)).alloc (.cells #[.int .i64 old] 3) := by
 refine callsIn_of_wp Try.func84 rfl hf ?_ hro
 simp only [Try.ntmps84, List.size_toArray, List.length_cons, List.length_nil, Nat.reduceAdd, Nat.reduceSub, Array.replicate_succ, Array.replicate_zero, List.push_toArray, List.append_toArray, List.nil_append, List.cons_append]
 gi_wp2
 go_ret
 exact ⟨rfl, rfl⟩
end Go.Proofs.Ytiddkceahbnolaa
namespace Go.Proofs.Ytiddkceahbnolaa
open Go.RowKit Go.Shelf Go.Proofs.Ytiddkceahbnolaa.PBorderOrder Go.Proofs.YtiddkceahbnolaaW.PrintWords Go.Proofs.YtiddkceahbnolaaW.PrintLast
set_option linter.all false
def Marks (lo : Nat) (W : World) : List Deferred → Prop
 | [] => True
 | d :: ds => (∃ D, d = { target := .collected D, args := #[] } ∧ lo ≤ D ∧ W.heap[D]? = some (.deferred (some [])) ∧ ∀ d' ∈ ds, d'.target ≠ .collected D) ∧ Marks lo W ds
theorem Marks.move {lo : Nat} {W W' : World} (hm : ∀ D : Nat, W.heap[D]? = some (Obj.deferred (some [])) → W'.heap[D]? = some (Obj.deferred (some []))) : ∀ {ds : List Deferred}, Marks lo W ds → Marks lo W' ds
 | [], _ => trivial
 | _ :: _, ⟨⟨D, h1, h2, h3, h4⟩, h5⟩ => ⟨⟨D, h1, h2, hm D h3, h4⟩, Marks.move hm h5⟩
theorem Marks.alloc {lo : Nat} {W : World} {ds : List Deferred} (h : Marks lo W ds) (o : Obj) : Marks lo (W.alloc o) ds := Marks.move (fun D hd => blk_alloc hd o) h
theorem Marks.drewN {lo : Nat} {W : World} {ds : List Deferred} (h : Marks lo W ds) (n : Nat) : Marks lo (W.drewN n) ds := Marks.move (W := W) (W' := W.drewN n) (fun _ hd => hd) h
theorem Marks.drew {lo : Nat} {W : World} {ds : List Deferred} (h : Marks lo W ds) : Marks lo W.drew ds := Marks.move (W := W) (W' := W.drew) (fun _ hd => hd) h
theorem Marks.setCell {lo : Nat} {W : World} {ds : List Deferred} (h : Marks lo W ds) (p : Addr) (u : Value) : Marks lo (W.setCell p u) ds := by
 refine Marks.move (fun D hd => ?_) h
 simp only [World.setCell, Array.getElem?_modify]
 by_cases e : p.block = D
 ·rw [if_pos e, hd]
  rfl
 ·rw [if_neg e]
  exact hd
def bodyPostM0 (F : Fence) (n : Nat) (P : Program) (fn : Func) (R : Ending → World → Prop) : Exit → Act → World → Prop
 | .normal, a, w | .ret, a, w => LeavesInM F n P fn a.tmps R a.defers .returning w
 | _, _, _ => False
theorem callsIn_of_wp_marks0 {P : Program} {F : Fence} {n : Nat} {f : FuncId} {fn : Func} {c : Code} {args : Array Value} {w : World} {R : Ending → World → Prop}
  (hf : P.funcs[f]? = some fn) (hb : fn.body = some c) (hF : F.fn f)
  (h : c.wpIn F n P (bodyPostM0 F n P fn R) { tmps := args ++ Array.replicate (fn.ntmps - args.size) undef, defers := [] } w) (hro : F.round = none := by rfl) : CallsIn F n P f args w R :=
 callsIn_of_wp_marks hf hb hF (wpIn_mono h (fun e a w hq => by cases e <;> first | exact hq | exact hq.elim)) hro
theorem Blk.kept {wr W' : World} {g : Nat} {cs : List Value} {t : TypeId} (h : Blk wr g cs t) {B : Nat} {row : Option Nat} (hB : g < B) (hg : wr.grownBy W' row) (hr : ∀ r, row = some r → B ≤ r) : Blk W' g cs t :=
 h.move (hg.block g h.lt (fun e => by have := hr g e.symm; omega))
def MKeep (a b : World) : Prop := ∀ D : Nat, a.heap[D]? = some (Obj.deferred (some [])) → b.heap[D]? = some (Obj.deferred (some []))
theorem MKeep.refl (a : World) : MKeep a a := fun _ h => h
theorem MKeep.setCell {a b : World} (h : MKeep a b) (p : Addr) (u : Value) : MKeep a (b.setCell p u) := fun D hd => (KeepsOthers.setCell b p u).same D _ (h D hd) rfl
theorem MKeep.drew {a b : World} (h : MKeep a b) : MKeep a b.drew := h
theorem MKeep.kept {a b c : World} (h : MKeep a b) {B : Nat} {row : Option Nat} (hB : a.heap.size ≤ B) (hg : b.grownBy c row) (hr : ∀ r, row = some r → B ≤ r) : MKeep a c := fun D hd => by
 have h1 : D < a.heap.size := (Array.getElem?_eq_some_iff.1 hd).1
 have h2 : D < b.heap.size := (Array.getElem?_eq_some_iff.1 (h D hd)).1
 exact (hg.block D h2 (fun e => by have := hr D e.symm; omega)).trans (h D hd)
theorem Marks.cons {lo : Nat} {a b : World} {ds : List Deferred} (h : Marks lo a ds) (hm : MKeep a b) {D : Nat} (hD : a.heap.size ≤ D) (hlo : lo ≤ a.heap.size) (hDm : b.heap[D]? = some (.deferred (some []))) : Marks lo b ({ target := .collected D, args := #[] } :: ds) := by
 refine ⟨⟨D, rfl, by omega, hDm, ?_⟩, Marks.move hm h⟩
 clear hDm hm hlo
 induction ds with
 | nil => exact fun d hd => by cases hd
 | cons d ds ih =>
  obtain ⟨⟨D', rfl, h2, h3, h4⟩, h5⟩ := h
  have h6 : D' < a.heap.size := (Array.getElem?_eq_some_iff.1 h3).1
  intro d' hd'
  rcases List.mem_cons.1 hd' with rfl | hd'
  ·simp only [ne_eq, Target.collected.injEq]
   omega
  ·exact ih h5 d' hd'
theorem putObj_other (W : World) {D k : Nat} (o : Obj) (h : k ≠ D) : (W.putObj D o).heap[k]? = W.heap[k]? := World.putObj_heap_other h
theorem Marks.put {lo : Nat} {W : World} {D : Nat} (o : Obj) : ∀ {ds : List Deferred}, Marks lo W ds → (∀ d' ∈ ds, d'.target ≠ .collected D) → Marks lo (W.putObj D o) ds
 | [], _, _ => trivial
 | d :: ds, ⟨⟨D', h1, h2, h3, h4⟩, h5⟩, hd => by
  refine ⟨⟨D', h1, h2, ?_, h4⟩, Marks.put o h5 (fun d' hd' => hd d' (List.mem_cons_of_mem _ hd'))⟩
  rw [putObj_other W o (by rintro rfl; exact hd d List.mem_cons_self (by rw [h1]))]
  exact h3
theorem Marks.leaves {lo : Nat} {F : Fence} {n : Nat} {P : Program} {fn : Func} {tmps : Array Value} {R : Ending → World → Prop} {Inv : World → Prop} (hInv : ∀ (W : World) (D : Nat), lo ≤ D → W.heap[D]? = some (.deferred (some [])) → Inv W → Inv (W.putObj D (.deferred none)))
  (hend : ∀ W, Inv W → LeavesIn F n P fn tmps R [] .returning W) : ∀ (ds : List Deferred) (W : World), Marks lo W ds → Inv W → LeavesInM F n P fn tmps R ds .returning W
 | [], W, _, hi => hend W hi
 | d :: ds, W, ⟨⟨D, h1, h2, h3, h4⟩, h5⟩, hi => ⟨by simp, .inl ⟨D, _, by rw [h1], run_takeDeferred h3, Marks.leaves hInv hend ds _ (h5.put _ h4) (hInv W D h2 h3 hi)⟩⟩
theorem zip2 (t : Array Value) (i j : Tmp) (a b : Value) : (#[i, j].zip #[a, b]).foldl (fun t (p, v) => t.setIfInBounds p v) t = (t.setIfInBounds i a).setIfInBounds j b := by simp
/-- wpIn_rangeFunc_ownF, the frame of a round told by what it makes of the frame. -/
theorem range_ownF {F : Fence} {n : Nat} {P : Program} {α : Type} {g : Operand} {ps : Array Tmp} {assign body : Code} {Q : Exit → Act → World → Prop} {a : Act} {w : World}
  (hro : F.round = none) (h1 : 1 ≤ n) {gf : Nat} {lb : Array Value} (hg : a.eval g = .func (.func gf) #[] lb) (hFg : F.fn gf) (eg : ∀ args w, (callFunc gf args).run P w = .ok (.enter gf args) w)
  {encs : α → Array Value} {Kp : World → World → Prop} {S Sp : List α → Prop} {N : Nat} (hseq : SeqStopsK F (n - 1) P gf lb encs Kp S Sp N w)
  (hKt : ∀ {A B C : World}, Kp A B → Kp B C → Kp A C) (hKb : ∀ (W : World) (l : Nat) (o o' : Obj), w.heap.size ≤ l → W.heap[l]? = some o → o.isCells = false → o.isWalk = false → Kp W (W.putObj l o')) (hps : ∀ x, (encs x).size = ps.size)
  (fz f : Array Value → α → Array Value) (hz : ∀ t x, (ps.zip (encs x)).foldl (fun t (p, v) => t.setIfInBounds p v) t = fz t x) (I : List α → World → Prop) (hI : OwnFrom w.heap.size I) (h0 : I [] w)
  (hassign : ∀ (l : Nat) (x : α) (W : World) (K : Act → World → Prop), K { tmps := f a.tmps x, defers := [] } W →
   assign.wpIn (F.inRound l) (n - 1 - 1) P (Exit.then K (fun _ _ _ => False)) { tmps := fz a.tmps x, defers := [] } W)
  (hbody : ∀ (l : Nat) (pre : List α) (x : α) (W : World), I pre W → pre.length < N → body.wpIn (F.inRound l) (n - 1 - 1) P (ownPostK Kp I (fun _ _ _ => False) (pre ++ [x]) W) { tmps := f a.tmps x, defers := [] } W)
  (hdone : ∀ (D : Nat) (xs : List α) (W : World), w.heap.size ≤ D → S xs → I xs W → W.heap[D]? = some (.deferred (some [])) → Q .normal { a with defers := { target := .collected D, args := #[] } :: a.defers } W) :
  (Code.rangeFunc g ps assign body).wpIn F n P Q a w :=
 wpIn_rangeFunc_ownF hro h1 hg hFg eg hseq (fun h k => hKt h k) hKb (Below.refl _ _) hps I (fun _ _ _ => False) hI (fun _ _ _ _ _ h => h.elim) h0 (fun x => { tmps := f a.tmps x, defers := [] }) (fun l x W K hK => by rw [hz]; exact hassign l x W K hK) hbody hdone (fun _ _ _ _ _ _ h => h.elim)
def noDefer (ops : Array Oper) : Bool := ops.all fun o => match o.op with | .defer _ => false | _ => true
theorem noDefer_spec {ops : Array Oper} (h : noDefer ops = true) {i : Nat} {o : Oper} (ho : ops[i]? = some o) (c : Call) : o.op ≠ .defer c := by
 intro e
 obtain ⟨hi, he⟩ := Array.getElem?_eq_some_iff.1 ho
 unfold noDefer at h
 rw [Array.all_eq_true] at h
 have := h i hi
 rw [he, e] at this
 cases this
theorem uponIn_round_of_upon {r n : Nat} {P : Program} {o : Oper} {a : Act} {K K' : Act → World → Prop} {Q : Exit → Act → World → Prop} (hK : ∀ a w, K a w → K' a w) {x : Result Next} (h : o.upon P a K Q x) : o.uponIn (Fence.wide.inRound r) n P a K' Q x := by
 have hno : (Fence.wide.inRound r).depth.isSome = true → 1 ≤ n := fun e => absurd e (by simp [Fence.wide])
 cases x with
 | ok v w' =>
  cases v with
  | value v => exact hK _ _ h
  | skip => exact hK _ _ h
  | defer d => exact hK _ _ h
  | enter f args => exact ⟨hno, CallsIn.inRound r (callsIn_wide.2 (Calls.mono h (fun e w'' he => by cases e <;> first | exact hK _ _ he | exact he)))⟩
  | row row args => exact ⟨hno, fun c cs _ => Exists.elim (h c cs) fun v h' => Exists.elim h' fun w'' h'' => ⟨v, w'', hK _ _ h''.1, stepsIn_wide.2 h''.2⟩⟩
  | _ => exact h.elim
 | halt o w' =>
  cases o with
  | panic v => exact h
  | _ => exact h.elim
theorem wpOpsIn_of_wpOps {r n : Nat} {P : Program} {ops : Array Oper} {Q : Exit → Act → World → Prop} (hd : noDefer ops = true) (hQ : ¬ LetsOut Q) : ∀ (l : List Nat) (a : Act) (w : World), wpOps P ops Q l a w → wpOpsIn (Fence.wide.inRound r) n P ops Q l a w
 | [], a, w, h => h
 | i :: rest, a, w, h => by
  unfold wpOps at h
  unfold wpOpsIn
  cases ho : ops[i]? with
  | none =>
   rw [ho] at h
   exact wpOpsIn_of_wpOps hd hQ rest a w h
  | some o =>
   rw [ho] at h
   simp only at h ⊢
   by_cases hw : Region.wanted o (yielded ops a.tmps) = true
   ·rw [if_pos hw] at h ⊢
    rcases h with h | h
    ·refine ⟨fun _ _ => trivial, ?_⟩
     rw [Oper.semAt_eq _ _ _ (noDefer_spec hd ho)]
     exact uponIn_round_of_upon (wpOpsIn_of_wpOps hd hQ rest) h
    ·exact absurd h.2 hQ
   ·rw [if_neg hw] at h ⊢
    exact ⟨fun _ _ => trivial, wpOpsIn_of_wpOps hd hQ rest _ w h⟩
theorem startR_ {r m id n : Nat} {P : Program} {ops : Array Oper} {Q : Exit → Act → World → Prop} {S : World → Prop} {ds : List Nat} {a : Act} {w : World} (hQ : ¬ LetsOut Q) (hd : noDefer ops = true) (l : Array Bool) (hm : P.follows .mixedOrders = true) (hn : ops.size = n) (hl : Array.replicate n false = l) (hS : S w.drew)
  (h : S w.drew → wpAnyLast P .any ops Q S ds n l a w.drew) : (Code.region id ops true).wpIn (Fence.wide.inRound r) m P Q a w := by
 subst hn
 subst hl
 refine wpIn_region_draw fun t => wpOpsIn_of_wpOps hd hQ _ _ _ ?_
 simp only [Region.schedule, hm, Bool.true_or, if_true]
 exact wpAny_sound _ t _ a _ (wpAny_of_last _ _ _ _ (h hS))
theorem streets_lo {w : World} {A2 : Option Addr} {ss : List S115} (h : Kd.C k115 w A2 ss.length ss) (h0 : 0 < ss.length) : ∀ ad, A2 = some ad → ad.block < w.heap.size := by
 intro ad e
 obtain ⟨ad', e', h1, _⟩ := at_T115 h ((0 : Nat) : Int) (by omega) (by omega)
 rw [e] at e'
 obtain rfl := Option.some.inj e'
 have hbk : ∀ (d : Addr) (i : Nat), (d.add i).block = d.block := fun d i => by unfold Addr.add; split <;> rfl
 have := World.block_lt_of_cell? _ _ h1
 rwa [hbk] at this
end Go.Proofs.Ytiddkceahbnolaa
namespace Go.Proofs.Ytiddkceahbnolaa
open Go.RowKit Go.Shelf Go.Proofs.Ytiddkceahbnolaa.PBorderOrder Go.Proofs.YtiddkceahbnolaaW.PrintWords Go.Proofs.YtiddkceahbnolaaW.PrintLast
set_option linter.all false
def cellsS (x : S115) : List Value := [.int .i64 x.f0, .int .i64 x.f1, .int .i64 x.f2, .int .i64 x.f3.f0, .int .i64 x.f3.f1]
theorem keepsFrom_alloc (B : Nat) (W : World) (o : Obj) : KeepsFrom B W (W.alloc o) := ⟨by simp, fun k o' _ hk _ => blk_alloc hk o⟩
theorem range_of {g : Operand} {pa pb : Tmp} {assign body : Code} {Q : Exit → Act → World → Prop} {a : Act} {w : World} {n : Nat} (h1 : 1 ≤ n) (hn : 1 ≤ n - 1) {gm gn : Nat}
  (hg : a.eval g = .func (.func 109) #[] #[.pointer (some ⟨gm, 0, none⟩), .pointer (some ⟨gn, 0, none⟩)])
  {n₀ : Nat} {S : Nat → Prop} {u0 u1 u3 : Value} {A2 : Option Addr} {c2 : Nat} {ss : List S115} {old : Int} (hreach : ss.length ≤ 281474976710656) (hw : n₀ ≤ w.heap.size) (hR : OfReads n₀ S w gm gn u0 u1 u3 A2 c2 ss old)
  (fz : Array Value → IS → Array Value) (f : Array Value → IS → Nat → Array Value) (hz : ∀ t x, (#[pa, pb].zip (encIS x)).foldl (fun t (p, v) => t.setIfInBounds p v) t = fz t x)
  (I : List IS → World → Prop) (hI : OwnFrom w.heap.size I) (hIs : ∀ xs W, I xs W → w.heap.size ≤ W.heap.size) (h0 : I [] w)
  (hassign : ∀ (l : Nat) (x : IS) (W : World) (K : Act → World → Prop), IsOf ss old x → K { tmps := f a.tmps x W.heap.size, defers := [] } (W.alloc (.cells (cellsS x.2).toArray 115)) →
   assign.wpIn (Fence.wide.inRound l) (n - 1 - 1) Try.prog (Exit.then K (fun _ _ _ => False)) { tmps := fz a.tmps x, defers := [] } W)
  (hbody : ∀ (l : Nat) (pre : List IS) (x : IS) (g : Nat) (W : World), IsOf ss old x → pre.length < ss.length → I pre W → w.heap.size ≤ g → Blk W g (cellsS x.2) 115 → body.wpIn (Fence.wide.inRound l) (n - 1 - 1) Try.prog (ownPostG w.heap.size (Keep n₀ S) I (fun _ _ _ => False) (pre ++ [x]) W) { tmps := f a.tmps x g, defers := [] } W)
  (hdone : ∀ (D : Nat) (W : World), w.heap.size ≤ D → I (ofAt ss old ss.length) W → W.heap[D]? = some (.deferred (some [])) → Q .normal { a with defers := { target := .collected D, args := #[] } :: a.defers } W) :
  (Code.rangeFunc g #[pa, pb] assign body).wpIn Fence.wide n Try.prog Q a w := by
 refine wpIn_rangeFunc_ownH (α := { x // IsOf ss old x }) rfl h1 hg trivial (enters Try.func109 (by kernel_rfl) rfl)
  (of_stops Fence.wide (n - 1) trivial rfl hn gm gn n₀ S u0 u1 u3 A2 c2 ss old hreach w hw hR) (fun h k => h.trans k) (keepK_b hw) (Below.refl _ _) (fun _ => rfl)
  (fun (xs : List { x // IsOf ss old x }) W => I (xs.map Subtype.val) W) (fun _ _ _ => False) (by intro xs W W' row h hgr hr; exact hI _ W W' row h hgr hr) (by intro _ _ _ _ _ h; exact h.elim) h0
  (fun x a' W => ∃ g, w.heap.size ≤ g ∧ Blk W g (cellsS x.1.2) 115 ∧ a' = { tmps := f a.tmps x.1 g, defers := [] }) ?_ ?_ ?_ ?_ (fun _ _ _ _ _ _ h => h.elim)
 ·rintro x a' _ W W' row ⟨g, hg1, hg2, rfl⟩ hgr hr
  refine ⟨g, hg1, hg2.move (hgr.block g hg2.lt (fun e => ?_)), rfl⟩
  obtain ⟨_, o, ho, hc⟩ := hr g e.symm
  rw [show W.heap[g]? = _ from hg2] at ho
  cases ho
  cases hc
 ·intro l pre x W K hi hK
  rw [hz]
  exact hassign l x.1 W K x.2 (hK _ _ (keepsFrom_alloc _ _ _) (Keep.of_below ((Below.refl W.heap.size W).alloc (Nat.le_refl _) _) (Nat.le_trans hw (hIs _ _ hi))) (hI.alloc _ hi) ⟨W.heap.size, hIs _ _ hi, Blk.new W (cellsS x.1.2) 115, rfl⟩)
 ·rintro l pre x a' W _ _ hi ⟨g, hg1, hg2, rfl⟩ hlen
  have := hbody l (pre.map Subtype.val) x.1 g W x.2 (by rw [List.length_map]; exact hlen) hi hg1 hg2
  refine wpIn_mono this ?_
  rintro e a3 W3 hp
  cases e <;> first | (rw [List.map_append]; exact hp) | exact hp | simpa [ownPostG] using hp
 ·intro D xs W hD hS hi hDm
  refine hdone D W hD ?_ hDm
  have : xs.map Subtype.val = ofAt ss old ss.length := hS
  rw [this] at hi
  exact hi
end Go.Proofs.Ytiddkceahbnolaa
