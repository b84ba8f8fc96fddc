/- For every map, two places, a list of places, a limit, a number of enumerators and the two words that turn the roads: tithinglaw01.WalkOrder returns true, and each argument reads behind the call as it read before. No condition beyond the statement's own. -/
import Derived.Test.YtiddkceahbnolaaPWalkOrderx4
import Derived.WalkKit
import Derived.ProofKit
import Derived.Deep.Slices
import Derived.Deep.Strs
import Derived.Lib.SmallJoins
import Derived.ChangeSame
import Derived.Test.YtiddkceahbnolaaRows
import Derived.Test.YtiddkceahbnolaaLaw
import Derived.OpenShut
import Derived.ShutString
import Derived.ChangeOld
import Derived.Below
import Derived.Carry
import Derived.SizedLaws
namespace Go.Proofs.Ytiddkceahbnolaa
set_option linter.all false
open Go.RowKit Go.ChangeShapes Go.WideShapes Go.Deep Go.Proofs.Ytiddkceahbnolaa.PWalkOrder Go.Proofs.YtiddkceahbnolaaW.PrintWords
set_option linter.unusedVariables false
section
variable {H : Type} {enc : TypeId × Value → H} {P : Program} {w : World} {base : Nat} {spare : Nat → Bool} {held : Bool}
/-- A row of elements whose cells say what they are. -/
theorem open_kind {α : Type} (d : Kd α) {t e : TypeId} {fuel : Nat} {v : Value} {x : DataW H × List MemPlace} (ht : P.underlying t = some (.slice e)) (hc : P.cellsOf e = d.sz)
  (hel : ∀ (n : Nat) (cs : List Value) (y : DataW H × List MemPlace), cs.length = d.sz → DataW.trod enc P w base spare held n e cs = some y → ∃ z, d.K w z cs)
  (h : DataW.trod enc P w base spare held fuel t [v] = some x) : ∃ (A : Option Addr) (c : Nat) (l : List α), v = .slice A l.length c ∧ l.length ≤ c ∧ c ≤ maxLen ∧ d.C w A l.length l := by
 rcases open_slice ht h with ⟨hcs, _⟩ | ⟨a, len, cap, m, n, D, Pl, hcs, hb, hl, hm, hmm, hx, hi⟩
 ·obtain rfl : v = .slice none 0 0 := by simpa using hcs
  exact ⟨none, 0, [], rfl, Nat.le_refl _, Nat.zero_le _, ⟨rfl, by simp, fun h => absurd h (by simp)⟩⟩
 ·obtain rfl : v = .slice (some a) len cap := by simpa using hcs
  have hlm : len ≤ m := by rw [hmm]; split <;> omega
  have key : ∀ i : Fin len, ∃ z : α, ∃ cs : List Value, cs.length = d.sz ∧ d.K w z cs ∧ ∀ j u, cs[j]? = some u → w.cell? (a.add (i.1 * d.sz + j)) = some u := by
   intro i
   obtain ⟨cs', hcc, htr⟩ := hi i.1 (by omega)
   rw [hc] at hcc
   obtain ⟨_, hcl, hat⟩ := World.cells?_some hcc
   obtain ⟨z, hz⟩ := hel n cs' _ hcl htr
   refine ⟨z, cs', hcl, hz, fun j u hj => ?_⟩
   have hjl : j < d.sz := by
    rw [← hcl]
    exact (List.getElem?_eq_some_iff.1 hj).1
   have := hat j hjl
   rw [← Go.Deep.add_add, this, hj]
  obtain ⟨f, hf⟩ := Classical.axiomOfChoice key
  have hlen : (List.ofFn f).length = len := by simp
  have hcap : len ≤ 9223372036854775807 := by
   have : maxLen ≤ 9223372036854775807 := by decide
   omega
  refine ⟨some a, cap, List.ofFn f, by rw [hlen], by rw [hlen]; exact hl, hm, ?_⟩
  refine ⟨rfl, by rw [hlen]; exact hcap, fun _ => ⟨a, rfl, fun j p hj => ?_⟩⟩
  obtain ⟨hjl, hjp⟩ := List.getElem?_eq_some_iff.1 hj
  rw [hlen] at hjl
  obtain ⟨cs, h1, h2, h3⟩ := hf ⟨j, hjl⟩
  have hp : f ⟨j, hjl⟩ = p := by rw [← hjp]; simp
  rw [hp] at h2
  exact ⟨cs, h1, h2, h3⟩
end
section
variable {H : Type} {enc : TypeId × Value → H} {w : World} {base : Nat} {spare : Nat → Bool} {held : Bool}
theorem list2 {α : Type} {l : List α} (h : l.length = 2) : ∃ a b, l = [a, b] := by
 match l, h with
 | [a, b], _ => exact ⟨a, b, rfl⟩
theorem list4 {α : Type} {l : List α} (h : l.length = 4) : ∃ a b c d, l = [a, b, c, d] := by
 match l, h with
 | [a, b, c, d], _ => exact ⟨a, b, c, d, rfl⟩
theorem cells_range : Try.prog.cellsOf 32 = k32.sz := by kernel_rfl
theorem cells_road : Try.prog.cellsOf 34 = k34.sz := by kernel_rfl
theorem cells_map : Try.prog.cellsOf 25 = 2 := by kernel_rfl
theorem range_cells (n : Nat) (cs : List Value) (y : DataW H × List MemPlace) (hl : cs.length = k32.sz) (h : DataW.trod enc Try.prog w base spare held n 32 cs = some y) : ∃ z, k32.K w z cs := by
 obtain ⟨c0, c1, rfl⟩ := list2 (show cs.length = 2 from hl)
 obtain ⟨y0, y1, m, _, _, h0, h1⟩ := trod_struct2 Try.underlying32 h
 have e : Try.prog.cellsOf 3 = 1 := by kernel_rfl
 simp only [e, List.drop_zero, List.drop_succ_cons, List.take_succ_cons, List.take_zero] at h0 h1
 obtain ⟨a, e0, _, _⟩ := DataW.trod_int Try.underlying3 h0
 obtain ⟨b, e1, _, _⟩ := DataW.trod_int Try.underlying3 h1
 obtain rfl : c0 = .int .i64 a := by simpa using e0
 obtain rfl : c1 = .int .i64 b := by simpa using e1
 exact ⟨⟨a, b⟩, k32_mk w ⟨a, b⟩⟩
theorem road_cells (n : Nat) (cs : List Value) (y : DataW H × List MemPlace) (hl : cs.length = k34.sz) (h : DataW.trod enc Try.prog w base spare held n 34 cs = some y) : ∃ z, k34.K w z cs := by
 obtain ⟨c0, c1, c2, c3, rfl⟩ := list4 (show cs.length = 4 from hl)
 obtain ⟨x0, x1, x2, m, _, _, h0, h1, h2⟩ := trod_struct3 Try.underlying34 h
 have e : Try.prog.cellsOf 3 = 1 := by kernel_rfl
 have e2 : Try.prog.cellsOf 32 = 2 := by kernel_rfl
 simp only [e, e2, List.drop_zero, List.drop_succ_cons, List.take_succ_cons, List.take_zero] at h0 h1 h2
 obtain ⟨a, e0, _, _⟩ := DataW.trod_int Try.underlying3 h0
 obtain ⟨b, e1, _, _⟩ := DataW.trod_int Try.underlying3 h1
 obtain rfl : c0 = .int .i64 a := by simpa using e0
 obtain rfl : c1 = .int .i64 b := by simpa using e1
 obtain ⟨z, hz⟩ := range_cells (w := w) m [c2, c3] x2 rfl h2
 have := k32_open hz
 simp only [List.cons.injEq, and_true] at this
 obtain ⟨rfl, rfl⟩ := this
 exact ⟨⟨a, b, z⟩, k34_mk w ⟨a, b, z⟩⟩
set_option maxRecDepth 100000 in
/-- The law's map: its two rows. -/
theorem open_refmap {r : Reach} {b0 : Nat} {v : Value} {d : DataW H} {p : List MemPlace} (hv : Value.okWide Try.prog w r b0 25 v) (h : DataW.Trod enc Try.prog w base spare held 25 v d p) :
  ∃ (A0 : Option Addr) (c0 : Nat) (l0 : List S32) (A1 : Option Addr) (c1 : Nat) (l1 : List S34), v = .agg #[.slice A0 l0.length c0, .slice A1 l1.length c1] ∧ l0.length ≤ c0 ∧ l1.length ≤ c1 ∧ k32.C w A0 l0.length l0 ∧ k34.C w A1 l1.length l1 := by
 obtain ⟨v0, v1, y0, y1, n, rfl, _, _, h0, h1⟩ := Go.Joins.open_agg2 Try.underlying25 (by kernel_rfl) cells_map hv h
 obtain ⟨A0, c0, l0, rfl, hl0, _, hC0⟩ := open_kind k32 (t := 22) (e := 32) Try.underlying22 cells_range (fun n cs y => range_cells n cs y) h0
 obtain ⟨A1, c1, l1, rfl, hl1, _, hC1⟩ := open_kind k34 (t := 23) (e := 34) Try.underlying23 cells_road (fun n cs y => road_cells n cs y) h1
 exact ⟨A0, c0, l0, A1, c1, l1, rfl, hl0, hl1, hC0, hC1⟩
end
end Go.Proofs.Ytiddkceahbnolaa

namespace Go.Proofs.Ytiddkceahbnolaa.walkOrder
set_option linter.all false
open Go.ChangeShapes Go.WideShapes Go.ChangeAt Go.RowKit Go.Proofs.Ytiddkceahbnolaa.PWalkOrder Go.Proofs.YtiddkceahbnolaaW.PrintWords
set_option linter.unusedVariables false
theorem own : ownKnob Try.prog.godebug = none := by kernel_rfl
theorem laidOut : laidOutB Try.prog = true := by kernel_rfl
section
variable {H : Type} {enc : TypeId × Value → H} {w : World} {base : Nat} {spare : Nat → Bool} {held : Bool}
theorem cells_int : Try.prog.cellsOf 3 = (Kd.int .i64).sz := by kernel_rfl
theorem int_cells (n : Nat) (cs : List Value) (y : DataW H × List MemPlace) (hl : cs.length = (Kd.int .i64).sz) (h : DataW.trod enc Try.prog w base spare held n 3 cs = some y) : ∃ z, (Kd.int .i64).K w z cs := by
 obtain ⟨a, e0, _, _⟩ := DataW.trod_int Try.underlying3 h
 exact ⟨a, e0⟩
set_option maxRecDepth 100000 in
theorem open_introw {r : Reach} {b0 : Nat} {v : Value} {d : DataW H} {p : List MemPlace} (hv : Value.okWide Try.prog w r b0 26 v) (h : DataW.Trod enc Try.prog w base spare held 26 v d p) :
  ∃ (A : Option Addr) (c : Nat) (l : List Int), v = .slice A l.length c ∧ l.length ≤ c ∧ (Kd.int .i64).C w A l.length l := by
 obtain ⟨a, n, c, rfl⟩ := okWide_slice Try.underlying26 hv
 obtain ⟨fuel, hf⟩ := h
 have hf : DataW.trod enc Try.prog w base spare held fuel 26 [.slice a n c] = some (d, p) := by simpa [Value.cells] using hf
 obtain ⟨A, c, l, e, hl, _, hC⟩ := open_kind (Kd.int .i64) (t := 26) (e := 3) Try.underlying26 cells_int (fun n cs y => int_cells n cs y) hf
 exact ⟨A, c, l, e, hl, hC⟩
end
theorem u8_of {n : Int} (h : (Lit.int .u8 n).wf = true) : 0 ≤ n ∧ n < 256 := by
 simp [Lit.wf] at h
 have e1 : IntKind.u8.min = 0 := rfl
 have e2 : IntKind.u8.max = 255 := rfl
 omega
set_option maxRecDepth 100000 in
theorem lifted (os : Os) (started : os.Started) (H : Type) (enc : TypeId × Value → H) :
  ReturnsInHanded {} Try.checked os 3 .any (Rows.walkOrderSpec.pre6 enc Try.prog Try.f3 Rows.walkOrderRow.domain false) (Rows.walkOrderSpec.post enc Try.prog Try.f3 false true false false) := by
 refine returnsInHanded_of_change_sized (C := Try.checked) own started (by kernel_rfl) Try.func3
  (ChangeSpec.witness6 (enc := enc) (C := Try.checked) false ⟨#[], #[.agg #[.slice none 0 0, .slice none 0 0], .int .i64 0, .int .i64 0, .slice none 0 0, .int .i64 0, .int .i64 0, .int .u8 0, .int .u8 0], []⟩ 8 (by kernel_rfl) (by kernel_rfl) (by kernel_rfl) (by kernel_rfl)) ?_
 intro W base args ds gs before hval0 hW hcnd hsz0 _
 have hval : ∀ (j : Nat) t v, Try.f3.params[j]? = some t → args[j]? = some v → Value.okWide Try.prog W .any base t v := hval0
 have hW' := hW
 obtain ⟨p, q, hA0, hV, rfl, hfz, hnd⟩ := hW
 have hA : DataW.TrodAll enc Try.prog W 0 (fun _ => true) true Try.f3.params.toList args.toList ds p := hA0
 rw [Try.params3] at hA hval
 obtain ⟨v0, vs0, d0, ds0, p0, q0, hargs, rfl, rfl, h0, r0⟩ := trodAll_cons hA
 obtain ⟨v1, vs1, d1, ds1, p1, q1, rfl, rfl, rfl, h1, r1⟩ := trodAll_cons r0
 obtain ⟨v2, vs2, d2, ds2, p2, q2, rfl, rfl, rfl, h2, r2⟩ := trodAll_cons r1
 obtain ⟨v3, vs3, d3, ds3, p3, q3, rfl, rfl, rfl, h3, r3⟩ := trodAll_cons r2
 obtain ⟨v4, vs4, d4, ds4, p4, q4, rfl, rfl, rfl, h4, r4⟩ := trodAll_cons r3
 obtain ⟨v5, vs5, d5, ds5, p5, q5, rfl, rfl, rfl, h5, r5⟩ := trodAll_cons r4
 obtain ⟨v6, vs6, d6, ds6, p6, q6, rfl, rfl, rfl, h6, r6⟩ := trodAll_cons r5
 obtain ⟨v7, vs7, d7, ds7, p7, q7, rfl, rfl, rfl, h7, r7⟩ := trodAll_cons r6
 obtain ⟨rfl, rfl, rfl⟩ := trodAll_nil r7
 obtain rfl : args = #[v0, v1, v2, v3, v4, v5, v6, v7] := by cases args; simp_all
 obtain ⟨rfl, rfl⟩ := trodVars_none hV
 have k0 := h0
 have lt0 : ∀ x ∈ p0, x.block < W.heap.size := by obtain ⟨m, hm⟩ := k0; exact DataW.trod_lt m _ _ _ hm
 obtain ⟨A0, c0, l0, A1, c1, l1, rfl, hc0, hc1, hr0, hr1⟩ := open_refmap (hval 0 25 v0 rfl rfl) h0
 obtain ⟨a1, rfl, rfl, rfl, w1⟩ := open_int Try.underlying3 (hval 1 3 v1 rfl rfl) h1
 obtain ⟨a2, rfl, rfl, rfl, w2⟩ := open_int Try.underlying3 (hval 2 3 v2 rfl rfl) h2
 have k3 := h3
 have lt3 : ∀ x ∈ p3, x.block < W.heap.size := by obtain ⟨m, hm⟩ := k3; exact DataW.trod_lt m _ _ _ hm
 obtain ⟨A3, c3, l3, rfl, hc3, hr3⟩ := open_introw (hval 3 26 v3 rfl rfl) h3
 obtain ⟨a4, rfl, rfl, rfl, w4⟩ := open_int Try.underlying3 (hval 4 3 v4 rfl rfl) h4
 obtain ⟨a5, rfl, rfl, rfl, w5⟩ := open_int Try.underlying3 (hval 5 3 v5 rfl rfl) h5
 obtain ⟨a6, rfl, rfl, rfl, w6⟩ := open_int Try.underlying5 (hval 6 5 v6 rfl rfl) h6
 obtain ⟨a7, rfl, rfl, rfl, w7⟩ := open_int Try.underlying5 (hval 7 5 v7 rfl rfl) h7
 clear hA0 hval0 hsz0
 refine (law_calls l0 l1 a1 a2 l3 a4 a5 a6 a7 W hr0 hc0 hr1 hc1 hr3 hc3 (u8_of w6).1 (u8_of w6).2 (u8_of w7).1 (u8_of w7).2).mono fun e W' ⟨he, bel⟩ => ?_
 subst he
 exact ⟨_, rfl, _, _, _, [], _, [], hW', trodAll_mk1 (shut_bool Try.underlying4 _), (trodAll_cons_mk (Below.trod laidOut (by kernel_rfl) (of_decide_eq_true (by kernel_rfl)) k0 bel lt0) (trodAll_cons_mk (shut_int Try.underlying3 w1) (trodAll_cons_mk (shut_int Try.underlying3 w2) (trodAll_cons_mk (Below.trod laidOut (by kernel_rfl) (of_decide_eq_true (by kernel_rfl)) k3 bel lt3) (trodAll_cons_mk (shut_int Try.underlying3 w4) (trodAll_cons_mk (shut_int Try.underlying3 w5) (trodAll_cons_mk (shut_int Try.underlying5 w6) (trodAll_cons_mk (shut_int Try.underlying5 w7) trodAll_mk0)))))))), rfl, bel.frame _, fun h => by cases h⟩
theorem over : Rows.walkOrderRow.holds Try.pinned (OpenSpec.ofChange Rows.walkOrderSpec) :=
 OpenClaim.holds_of_wide 3 Try.f3 rfl rfl rfl rfl rfl rfl rfl ⟨rfl, rfl, rfl, rfl, rfl⟩ rfl rfl rfl rfl rfl (by kernel_rfl) Try.func3 (by kernel_rfl)
  (of_decide_eq_true (by kernel_rfl)) (by unfold Func.isWrapper; first | (rw [if_pos (by decide +kernel)]; kernel_rfl) | (rw [if_neg (by decide +kernel)]; exact ⟨rfl, rfl⟩))
  (fun os started H enc _ => lifted os started H enc)
theorem proved : Rows.WalkOrderSaid := over
#print axioms proved
end Go.Proofs.Ytiddkceahbnolaa.walkOrder
namespace Go.Proofs.Ytiddkceahbnolaa
/-- The row, under a short name, for the claim. -/
theorem walkOrder_holds : Rows.WalkOrderSaid := walkOrder.proved
end Go.Proofs.Ytiddkceahbnolaa
