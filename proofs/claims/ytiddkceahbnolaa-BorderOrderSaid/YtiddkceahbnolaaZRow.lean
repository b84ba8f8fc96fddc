/- For every map, limit and the two words that turn it: tithinglaw11.BorderOrder returns true, and each argument reads behind the call as it read before. No condition beyond the statement's own. -/
import Derived.Test.YtiddkceahbnolaaZLaw
import Derived.WalkKit
import Derived.ProofKit
import Derived.Deep.Slices
import Derived.Deep.Strs
import Derived.Lib.SmallJoins
import Derived.ChangeSame
import Derived.Test.YtiddkceahbnolaaRows
import Derived.OpenShut
import Derived.ShutString
import Derived.ChangeOld
import Derived.Below
import Derived.Carry
import Derived.SizedLaws
namespace Go.Proofs.Ytiddkceahbnolaa
set_option linter.all false
open Go.RowKit Go.ChangeShapes Go.WideShapes Go.Deep Go.Proofs.Ytiddkceahbnolaa.PBorderOrder Go.Proofs.YtiddkceahbnolaaW.PrintWords
set_option linter.unusedVariables false
section
variable {H : Type} {enc : TypeId × Value → H} {P : Program} {w : World} {base : Nat} {spare : Nat → Bool} {held : Bool}
/-- A row of elements whose cells say what they are. -/
theorem open_kind {α : Type} (d : Kd α) {t e : TypeId} {fuel : Nat} {v : Value} {x : DataW H × List MemPlace} (ht : P.underlying t = some (.slice e)) (hc : P.cellsOf e = d.sz)
  (hel : ∀ (n : Nat) (cs : List Value) (y : DataW H × List MemPlace), cs.length = d.sz → DataW.trod enc P w base spare held n e cs = some y → ∃ z, d.K w z cs)
  (h : DataW.trod enc P w base spare held fuel t [v] = some x) : ∃ (A : Option Addr) (c : Nat) (l : List α), v = .slice A l.length c ∧ l.length ≤ c ∧ c ≤ maxLen ∧ d.C w A l.length l := by
 rcases open_slice ht h with ⟨hcs, _⟩ | ⟨a, len, cap, m, n, D, Pl, hcs, hb, hl, hm, hmm, hx, hi⟩
 ·obtain rfl : v = .slice none 0 0 := by simpa using hcs
  exact ⟨none, 0, [], rfl, Nat.le_refl _, Nat.zero_le _, ⟨rfl, by simp, fun h => absurd h (by simp)⟩⟩
 ·obtain rfl : v = .slice (some a) len cap := by simpa using hcs
  have hlm : len ≤ m := by rw [hmm]; split <;> omega
  have key : ∀ i : Fin len, ∃ z : α, ∃ cs : List Value, cs.length = d.sz ∧ d.K w z cs ∧ ∀ j u, cs[j]? = some u → w.cell? (a.add (i.1 * d.sz + j)) = some u := by
   intro i
   obtain ⟨cs', hcc, htr⟩ := hi i.1 (by omega)
   rw [hc] at hcc
   obtain ⟨_, hcl, hat⟩ := World.cells?_some hcc
   obtain ⟨z, hz⟩ := hel n cs' _ hcl htr
   refine ⟨z, cs', hcl, hz, fun j u hj => ?_⟩
   have hjl : j < d.sz := by
    rw [← hcl]
    exact (List.getElem?_eq_some_iff.1 hj).1
   have := hat j hjl
   rw [← Go.Deep.add_add, this, hj]
  obtain ⟨f, hf⟩ := Classical.axiomOfChoice key
  have hlen : (List.ofFn f).length = len := by simp
  have hcap : len ≤ 9223372036854775807 := by
   have : maxLen ≤ 9223372036854775807 := by decide
   omega
  refine ⟨some a, cap, List.ofFn f, by rw [hlen], by rw [hlen]; exact hl, hm, ?_⟩
  refine ⟨rfl, by rw [hlen]; exact hcap, fun _ => ⟨a, rfl, fun j p hj => ?_⟩⟩
  obtain ⟨hjl, hjp⟩ := List.getElem?_eq_some_iff.1 hj
  rw [hlen] at hjl
  obtain ⟨cs, h1, h2, h3⟩ := hf ⟨j, hjl⟩
  have hp : f ⟨j, hjl⟩ = p := by rw [← hjp]; simp
  rw [hp] at h2
  exact ⟨cs, h1, h2, h3⟩
end
section
variable {H : Type} {enc : TypeId × Value → H} {w : World} {base : Nat} {spare : Nat → Bool} {held : Bool}
theorem list2 {α : Type} {l : List α} (h : l.length = 2) : ∃ a b, l = [a, b] := by
 match l, h with
 | [a, b], _ => exact ⟨a, b, rfl⟩
theorem list5 {α : Type} {l : List α} (h : l.length = 5) : ∃ a b c d e, l = [a, b, c, d, e] := by
 match l, h with
 | [a, b, c, d, e], _ => exact ⟨a, b, c, d, e, rfl⟩
theorem cells_int : Try.prog.cellsOf 3 = (Kd.int .i64).sz := by kernel_rfl
theorem cells_range : Try.prog.cellsOf 58 = 2 := by kernel_rfl
theorem cells_join : Try.prog.cellsOf 62 = k62.sz := by kernel_rfl
theorem cells_street : Try.prog.cellsOf 118 = k118.sz := by kernel_rfl
theorem cells_map : Try.prog.cellsOf 57 = 4 := by kernel_rfl
theorem int_cells (n : Nat) (cs : List Value) (y : DataW H × List MemPlace) (hl : cs.length = (Kd.int .i64).sz) (h : DataW.trod enc Try.prog w base spare held n 3 cs = some y) : ∃ z, (Kd.int .i64).K w z cs := by
 obtain ⟨a, e0, _, _⟩ := DataW.trod_int Try.underlying3 h
 exact ⟨a, e0⟩
theorem range_cells (n : Nat) (cs : List Value) (y : DataW H × List MemPlace) (hl : cs.length = 2) (h : DataW.trod enc Try.prog w base spare held n 58 cs = some y) : ∃ z, k58.K w z cs := by
 obtain ⟨c0, c1, rfl⟩ := list2 hl
 obtain ⟨y0, y1, m, _, _, h0, h1⟩ := trod_struct2 Try.underlying58 h
 have e : Try.prog.cellsOf 3 = 1 := by kernel_rfl
 simp only [e, List.drop_zero, List.drop_succ_cons, List.take_succ_cons, List.take_zero] at h0 h1
 obtain ⟨a, e0, _, _⟩ := DataW.trod_int Try.underlying3 h0
 obtain ⟨b, e1, _, _⟩ := DataW.trod_int Try.underlying3 h1
 obtain rfl : c0 = .int .i64 a := by simpa using e0
 obtain rfl : c1 = .int .i64 b := by simpa using e1
 exact ⟨⟨a, b⟩, k58_mk w ⟨a, b⟩⟩
theorem join_cells (n : Nat) (cs : List Value) (y : DataW H × List MemPlace) (hl : cs.length = k62.sz) (h : DataW.trod enc Try.prog w base spare held n 62 cs = some y) : ∃ z, k62.K w z cs := by
 obtain ⟨c0, c1, rfl⟩ := list2 (show cs.length = 2 from hl)
 obtain ⟨y0, y1, m, _, _, h0, h1⟩ := trod_struct2 Try.underlying62 h
 have e : Try.prog.cellsOf 3 = 1 := by kernel_rfl
 simp only [e, List.drop_zero, List.drop_succ_cons, List.take_succ_cons, List.take_zero] at h0 h1
 obtain ⟨a, e0, _, _⟩ := DataW.trod_int Try.underlying3 h0
 obtain ⟨b, e1, _, _⟩ := DataW.trod_int Try.underlying3 h1
 obtain rfl : c0 = .int .i64 a := by simpa using e0
 obtain rfl : c1 = .int .i64 b := by simpa using e1
 exact ⟨⟨a, b⟩, k62_mk w ⟨a, b⟩⟩
theorem street_cells (n : Nat) (cs : List Value) (y : DataW H × List MemPlace) (hl : cs.length = k118.sz) (h : DataW.trod enc Try.prog w base spare held n 118 cs = some y) : ∃ z, k118.K w z cs := by
 obtain ⟨c0, c1, c2, c3, c4, rfl⟩ := list5 (show cs.length = 5 from hl)
 obtain ⟨x0, x1, x2, x3, m, _, _, h0, h1, h2, h3⟩ := Go.Joins.trod_struct4 Try.underlying118 h
 have e : Try.prog.cellsOf 3 = 1 := by kernel_rfl
 have e2 : Try.prog.cellsOf 58 = 2 := by kernel_rfl
 simp only [e, e2, List.drop_zero, List.drop_succ_cons, List.take_succ_cons, List.take_zero] at h0 h1 h2 h3
 obtain ⟨a, e0, _, _⟩ := DataW.trod_int Try.underlying3 h0
 obtain ⟨b, e1, _, _⟩ := DataW.trod_int Try.underlying3 h1
 obtain ⟨c, e3, _, _⟩ := DataW.trod_int Try.underlying3 h2
 obtain rfl : c0 = .int .i64 a := by simpa using e0
 obtain rfl : c1 = .int .i64 b := by simpa using e1
 obtain rfl : c2 = .int .i64 c := by simpa using e3
 obtain ⟨z, hz⟩ := range_cells (w := w) m [c3, c4] x3 rfl h3
 have := k58_open hz
 simp only [List.cons.injEq, and_true] at this
 obtain ⟨rfl, rfl⟩ := this
 exact ⟨⟨a, b, c, z⟩, k118_mk w ⟨a, b, c, z⟩⟩
set_option maxRecDepth 100000 in
/-- The law's map: its four fields. -/
theorem open_refmap {r : Reach} {b0 : Nat} {v : Value} {d : DataW H} {p : List MemPlace} (hv : Value.okWide Try.prog w r b0 57 v) (h : DataW.Trod enc Try.prog w base spare held 57 v d p) :
  ∃ (A0 : Option Addr) (c0 : Nat) (old : List Int) (nw : Int) (A2 : Option Addr) (c2 : Nat) (rs : List S118) (A3 : Option Addr) (c3 : Nat) (rj : List S62),
   v = .agg #[.slice A0 old.length c0, .int .i64 nw, .slice A2 rs.length c2, .slice A3 rj.length c3] ∧ old.length ≤ c0 ∧ rs.length ≤ c2 ∧ rj.length ≤ c3 ∧ (Kd.int .i64).C w A0 old.length old ∧ k118.C w A2 rs.length rs ∧ k62.C w A3 rj.length rj := by
 obtain ⟨v0, v1, v2, v3, y0, y1, y2, y3, n, rfl, _, _, h0, h1, h2, h3⟩ := Go.Joins.open_agg4 Try.underlying57 (by kernel_rfl) cells_map hv h
 obtain ⟨A0, c0, old, rfl, hl0, _, hC0⟩ := open_kind (Kd.int .i64) (t := 26) (e := 3) Try.underlying26 cells_int (fun n cs y => int_cells n cs y) h0
 obtain ⟨nw, e1, _, _⟩ := DataW.trod_int Try.underlying3 h1
 obtain rfl : v1 = .int .i64 nw := by simpa using e1
 obtain ⟨A2, c2, rs, rfl, hl2, _, hC2⟩ := open_kind k118 (t := 54) (e := 118) Try.underlying54 cells_street (fun n cs y => street_cells n cs y) h2
 obtain ⟨A3, c3, rj, rfl, hl3, _, hC3⟩ := open_kind k62 (t := 55) (e := 62) Try.underlying55 cells_join (fun n cs y => join_cells n cs y) h3
 exact ⟨A0, c0, old, nw, A2, c2, rs, A3, c3, rj, rfl, hl0, hl2, hl3, hC0, hC2, hC3⟩
set_option maxRecDepth 100000 in
/-- A range of the law: two ints. -/
theorem open_refrange {r : Reach} {b0 : Nat} {v : Value} {d : DataW H} {p : List MemPlace} (hv : Value.okWide Try.prog w r b0 58 v) (h : DataW.Trod enc Try.prog w base spare held 58 v d p) :
  ∃ lo hi : Int, v = .agg #[.int .i64 lo, .int .i64 hi] := by
 obtain ⟨v0, v1, y0, y1, n, rfl, _, _, h0, h1⟩ := Go.Joins.open_agg2 Try.underlying58 (by kernel_rfl) cells_range hv h
 obtain ⟨a, e0, _, _⟩ := DataW.trod_int Try.underlying3 h0
 obtain ⟨b, e1, _, _⟩ := DataW.trod_int Try.underlying3 h1
 obtain rfl : v0 = .int .i64 a := by simpa using e0
 obtain rfl : v1 = .int .i64 b := by simpa using e1
 exact ⟨a, b, rfl⟩
end
end Go.Proofs.Ytiddkceahbnolaa
namespace Go.Proofs.Ytiddkceahbnolaa.borderOrder
set_option linter.all false
open Go.ChangeShapes Go.WideShapes Go.ChangeAt Go.RowKit Go.Proofs.Ytiddkceahbnolaa.PBorderOrder Go.Proofs.YtiddkceahbnolaaW.PrintWords
set_option linter.unusedVariables false
theorem own : ownKnob Try.prog.godebug = none := by kernel_rfl
theorem laidOut : laidOutB Try.prog = true := by kernel_rfl
theorem u8_of {n : Int} (h : (Lit.int .u8 n).wf = true) : 0 ≤ n ∧ n < 256 := by
 simp [Lit.wf] at h
 have e1 : IntKind.u8.min = 0 := rfl
 have e2 : IntKind.u8.max = 255 := rfl
 omega
set_option maxRecDepth 100000 in
theorem lifted (os : Os) (started : os.Started) (H : Type) (enc : TypeId × Value → H) :
  ReturnsInHanded {} Try.checked os 4 .any (Rows.borderOrderSpec.pre6 enc Try.prog Try.f4 Rows.borderOrderRow.domain false) (Rows.borderOrderSpec.post enc Try.prog Try.f4 false true false false) := by
 refine returnsInHanded_of_change_sized (C := Try.checked) own started (by kernel_rfl) Try.func4
  (ChangeSpec.witness6 (enc := enc) (C := Try.checked) false ⟨#[], #[.agg #[.slice none 0 0, .int .i64 0, .slice none 0 0, .slice none 0 0], .agg #[.int .i64 0, .int .i64 0], .int .u8 0, .int .u8 0], []⟩ 4 (by kernel_rfl) (by kernel_rfl) (by kernel_rfl) (by kernel_rfl)) ?_
 intro W base args ds gs before hval0 hW hcnd hsz0 _
 have hval : ∀ (j : Nat) t v, Try.f4.params[j]? = some t → args[j]? = some v → Value.okWide Try.prog W .any base t v := hval0
 have hW' := hW
 obtain ⟨p, q, hA0, hV, rfl, hfz, hnd⟩ := hW
 have hA : DataW.TrodAll enc Try.prog W 0 (fun _ => true) true Try.f4.params.toList args.toList ds p := hA0
 rw [Try.params4] at hA hval
 obtain ⟨v0, vs0, d0, ds0, p0, q0, hargs, rfl, rfl, h0, r0⟩ := trodAll_cons hA
 obtain ⟨v1, vs1, d1, ds1, p1, q1, rfl, rfl, rfl, h1, r1⟩ := trodAll_cons r0
 obtain ⟨v2, vs2, d2, ds2, p2, q2, rfl, rfl, rfl, h2, r2⟩ := trodAll_cons r1
 obtain ⟨v3, vs3, d3, ds3, p3, q3, rfl, rfl, rfl, h3, r3⟩ := trodAll_cons r2
 obtain ⟨rfl, rfl, rfl⟩ := trodAll_nil r3
 obtain rfl : args = #[v0, v1, v2, v3] := by cases args; simp_all
 obtain ⟨rfl, rfl⟩ := trodVars_none hV
 have k0 := h0
 have lt0 : ∀ x ∈ p0, x.block < W.heap.size := by obtain ⟨m, hm⟩ := k0; exact DataW.trod_lt m _ _ _ hm
 have k1 := h1
 have lt1 : ∀ x ∈ p1, x.block < W.heap.size := by obtain ⟨m, hm⟩ := k1; exact DataW.trod_lt m _ _ _ hm
 obtain ⟨A0, c0, old, nw, A2, c2, rs, A3, c3, rj, rfl, hc0, hc2, hc3, hr0, hr2, hr3⟩ := open_refmap (hval 0 57 v0 rfl rfl) h0
 obtain ⟨lo, hi, rfl⟩ := open_refrange (hval 1 58 v1 rfl rfl) h1
 obtain ⟨a2, rfl, rfl, rfl, w2⟩ := open_int Try.underlying5 (hval 2 5 v2 rfl rfl) h2
 obtain ⟨a3, rfl, rfl, rfl, w3⟩ := open_int Try.underlying5 (hval 3 5 v3 rfl rfl) h3
 clear hA0 hval0 hsz0
 refine (law_calls old nw rs rj lo hi a2 a3 W hr0 hc0 hr2 hc2 hr3 hc3 (u8_of w2).1 (u8_of w2).2 (u8_of w3).1 (u8_of w3).2).mono fun e W' ⟨he, bel⟩ => ?_
 subst he
 exact ⟨_, rfl, _, _, _, [], _, [], hW', trodAll_mk1 (shut_bool Try.underlying4 _), (trodAll_cons_mk (Below.trod laidOut (by kernel_rfl) (of_decide_eq_true (by kernel_rfl)) k0 bel lt0) (trodAll_cons_mk (Below.trod laidOut (by kernel_rfl) (of_decide_eq_true (by kernel_rfl)) k1 bel lt1) (trodAll_cons_mk (shut_int Try.underlying5 w2) (trodAll_cons_mk (shut_int Try.underlying5 w3) trodAll_mk0)))), rfl, bel.frame _, fun h => by cases h⟩
theorem over : Rows.borderOrderRow.holds Try.pinned (OpenSpec.ofChange Rows.borderOrderSpec) :=
 OpenClaim.holds_of_wide 4 Try.f4 rfl rfl rfl rfl rfl rfl rfl ⟨rfl, rfl, rfl, rfl, rfl⟩ rfl rfl rfl rfl rfl (by kernel_rfl) Try.func4 (by kernel_rfl)
  (of_decide_eq_true (by kernel_rfl)) (by unfold Func.isWrapper; first | (rw [if_pos (by decide +kernel)]; kernel_rfl) | (rw [if_neg (by decide +kernel)]; exact ⟨rfl, rfl⟩))
  (fun os started H enc _ => lifted os started H enc)
theorem proved : Rows.BorderOrderSaid := over
#print axioms proved
end Go.Proofs.Ytiddkceahbnolaa.borderOrder
namespace Go.Proofs.Ytiddkceahbnolaa
/-- The row, under a short name, for the claim. -/
theorem borderOrder_holds : Rows.BorderOrderSaid := borderOrder.proved
end Go.Proofs.Ytiddkceahbnolaa
