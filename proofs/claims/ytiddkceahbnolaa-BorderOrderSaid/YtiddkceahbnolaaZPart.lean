/- border's part: the bounds of the people of an old district in the streets that pass a test. -/
import Derived.Test.YtiddkceahbnolaaZPa
import Derived.Test.YtiddkceahbnolaaWMore
namespace Go.Proofs.Ytiddkceahbnolaa
open Go.RowKit Go.Shelf Go.Proofs.Ytiddkceahbnolaa.PBorderOrder Go.Proofs.YtiddkceahbnolaaW.PrintWords Go.Proofs.YtiddkceahbnolaaW.PrintLast Go.Proofs.YtiddkceahbnolaaW.PrintMore
set_option linter.all false
attribute [local go_sem] Oper.semAt_some max2_int max_two
def pt.T9 : Bool × List (List Nat × List Nat) := (true, [([], []), ([0], [0]), ([1], [1]), ([2], [2]), ([], []), ([4], [4]), ([], []), ([6], [6]), ([5, 7], [5, 7]), ([3, 8], [3, 8]), ([0, 0, 1, 2, 3, 4, 5, 6, 7, 8, 9], [0]), ([10, 0, 1, 2, 3, 4, 5, 6, 7, 8, 9], [10]), ([11, 9, 8, 0, 1, 2, 3, 4, 5, 6, 7, 8, 9], [9, 11])])
def pt.B9 : List Nat := [0, 1, 3, 7, 0, 16, 0, 64, 240, 511, 1023, 2047, 4095]
theorem pt.tab9 : rtab .any (opsOf Try.f51 9) = pt.T9 := by kernel_rfl
theorem pt.bits9 : waitsOk pt.T9.2 pt.B9 = true := by kernel_rfl
def pt.T10 : Bool × List (List Nat × List Nat) := (true, [([], []), ([0], [0]), ([1], [1]), ([2], [2]), ([], []), ([4], [4]), ([], []), ([6], [6]), ([5, 7], [5, 7]), ([3, 8], [3, 8]), ([0, 0, 1, 2, 3, 4, 5, 6, 7, 8, 9], [0]), ([10, 0, 1, 2, 3, 4, 5, 6, 7, 8, 9], [10]), ([11, 9, 8, 0, 1, 2, 3, 4, 5, 6, 7, 8, 9], [9, 11])])
def pt.B10 : List Nat := [0, 1, 3, 7, 0, 16, 0, 64, 240, 511, 1023, 2047, 4095]
theorem pt.tab10 : rtab .any (opsOf Try.f51 10) = pt.T10 := by kernel_rfl
theorem pt.bits10 : waitsOk pt.T10.2 pt.B10 = true := by kernel_rfl
def pt.T11 : Bool × List (List Nat × List Nat) := (true, [([], []), ([0], [0]), ([], []), ([2], [2]), ([], []), ([3, 4], [3, 4]), ([5], [5]), ([], []), ([7], [7]), ([6, 8], [6, 8]), ([1, 9], [1, 9]), ([], []), ([11], [11]), ([], []), ([13], [13]), ([], []), ([14, 15], [14, 15]), ([16], [16]), ([], []), ([18], [18]), ([17, 19], [17, 19]), ([12, 20], [12, 20]), ([21], [21]), ([10, 22], [10, 22]), ([23, 22, 0, 1, 2, 3, 4, 5, 6, 7, 8, 9, 10, 11, 12, 13, 14, 15, 16, 17, 18, 19, 20, 21, 22, 23], [23])])
def pt.B11 : List Nat := [0, 1, 0, 4, 0, 28, 60, 0, 128, 508, 1023, 0, 2048, 0, 8192, 0, 57344, 122880, 0, 262144, 1040384, 2095104, 4192256, 8388607, 16777215]
theorem pt.tab11 : rtab .any (opsOf Try.f51 11) = pt.T11 := by kernel_rfl
theorem pt.bits11 : waitsOk pt.T11.2 pt.B11 = true := by kernel_rfl
/-- A function value that answers p of the first n numbers, in whatever world that keeps what is there. -/
def PredIn (n : Nat) (g : Nat) (cap : Array Value) (p : Int → Bool) (w : World) : Prop :=
 ∀ (W : World) (x : Nat), x < n → Below w.heap.size w W → Calls Try.prog g (#[.int .i64 (x : Int)] ++ cap) W fun e w' => e = .returned (.bool (p (x : Int))) ∧ Below W.heap.size W w'
def insP (p : Int → Bool) (xs : List IS) : List IS := xs.filter (fun x => p (x.1 : Int))
def outP (p : Int → Bool) (xs : List IS) : List IS := xs.filter (fun x => !p (x.1 : Int))
theorem insP_t {p : Int → Bool} {xs : List IS} {x : IS} (h : p (x.1 : Int) = true) : insP p (xs ++ [x]) = insP p xs ++ [x] ∧ outP p (xs ++ [x]) = outP p xs := by
 unfold insP outP
 simp [List.filter_append, List.filter_cons, h]
theorem insP_f {p : Int → Bool} {xs : List IS} {x : IS} (h : p (x.1 : Int) = false) : insP p (xs ++ [x]) = insP p xs ∧ outP p (xs ++ [x]) = outP p xs ++ [x] := by
 unfold insP outP
 simp [List.filter_append, List.filter_cons, h]
theorem insP_ppl {p : Int → Bool} {xs : List IS} (h : Ppl xs) : Ppl (insP p xs) ∧ Ppl (outP p xs) := ⟨fun x hx => h x (List.mem_filter.1 hx).1, fun x hx => h x (List.mem_filter.1 hx).1⟩
theorem insP_len (p : Int → Bool) (xs : List IS) : (insP p xs).length ≤ xs.length ∧ (outP p xs).length ≤ xs.length := ⟨List.length_filter_le _ _, List.length_filter_le _ _⟩
def partF (old : List Int) (ss : List S115) (d : Int) (p : Int → Bool) : Int × Int :=
 (max (losum (insP p (ofAt ss d ss.length))) (rd old d - hisum (outP p (ofAt ss d ss.length))), min (hisum (insP p (ofAt ss d ss.length))) (rd old d - losum (outP p (ofAt ss d ss.length))))
/-- A step of a round: one block of its own is written, what lies there is kept. -/
structure Stp (gr : Nat) (W W' : World) : Prop where
 ko : KeepsOthers W W'
 os : W'.os = W.os
 tape : W'.tape = W.tape
 output : W'.output = W.output
 block : ∀ k, k < W.heap.size → k ≠ gr → W'.heap[k]? = W.heap[k]?
theorem Stp.refl (gr : Nat) (W : World) : Stp gr W W := ⟨KeepsOthers.refl W, rfl, rfl, rfl, fun _ _ _ => rfl⟩
theorem Stp.below {gr : Nat} {W A B : World} (h : Stp gr W A) (hb : Below A.heap.size A B) : Stp gr W B :=
 ⟨h.ko.trans ⟨hb.size, fun k o hk _ => (hb.block k (Array.getElem?_eq_some_iff.1 hk).1).trans hk⟩, hb.os.trans h.os, hb.tape.trans h.tape, hb.output.trans h.output, fun k hk hne => (hb.block k (by have := h.ko.size; omega)).trans (h.block k hk hne)⟩
theorem Stp.drew {gr : Nat} {W A : World} (h : Stp gr W A) : Stp gr W A.drew := ⟨⟨h.ko.size, h.ko.same⟩, h.os, h.tape, h.output, h.block⟩
theorem Stp.set {gr : Nat} {W A : World} (h : Stp gr W A) (i : Nat) (v : Value) : Stp gr W (A.setCell ⟨gr, i, none⟩ v) :=
 ⟨h.ko.trans (KeepsOthers.setCell A _ v), h.os, h.tape, h.output, fun k hk hne => (Below.heap_setCell _ _ _ _ (by simpa using hne)).trans (h.block k hk hne)⟩
theorem Stp.keep {gr n : Nat} {S : Nat → Prop} {W W' : World} (h : Stp gr W W') (hS : S gr ∨ n ≤ gr) (hn : n ≤ W.heap.size) : Keep n S W W' :=
 ⟨h.os, h.tape, h.output, h.ko.size, fun k hk hs => h.block k (by omega) (fun e => by subst e; cases hS <;> first | contradiction | omega)⟩
theorem Stp.blk {gr g : Nat} {W W' : World} {cs : List Value} {t : TypeId} (h : Stp gr W W') (hb : Blk W g cs t) (hne : g ≠ gr) : Blk W' g cs t := hb.move (h.block _ hb.lt hne)
theorem Stp.mkeep {gr : Nat} {W W' w : World} (h : Stp gr W W') (hm : MKeep w W) : MKeep w W' := fun D hd => h.ko.same D _ (hm D hd) rfl
theorem Stp.seq {gr B : Nat} {w W W' : World} (h : Stp gr W W') (hb : Below B w W) (hB : B ≤ gr) (hBs : B ≤ W.heap.size) : Below B w W' :=
 ⟨h.os.trans hb.os, h.tape.trans hb.tape, h.output.trans hb.output, Nat.le_trans hb.size h.ko.size, fun k hk => (h.block k (by omega) (by omega)).trans (hb.block k hk)⟩
theorem Ppl.snoc {pre : List IS} {x : IS} (h : Ppl pre) (hx : 0 ≤ x.2.f3.f0 ∧ x.2.f3.f0 ≤ x.2.f3.f1 ∧ x.2.f3.f1 ≤ 10000) : Ppl (pre ++ [x]) := fun y hy => by
 rcases List.mem_append.1 hy with hy | hy
 ·exact h y hy
 ·obtain rfl := List.mem_singleton.1 hy
  exact hx
/-- The sums of those that pass, and do not. -/
theorem part_sums {p : Int → Bool} {pre : List IS} {x : IS} (h : Ppl pre) (hl : pre.length < 8) (hx : 0 ≤ x.2.f3.f0 ∧ x.2.f3.f0 ≤ x.2.f3.f1 ∧ x.2.f3.f1 ≤ 10000) (b : Bool) :
  wrap64 (losum (if b then insP p pre else outP p pre) + x.2.f3.f0) = losum (if b then insP p pre else outP p pre) + x.2.f3.f0 ∧ wrap64 (hisum (if b then insP p pre else outP p pre) + x.2.f3.f1) = hisum (if b then insP p pre else outP p pre) + x.2.f3.f1 := by
 have h1 := sums_bound (insP_ppl (p := p) h).1
 have h2 := sums_bound (insP_ppl (p := p) h).2
 have h3 := insP_len p pre
 cases b
 ·simp only [Bool.false_eq_true, if_false]
  constructor <;> exact wrap_small (by omega) (by omega)
 ·simp only [if_true]
  constructor <;> exact wrap_small (by omega) (by omega)
theorem max_if (a b : Int) : (if a < b then b else a) = max a b := by
 by_cases h : a < b
 ·rw [if_pos h]; omega
 ·rw [if_neg h]; omega
theorem blk_putD {W : World} {D g : Nat} {cs : List Value} {t : TypeId} (h : Blk W g cs t) (hD : W.heap[D]? = some (.deferred (some []))) (o : Obj) : Blk (W.putObj D o) g cs t := by
 have hne : g ≠ D := fun e => by
  subst e
  have h' : W.heap[g]? = some (.cells cs.toArray t) := h
  rw [hD] at h'
  cases h'
 exact h.move ((grownBy_putObj' W D o).block g h.lt (fun e => hne (by cases e; rfl)))
set_option maxRecDepth 100000 in
set_option maxHeartbeats 40000000 in
theorem part_calls {A0 : Option Addr} {c0 : Nat} {old : List Int} {nw : Int} {A2 : Option Addr} {c2 : Nat} {ss : List S115} {A3 : Option Addr} {c3 : Nat} {js : List S119} {w : World} (h : IsB w A0 c0 old A2 c2 ss A3 c3 js) (hss : ss.length ≤ 8) (hst : ∀ s ∈ ss, StreetOk old.length nw s) (hol : ∀ n ∈ old, 0 ≤ n ∧ n ≤ 10000)
  (d : Nat) (hd : d < old.length) (gf : Nat) (cap : Array Value) (hg : ∀ args w, (callFunc gf args).run Try.prog w = .ok (.enter gf args) w) (p : Int → Bool) (hp : PredIn ss.length gf cap p w) :
  Calls Try.prog 51 #[.agg #[.slice A0 old.length c0, .int .i64 nw, .slice A2 ss.length c2, .slice A3 js.length c3], .int .i64 (d : Int), .func (.func gf) #[] cap] w fun e w' => e = .returned (.agg #[.int .i64 (partF old ss (d : Int) p).1, .int .i64 (partF old ss (d : Int) p).2]) ∧ Below w.heap.size w w' := by
 have H := Aside0.mk h
 have HP := Aside0.mk hp
 have HST := Aside0.mk hst
 have HOL := Aside0.mk hol
 have hb2 := h.b2
 clear h hp hst hol
 refine (callsIn_wide (n := 9)).1 (callsIn_of_wp_marks0 Try.func51 rfl trivial ?_ rfl)
 simp only [Try.ntmps51, List.size_toArray, List.length_cons, List.length_nil, Nat.reduceAdd, Nat.reduceSub, Array.replicate_succ, Array.replicate_zero, List.push_toArray, List.append_toArray, List.nil_append, List.cons_append]
 refine wpIn_wide.2 ?_
 go_wp2_with (with_reducible refine wpIn_wide.2 ?_)
 have HB0 := Aside0.mk (below_alloc (below_alloc (below_alloc (Below.refl w.heap.size w) (.cells #[.slice A0 old.length c0, .int .i64 nw, .slice A2 ss.length c2, .slice A3 js.length c3] 69)) (.cells #[.func (.func gf) #[] cap] 83)) (.cells #[.int .i64 0, .int .i64 0] 71))
 have B30 := Aside0.mk (((Blk.new w [.slice A0 old.length c0, .int .i64 nw, .slice A2 ss.length c2, .slice A3 js.length c3] 69).alloc (.cells #[.func (.func gf) #[] cap] 83)).alloc (.cells #[.int .i64 0, .int .i64 0] 71))
 have B50 := Aside0.mk (show Blk _ (w.heap.size + 1) _ _ by have hB := (Blk.new (w.alloc (.cells #[.slice A0 old.length c0, .int .i64 nw, .slice A2 ss.length c2, .slice A3 js.length c3] 69)) [.func (.func gf) #[] cap] 83).alloc (.cells #[.int .i64 0, .int .i64 0] 71); simp only [World.size_alloc] at hB; exact hB)
 have B60 := Aside0.mk (show Blk _ (w.heap.size + 1 + 1) _ _ by have hB := Blk.new ((w.alloc (.cells #[.slice A0 old.length c0, .int .i64 nw, .slice A2 ss.length c2, .slice A3 js.length c3] 69)).alloc (.cells #[.func (.func gf) #[] cap] 83)) [.int .i64 0, .int .i64 0] 71; simp only [World.size_alloc] at hB; exact hB)
 have hs0 : w.heap.size + 3 = (((w.alloc (.cells #[.slice A0 old.length c0, .int .i64 nw, .slice A2 ss.length c2, .slice A3 js.length c3] 69)).alloc (.cells #[.func (.func gf) #[] cap] 83)).alloc (.cells #[.int .i64 0, .int .i64 0] 71)).heap.size := by simp
 generalize ((w.alloc (.cells #[.slice A0 old.length c0, .int .i64 nw, .slice A2 ss.length c2, .slice A3 js.length c3] 69)).alloc (.cells #[.func (.func gf) #[] cap] 83)).alloc (.cells #[.int .i64 0, .int .i64 0] 71) = w0 at HB0 B30 B50 B60 hs0 ⊢
 refine (both_calls w0).mono ?_
 rintro e w1 ⟨rfl, hb_⟩
 have HB1 := Aside0.mk (HB0.out.trans (hb_.mono HB0.out.size))
 have B31 := Aside0.mk (B30.out.below hb_)
 have B51 := Aside0.mk (B50.out.below hb_)
 have B61 := Aside0.mk (B60.out.below hb_)
 have hs1 : w.heap.size + 3 ≤ w1.heap.size := by have := hb_.size; omega
 clear hb_ HB0 B30 B50 B60 hs0
 have hl3 := B31.out.lt
 have HB2 := Aside0.mk (below_alloc (below_alloc (below_alloc (below_alloc HB1.out (.cells #[.func (.func 110) #[] #[]] 167)) (.cells #[.func (.func 111) #[] #[]] 167)) (.cells #[.int .i64 0, .int .i64 0] 71)) (.cells #[.int .i64 0, .int .i64 0] 71))
 have B32 := Aside0.mk ((((B31.out.alloc (.cells #[.func (.func 110) #[] #[]] 167)).alloc (.cells #[.func (.func 111) #[] #[]] 167)).alloc (.cells #[.int .i64 0, .int .i64 0] 71)).alloc (.cells #[.int .i64 0, .int .i64 0] 71))
 have B52 := Aside0.mk ((((B51.out.alloc (.cells #[.func (.func 110) #[] #[]] 167)).alloc (.cells #[.func (.func 111) #[] #[]] 167)).alloc (.cells #[.int .i64 0, .int .i64 0] 71)).alloc (.cells #[.int .i64 0, .int .i64 0] 71))
 have B62 := Aside0.mk ((((B61.out.alloc (.cells #[.func (.func 110) #[] #[]] 167)).alloc (.cells #[.func (.func 111) #[] #[]] 167)).alloc (.cells #[.int .i64 0, .int .i64 0] 71)).alloc (.cells #[.int .i64 0, .int .i64 0] 71))
 have B72 := Aside0.mk ((((Blk.new w1 [.func (.func 110) #[] #[]] 167).alloc (.cells #[.func (.func 111) #[] #[]] 167)).alloc (.cells #[.int .i64 0, .int .i64 0] 71)).alloc (.cells #[.int .i64 0, .int .i64 0] 71))
 have B82 := Aside0.mk (show Blk _ (w1.heap.size + 1) _ _ by have hB := ((Blk.new (w1.alloc (.cells #[.func (.func 110) #[] #[]] 167)) [.func (.func 111) #[] #[]] 167).alloc (.cells #[.int .i64 0, .int .i64 0] 71)).alloc (.cells #[.int .i64 0, .int .i64 0] 71); simp only [World.size_alloc] at hB; exact hB)
 have B92 := Aside0.mk (show Blk _ (w1.heap.size + 1 + 1) _ _ by have hB := (Blk.new ((w1.alloc (.cells #[.func (.func 110) #[] #[]] 167)).alloc (.cells #[.func (.func 111) #[] #[]] 167)) [.int .i64 0, .int .i64 0] 71).alloc (.cells #[.int .i64 0, .int .i64 0] 71); simp only [World.size_alloc] at hB; exact hB)
 have BA2 := Aside0.mk (show Blk _ (w1.heap.size + 1 + 1 + 1) _ _ by have hB := Blk.new (((w1.alloc (.cells #[.func (.func 110) #[] #[]] 167)).alloc (.cells #[.func (.func 111) #[] #[]] 167)).alloc (.cells #[.int .i64 0, .int .i64 0] 71)) [.int .i64 0, .int .i64 0] 71; simp only [World.size_alloc] at hB; exact hB)
 have hs2 : ((((w1.alloc (.cells #[.func (.func 110) #[] #[]] 167)).alloc (.cells #[.func (.func 111) #[] #[]] 167)).alloc (.cells #[.int .i64 0, .int .i64 0] 71)).alloc (.cells #[.int .i64 0, .int .i64 0] 71)).heap.size = w1.heap.size + 4 := by simp
 have h30 := B32.out.cell 0
 have h31 := B32.out.cell 1
 have h32 := B32.out.cell 2
 have h33 := B32.out.cell 3
 simp only [sb3, sb4] at h30 h31 h32 h33
 have HS2 := Aside0.mk hs2
 clear hs2
 go_wp2_with (with_reducible refine wpIn_wide.2 ?_)
 have hs2 := HS2.out
 clear HB1 B31 B51 B61 h30 h31 h32 h33 hl3
 generalize ((((w1.alloc (.cells #[.func (.func 110) #[] #[]] 167)).alloc (.cells #[.func (.func 111) #[] #[]] 167)).alloc (.cells #[.int .i64 0, .int .i64 0] 71)).alloc (.cells #[.int .i64 0, .int .i64 0] 71)) = w2 at HB2 B32 B52 B62 B72 B82 B92 BA2 hs2 ⊢
 generalize w1.heap.size = s1 at B72 B82 B92 BA2 hs1 hs2 ⊢
 refine ((callsIn_wide (n := 8)).1 (of_in Fence.wide 8 trivial rfl (.slice A0 old.length c0) (.int .i64 nw) (.slice A2 ss.length c2) (.slice A3 js.length c3) (d : Int) rfl rfl rfl rfl w2)).mono ?_
 rintro e w4 ⟨rfl, rfl⟩
 have HB4 := Aside0.mk (below_alloc (below_alloc HB2.out (.cells #[.slice A0 old.length c0, .int .i64 nw, .slice A2 ss.length c2, .slice A3 js.length c3] 69)) (.cells #[.int .i64 (d : Int)] 3))
 have B34 := Aside0.mk ((B32.out.alloc (.cells #[.slice A0 old.length c0, .int .i64 nw, .slice A2 ss.length c2, .slice A3 js.length c3] 69)).alloc (.cells #[.int .i64 (d : Int)] 3))
 have B54 := Aside0.mk ((B52.out.alloc (.cells #[.slice A0 old.length c0, .int .i64 nw, .slice A2 ss.length c2, .slice A3 js.length c3] 69)).alloc (.cells #[.int .i64 (d : Int)] 3))
 have B64 := Aside0.mk ((B62.out.alloc (.cells #[.slice A0 old.length c0, .int .i64 nw, .slice A2 ss.length c2, .slice A3 js.length c3] 69)).alloc (.cells #[.int .i64 (d : Int)] 3))
 have B74 := Aside0.mk ((B72.out.alloc (.cells #[.slice A0 old.length c0, .int .i64 nw, .slice A2 ss.length c2, .slice A3 js.length c3] 69)).alloc (.cells #[.int .i64 (d : Int)] 3))
 have B84 := Aside0.mk ((B82.out.alloc (.cells #[.slice A0 old.length c0, .int .i64 nw, .slice A2 ss.length c2, .slice A3 js.length c3] 69)).alloc (.cells #[.int .i64 (d : Int)] 3))
 have B94 := Aside0.mk ((B92.out.alloc (.cells #[.slice A0 old.length c0, .int .i64 nw, .slice A2 ss.length c2, .slice A3 js.length c3] 69)).alloc (.cells #[.int .i64 (d : Int)] 3))
 have BA4 := Aside0.mk ((BA2.out.alloc (.cells #[.slice A0 old.length c0, .int .i64 nw, .slice A2 ss.length c2, .slice A3 js.length c3] 69)).alloc (.cells #[.int .i64 (d : Int)] 3))
 have HX1 := Aside0.mk ((Blk.new w2 [.slice A0 old.length c0, .int .i64 nw, .slice A2 ss.length c2, .slice A3 js.length c3] 69).alloc (.cells #[.int .i64 (d : Int)] 3))
 have HX2 := Aside0.mk (Blk.new (w2.alloc (.cells #[.slice A0 old.length c0, .int .i64 nw, .slice A2 ss.length c2, .slice A3 js.length c3] 69)) [.int .i64 (d : Int)] 3)
 simp only [World.size_alloc] at HX2
 have hsz : ((w2.alloc (.cells #[.slice A0 old.length c0, .int .i64 nw, .slice A2 ss.length c2, .slice A3 js.length c3] 69)).alloc (.cells #[.int .i64 (d : Int)] 3)).heap.size = w2.heap.size + 1 + 1 := by simp
 clear HB2 B32 B52 B62 B72 B82 B92 BA2
 generalize (w2.alloc (.cells #[.slice A0 old.length c0, .int .i64 nw, .slice A2 ss.length c2, .slice A3 js.length c3] 69)).alloc (.cells #[.int .i64 (d : Int)] 3) = w4 at HB4 B34 B54 B64 B74 B84 B94 BA4 HX1 HX2 hsz ⊢
 obtain ⟨gx, hgx⟩ : ∃ gx, w2.heap.size = gx := ⟨_, rfl⟩
 rw [hgx] at HX1 HX2 hsz hs2 ⊢
 have hsg : s1 + 1 + 1 + 1 < gx := by omega
 clear hgx hs2
 have HC := Aside0.mk (H.out.below HB4.out)
 have hlo := streets_lo H.out.kst
 go_wp2_with (with_reducible refine wpIn_wide.2 ?_)
 refine (wpIn_wide (n := 9)).1 ?_
 refine range_of (gm := gx) (gn := gx + 1) (by decide) (by decide) rfl (n₀ := w4.heap.size) (S := fun b => b = s1 + 1 + 1 ∨ b = s1 + 1 + 1 + 1) (u0 := .slice A0 old.length c0) (u1 := .int .i64 nw) (u3 := .slice A3 js.length c3) (A2 := A2) (c2 := c2) (ss := ss) (old := (d : Int)) hb2 (Nat.le_refl _) ?reads
  (fun t x => (t.setIfInBounds 21 (.int .i64 (x.1 : Int))).setIfInBounds 22 (encS x.2)) (fun t x g => (((t.setIfInBounds 21 (.int .i64 (x.1 : Int))).setIfInBounds 22 (encS x.2)).setIfInBounds 11 (.int .i64 (x.1 : Int))).setIfInBounds 12 (.pointer (some ⟨g, 0, none⟩))) (fun t x => zip2 t 21 22 _ _)
  (fun pre W => Aside0 (Blk W (s1 + 1 + 1) [.int .i64 (losum (insP p pre)), .int .i64 (hisum (insP p pre))] 71) ∧ Aside0 (Blk W (s1 + 1 + 1 + 1) [.int .i64 (losum (outP p pre)), .int .i64 (hisum (outP p pre))] 71) ∧ Aside0 (Below w.heap.size w W) ∧ Aside0 (Keep w4.heap.size (fun b => b = s1 + 1 + 1 ∨ b = s1 + 1 + 1 + 1) w4 W) ∧ Aside0 (MKeep w4 W) ∧ Aside0 (Ppl pre)) ?own (fun xs W hi => hi.2.2.2.1.out.size) ⟨B94, BA4, HB4, ⟨Keep.refl _ _ _⟩, ⟨MKeep.refl _⟩, ⟨fun x hx => by cases hx⟩⟩ ?assign ?body ?done
 case reads => exact ⟨HX1.out, by simpa using HX2.out.cell 0, HC.out.kst, ⟨by omega, by omega⟩, ⟨by omega, by omega⟩, fun h0 ad e => ⟨by have := hlo h0 ad e; omega, by have := hlo h0 ad e; omega⟩⟩
 case own =>
  rintro xs W W' row ⟨i1, i2, i3, i4, i5, i6⟩ hg_ hr
  have hr' := fun r e => (hr r e).1
  have h5 := i4.out.size
  exact ⟨⟨i1.out.kept (B := w4.heap.size) (by omega) hg_ hr'⟩, ⟨i2.out.kept (B := w4.heap.size) (by omega) hg_ hr'⟩, ⟨i3.out.grown hg_ i3.out.size (fun k e => by have := hr' k e; have := HB4.out.size; omega)⟩, ⟨i4.out.trans ⟨hg_.os, hg_.tape, hg_.output, hg_.size, fun k hk _ => hg_.block k (by omega) (fun e => by have := hr' k e.symm; omega)⟩⟩, ⟨i5.out.kept (Nat.le_refl _) hg_ hr'⟩, i6⟩
 case assign =>
  intro l x W K hx hK
  simp only [sb0, sb1, sb2, cellsS, encS] at hK ⊢
  gi_wp2_with fail
  exact hK
 case body =>
  rintro l pre x g W hx hlen ⟨i1, i2, i3, i4, i5, i6⟩ hg_ hBg
  simp only [sb0, sb1, sb2, encS]
  have B5 := Aside0.mk (B54.out.move (i4.out.block _ (by omega) (by omega)))
  have h50 := B5.out.cell 0
  simp only [sb3, sb4] at h50
  have hok : StreetOk old.length nw x.2 := HST.out _ (by rw [hx.2.1]; exact street_mem ss x.1 hx.1)
  have HWX := Aside0.mk (show 0 ≤ x.2.f3.f0 ∧ x.2.f3.f0 ≤ x.2.f3.f1 ∧ x.2.f3.f1 ≤ 10000 from ⟨hok.p0, hok.p1, hok.p2⟩)
  have hpl : pre.length < 8 := by omega
  have HSUM := Aside0.mk (fun b => part_sums (p := p) i6.out hpl HWX.out b)
  have B7 := Aside0.mk (B74.out.move (i4.out.block _ (by omega) (by omega)))
  have B8 := Aside0.mk (B84.out.move (i4.out.block _ (by omega) (by omega)))
  clear hok hpl B54
  gi_wp2_with fail
  clear h50
  refine ⟨trivial, CallsIn.inRound l (callsIn_wide.2 ((HP.out W x.1 hx.1 i3.out).mono ?_))⟩
  rintro e w6 ⟨rfl, hb6⟩
  have h4s := i4.out.size
  have Bg := Aside0.mk (hBg.below hb6)
  replace B7 := Aside0.mk (B7.out.below hb6)
  replace B8 := Aside0.mk (B8.out.below hb6)
  have hgw := hBg.lt
  have hgs : s1 + 1 + 1 + 1 < g := by omega
  cases hpx : p (x.1 : Int)
  ·have HS := Aside0.mk ((Stp.refl (s1 + 1 + 1 + 1) W).below hb6)
   have Br := Aside0.mk (i2.out.below hb6)
   have hsum := (HSUM.out false).1
   have hsum1 := (HSUM.out false).2
   simp only [Bool.false_eq_true, if_false] at hsum hsum1
   obtain ⟨sm, hsm⟩ : ∃ s, losum (outP p pre) = s := ⟨_, rfl⟩
   obtain ⟨sm1, hsm1⟩ : ∃ s, hisum (outP p pre) = s := ⟨_, rfl⟩
   rw [hsm] at hsum Br
   rw [hsm1] at hsum1 Br
   have HSM := Aside0.mk hsm
   have HSM1 := Aside0.mk hsm1
   clear hsm hsm1 hb6 hBg B5 HSUM
   gi_wp2_with fail
   refine startR_ (by rintro ⟨_, _, h⟩; exact h) (by kernel_rfl) (n := 13) (S := fun w' => w'.cell? ⟨s1 + 1 + 1 + 1, 0, none⟩ = some (.int .i64 sm) ∧ w'.cell? ⟨s1, 0, none⟩ = some (.func (.func 110) #[] #[]) ∧ w'.cell? ⟨g, 3, none⟩ = some (.int .i64 x.2.f3.f0) ∧ w'.cell? ⟨g, 4, none⟩ = some (.int .i64 x.2.f3.f1)) (ds := [12]) #[O,O,O,O,O,O,O,O,O,O,O,O,O] (by kernel_rfl) rfl rfl ⟨(by simpa using Br.out.cell 0), (by simpa using B7.out.cell 0), (by simpa [cellsS] using Bg.out.cell 3), (by simpa [cellsS] using Bg.out.cell 4)⟩ (fun hHeld => ?_); refine with_tabW pt.tab9 pt.bits9 (fun HT_ HW_ => ?_)
   have HSd := Aside0.mk HS.out.drew
   have Brd := Aside0.mk (Br.out.move rfl : Blk w6.drew _ _ _)
   have B7d := Aside0.mk (B7.out.move rfl : Blk w6.drew _ _ _)
   have B8d := Aside0.mk (B8.out.move rfl : Blk w6.drew _ _ _)
   have Bgd := Aside0.mk (Bg.out.move rfl : Blk w6.drew _ _ _)
   clear HS Br B7 B8 Bg
   generalize w6.drew = wd at HSd Brd B7d B8d Bgd hHeld ⊢
   refine pu_ 0 26 #[I,O,O,O,O,O,O,O,O,O,O,O,O] HT_ (h := ?_)
   refine pu_ 1 27 #[I,I,O,O,O,O,O,O,O,O,O,O,O] HT_ (h := ?_)
   refine pu_ 2 28 #[I,I,I,O,O,O,O,O,O,O,O,O,O] HT_ (h := ?_)
   refine ta_ 3 29 #[I,I,I,I,O,O,O,O,O,O,O,O,O] HT_ HW_ hHeld (hy := by (rintro w' ⟨s0, s1, s2, s3⟩; go_simp; with_reducible rfl)) (h := ?_)
   refine pu_ 4 30 #[I,I,I,I,I,O,O,O,O,O,O,O,O] HT_ (h := ?_)
   refine ta_ 5 31 #[I,I,I,I,I,I,O,O,O,O,O,O,O] HT_ HW_ hHeld (hy := by (rintro w' ⟨s0, s1, s2, s3⟩; go_simp; with_reducible rfl)) (h := ?_)
   refine pu_ 6 32 #[I,I,I,I,I,I,I,O,O,O,O,O,O] HT_ (h := ?_)
   refine ta_ 7 33 #[I,I,I,I,I,I,I,I,O,O,O,O,O] HT_ HW_ hHeld (hy := by (rintro w' ⟨s0, s1, s2, s3⟩; go_simp; with_reducible rfl)) (h := ?_)
   refine one_ (i := 8) (N := some 34) #[I,I,I,I,I,I,I,I,I,O,O,O,O] rfl rfl (one_of HT_.out (by kernel_rfl)) (by decide) (fun K hK => ?_)
   refine call_ 110 #[.agg #[.int .i64 x.2.f3.f0, .int .i64 x.2.f3.f1]] (by rfl) rfl ?_ ?_
   ·have he := enters Try.func110 (by kernel_rfl) rfl #[.agg #[.int .i64 x.2.f3.f0, .int .i64 x.2.f3.f1]]
    go_simp
   refine (low_calls x.2.f3.f0 x.2.f3.f1 _).mono ?_
   rintro e_ w_ ⟨rfl, hbc⟩
   refine ⟨_, rfl, hK.out _ _ ⟨(by simpa using (Brd.out.below hbc).cell 0), (by simpa using (B7d.out.below hbc).cell 0), (by simpa [cellsS] using (Bgd.out.below hbc).cell 3), (by simpa [cellsS] using (Bgd.out.below hbc).cell 4)⟩ (fun hHeld => ?_)⟩
   clear hK K
   have HSe := Aside0.mk (HSd.out.below hbc)
   have Bre := Aside0.mk (Brd.out.below hbc)
   have B7e := Aside0.mk (B7d.out.below hbc)
   have B8e := Aside0.mk (B8d.out.below hbc)
   have Bge := Aside0.mk (Bgd.out.below hbc)
   clear hbc HSd Brd B7d B8d Bgd
   refine norm_ (by simp only [Act.put, sb0, sb1, sb2]; rfl) ?_
   refine pu_ 9 35 #[I,I,I,I,I,I,I,I,I,I,O,O,O] HT_ (h := ?_)
   refine pu_ 10 36 #[I,I,I,I,I,I,I,I,I,I,I,O,O] HT_ (h := ?_)
   refine pu_ 11 37 #[I,I,I,I,I,I,I,I,I,I,I,I,O] HT_ (h := ?_)
   refine last_ (i := 12) (N := none) #[I,I,I,I,I,I,I,I,I,I,I,I,I] rfl rfl (one_of HT_.out (by kernel_rfl)) (by decide) (fun K hK => ?_)
   have hst_ := (show w_.cell? ⟨s1 + 1 + 1 + 1, 0, none⟩ = some (.int .i64 sm) by simpa using Bre.out.cell 0)
   have hfr_ := Bre.out.frozen 0
   refine skip_ (w1 := ?_) (by rfl) rfl ?_ ?_
   rotate_left
   ·go_simp
    rfl
   refine hK.out _ _ ?_
   clear hK K hst_ hfr_ 
   have HS := Aside0.mk (HSe.out.set 0 (.int .i64 (sm + x.2.f3.f0)))
   have Br := Aside0.mk (Bre.out.setAt 0 (.int .i64 (sm + x.2.f3.f0)))
   have B7 := Aside0.mk (B7e.out.move (w' := w_.setCell ⟨s1 + 1 + 1 + 1, 0, none⟩ (.int .i64 (sm + x.2.f3.f0))) (Below.heap_setCell _ _ _ _ (by simp only; omega)))
   have B8 := Aside0.mk (B8e.out.move (w' := w_.setCell ⟨s1 + 1 + 1 + 1, 0, none⟩ (.int .i64 (sm + x.2.f3.f0))) (Below.heap_setCell _ _ _ _ (by simp only; omega)))
   have Bg := Aside0.mk (Bge.out.move (w' := w_.setCell ⟨s1 + 1 + 1 + 1, 0, none⟩ (.int .i64 (sm + x.2.f3.f0))) (Below.heap_setCell _ _ _ _ (by simp only; omega)))
   simp only [List.set_cons_zero, List.set_cons_succ] at Br
   clear HSe Bre B7e B8e Bge
   generalize w_.setCell ⟨s1 + 1 + 1 + 1, 0, none⟩ (.int .i64 (sm + x.2.f3.f0)) = w7 at HS Br B7 B8 Bg ⊢
   refine done_ (done_of HT_.out (by kernel_rfl)) ?_
   gi_wp2_with fail
   refine startR_ (by rintro ⟨_, _, h⟩; exact h) (by kernel_rfl) (n := 13) (S := fun w' => w'.cell? ⟨s1 + 1 + 1 + 1, 1, none⟩ = some (.int .i64 sm1) ∧ w'.cell? ⟨s1 + 1, 0, none⟩ = some (.func (.func 111) #[] #[]) ∧ w'.cell? ⟨g, 3, none⟩ = some (.int .i64 x.2.f3.f0) ∧ w'.cell? ⟨g, 4, none⟩ = some (.int .i64 x.2.f3.f1)) (ds := [12]) #[O,O,O,O,O,O,O,O,O,O,O,O,O] (by kernel_rfl) rfl rfl ⟨(by simpa using Br.out.cell 1), (by simpa using B8.out.cell 0), (by simpa [cellsS] using Bg.out.cell 3), (by simpa [cellsS] using Bg.out.cell 4)⟩ (fun hHeld => ?_); refine with_tabW pt.tab10 pt.bits10 (fun HT_ HW_ => ?_)
   have HSd := Aside0.mk HS.out.drew
   have Brd := Aside0.mk (Br.out.move rfl : Blk w7.drew _ _ _)
   have B7d := Aside0.mk (B7.out.move rfl : Blk w7.drew _ _ _)
   have B8d := Aside0.mk (B8.out.move rfl : Blk w7.drew _ _ _)
   have Bgd := Aside0.mk (Bg.out.move rfl : Blk w7.drew _ _ _)
   clear HS Br B7 B8 Bg
   generalize w7.drew = wd at HSd Brd B7d B8d Bgd hHeld ⊢
   refine pu_ 0 38 #[I,O,O,O,O,O,O,O,O,O,O,O,O] HT_ (h := ?_)
   refine pu_ 1 39 #[I,I,O,O,O,O,O,O,O,O,O,O,O] HT_ (h := ?_)
   refine pu_ 2 40 #[I,I,I,O,O,O,O,O,O,O,O,O,O] HT_ (h := ?_)
   refine ta_ 3 41 #[I,I,I,I,O,O,O,O,O,O,O,O,O] HT_ HW_ hHeld (hy := by (rintro w' ⟨s0, s1, s2, s3⟩; go_simp; with_reducible rfl)) (h := ?_)
   refine pu_ 4 42 #[I,I,I,I,I,O,O,O,O,O,O,O,O] HT_ (h := ?_)
   refine ta_ 5 43 #[I,I,I,I,I,I,O,O,O,O,O,O,O] HT_ HW_ hHeld (hy := by (rintro w' ⟨s0, s1, s2, s3⟩; go_simp; with_reducible rfl)) (h := ?_)
   refine pu_ 6 44 #[I,I,I,I,I,I,I,O,O,O,O,O,O] HT_ (h := ?_)
   refine ta_ 7 45 #[I,I,I,I,I,I,I,I,O,O,O,O,O] HT_ HW_ hHeld (hy := by (rintro w' ⟨s0, s1, s2, s3⟩; go_simp; with_reducible rfl)) (h := ?_)
   refine one_ (i := 8) (N := some 46) #[I,I,I,I,I,I,I,I,I,O,O,O,O] rfl rfl (one_of HT_.out (by kernel_rfl)) (by decide) (fun K hK => ?_)
   refine call_ 111 #[.agg #[.int .i64 x.2.f3.f0, .int .i64 x.2.f3.f1]] (by rfl) rfl ?_ ?_
   ·have he := enters Try.func111 (by kernel_rfl) rfl #[.agg #[.int .i64 x.2.f3.f0, .int .i64 x.2.f3.f1]]
    go_simp
   refine (high_calls x.2.f3.f0 x.2.f3.f1 _).mono ?_
   rintro e_ w_ ⟨rfl, hbc⟩
   refine ⟨_, rfl, hK.out _ _ ⟨(by simpa using (Brd.out.below hbc).cell 1), (by simpa using (B8d.out.below hbc).cell 0), (by simpa [cellsS] using (Bgd.out.below hbc).cell 3), (by simpa [cellsS] using (Bgd.out.below hbc).cell 4)⟩ (fun hHeld => ?_)⟩
   clear hK K
   have HSe := Aside0.mk (HSd.out.below hbc)
   have Bre := Aside0.mk (Brd.out.below hbc)
   have B7e := Aside0.mk (B7d.out.below hbc)
   have B8e := Aside0.mk (B8d.out.below hbc)
   have Bge := Aside0.mk (Bgd.out.below hbc)
   clear hbc HSd Brd B7d B8d Bgd
   refine norm_ (by simp only [Act.put, sb0, sb1, sb2]; rfl) ?_
   refine pu_ 9 47 #[I,I,I,I,I,I,I,I,I,I,O,O,O] HT_ (h := ?_)
   refine pu_ 10 48 #[I,I,I,I,I,I,I,I,I,I,I,O,O] HT_ (h := ?_)
   refine pu_ 11 49 #[I,I,I,I,I,I,I,I,I,I,I,I,O] HT_ (h := ?_)
   refine last_ (i := 12) (N := none) #[I,I,I,I,I,I,I,I,I,I,I,I,I] rfl rfl (one_of HT_.out (by kernel_rfl)) (by decide) (fun K hK => ?_)
   have hst_ := (show w_.cell? ⟨s1 + 1 + 1 + 1, 1, none⟩ = some (.int .i64 sm1) by simpa using Bre.out.cell 1)
   have hfr_ := Bre.out.frozen 1
   refine skip_ (w1 := ?_) (by rfl) rfl ?_ ?_
   rotate_left
   ·go_simp
    rfl
   refine hK.out _ _ ?_
   clear hK K hst_ hfr_ 
   have HS := Aside0.mk (HSe.out.set 1 (.int .i64 (sm1 + x.2.f3.f1)))
   have Br := Aside0.mk (Bre.out.setAt 1 (.int .i64 (sm1 + x.2.f3.f1)))
   have B7 := Aside0.mk (B7e.out.move (w' := w_.setCell ⟨s1 + 1 + 1 + 1, 1, none⟩ (.int .i64 (sm1 + x.2.f3.f1))) (Below.heap_setCell _ _ _ _ (by simp only; omega)))
   have B8 := Aside0.mk (B8e.out.move (w' := w_.setCell ⟨s1 + 1 + 1 + 1, 1, none⟩ (.int .i64 (sm1 + x.2.f3.f1))) (Below.heap_setCell _ _ _ _ (by simp only; omega)))
   have Bg := Aside0.mk (Bge.out.move (w' := w_.setCell ⟨s1 + 1 + 1 + 1, 1, none⟩ (.int .i64 (sm1 + x.2.f3.f1))) (Below.heap_setCell _ _ _ _ (by simp only; omega)))
   simp only [List.set_cons_zero, List.set_cons_succ] at Br
   clear HSe Bre B7e B8e Bge
   generalize w_.setCell ⟨s1 + 1 + 1 + 1, 1, none⟩ (.int .i64 (sm1 + x.2.f3.f1)) = w8 at HS Br B7 B8 Bg ⊢
   refine done_ (done_of HT_.out (by kernel_rfl)) ?_
   obtain ⟨e1, e2⟩ := insP_f (p := p) (xs := pre) (x := x) hpx
   refine ⟨HS.out.ko.from _, HS.out.keep (.inl (.inr rfl)) h4s, ⟨by rw [e1]; exact HS.out.blk i1.out (by omega)⟩, ⟨by rw [e2, losum_snoc, hisum_snoc, HSM.out, HSM1.out]; exact Br.out⟩, ⟨HS.out.seq i3.out (by omega) (by have := HB4.out.size; omega)⟩, ⟨i4.out.trans (HS.out.keep (.inl (.inr rfl)) h4s)⟩, ⟨HS.out.mkeep i5.out⟩, ⟨i6.out.snoc HWX.out⟩⟩
  ·have HS := Aside0.mk ((Stp.refl (s1 + 1 + 1) W).below hb6)
   have Br := Aside0.mk (i1.out.below hb6)
   have hsum := (HSUM.out true).1
   have hsum1 := (HSUM.out true).2
   simp only [if_true] at hsum hsum1
   obtain ⟨sm, hsm⟩ : ∃ s, losum (insP p pre) = s := ⟨_, rfl⟩
   obtain ⟨sm1, hsm1⟩ : ∃ s, hisum (insP p pre) = s := ⟨_, rfl⟩
   rw [hsm] at hsum Br
   rw [hsm1] at hsum1 Br
   have HSM := Aside0.mk hsm
   have HSM1 := Aside0.mk hsm1
   clear hsm hsm1 hb6 hBg B5 HSUM
   gi_wp2_with fail
   refine startR_ (by rintro ⟨_, _, h⟩; exact h) (by kernel_rfl) (n := 13) (S := fun w' => w'.cell? ⟨s1 + 1 + 1, 0, none⟩ = some (.int .i64 sm) ∧ w'.cell? ⟨s1, 0, none⟩ = some (.func (.func 110) #[] #[]) ∧ w'.cell? ⟨g, 3, none⟩ = some (.int .i64 x.2.f3.f0) ∧ w'.cell? ⟨g, 4, none⟩ = some (.int .i64 x.2.f3.f1)) (ds := [12]) #[O,O,O,O,O,O,O,O,O,O,O,O,O] (by kernel_rfl) rfl rfl ⟨(by simpa using Br.out.cell 0), (by simpa using B7.out.cell 0), (by simpa [cellsS] using Bg.out.cell 3), (by simpa [cellsS] using Bg.out.cell 4)⟩ (fun hHeld => ?_); refine with_tabW pt.tab9 pt.bits9 (fun HT_ HW_ => ?_)
   have HSd := Aside0.mk HS.out.drew
   have Brd := Aside0.mk (Br.out.move rfl : Blk w6.drew _ _ _)
   have B7d := Aside0.mk (B7.out.move rfl : Blk w6.drew _ _ _)
   have B8d := Aside0.mk (B8.out.move rfl : Blk w6.drew _ _ _)
   have Bgd := Aside0.mk (Bg.out.move rfl : Blk w6.drew _ _ _)
   clear HS Br B7 B8 Bg
   generalize w6.drew = wd at HSd Brd B7d B8d Bgd hHeld ⊢
   refine pu_ 0 26 #[I,O,O,O,O,O,O,O,O,O,O,O,O] HT_ (h := ?_)
   refine pu_ 1 27 #[I,I,O,O,O,O,O,O,O,O,O,O,O] HT_ (h := ?_)
   refine pu_ 2 28 #[I,I,I,O,O,O,O,O,O,O,O,O,O] HT_ (h := ?_)
   refine ta_ 3 29 #[I,I,I,I,O,O,O,O,O,O,O,O,O] HT_ HW_ hHeld (hy := by (rintro w' ⟨s0, s1, s2, s3⟩; go_simp; with_reducible rfl)) (h := ?_)
   refine pu_ 4 30 #[I,I,I,I,I,O,O,O,O,O,O,O,O] HT_ (h := ?_)
   refine ta_ 5 31 #[I,I,I,I,I,I,O,O,O,O,O,O,O] HT_ HW_ hHeld (hy := by (rintro w' ⟨s0, s1, s2, s3⟩; go_simp; with_reducible rfl)) (h := ?_)
   refine pu_ 6 32 #[I,I,I,I,I,I,I,O,O,O,O,O,O] HT_ (h := ?_)
   refine ta_ 7 33 #[I,I,I,I,I,I,I,I,O,O,O,O,O] HT_ HW_ hHeld (hy := by (rintro w' ⟨s0, s1, s2, s3⟩; go_simp; with_reducible rfl)) (h := ?_)
   refine one_ (i := 8) (N := some 34) #[I,I,I,I,I,I,I,I,I,O,O,O,O] rfl rfl (one_of HT_.out (by kernel_rfl)) (by decide) (fun K hK => ?_)
   refine call_ 110 #[.agg #[.int .i64 x.2.f3.f0, .int .i64 x.2.f3.f1]] (by rfl) rfl ?_ ?_
   ·have he := enters Try.func110 (by kernel_rfl) rfl #[.agg #[.int .i64 x.2.f3.f0, .int .i64 x.2.f3.f1]]
    go_simp
   refine (low_calls x.2.f3.f0 x.2.f3.f1 _).mono ?_
   rintro e_ w_ ⟨rfl, hbc⟩
   refine ⟨_, rfl, hK.out _ _ ⟨(by simpa using (Brd.out.below hbc).cell 0), (by simpa using (B7d.out.below hbc).cell 0), (by simpa [cellsS] using (Bgd.out.below hbc).cell 3), (by simpa [cellsS] using (Bgd.out.below hbc).cell 4)⟩ (fun hHeld => ?_)⟩
   clear hK K
   have HSe := Aside0.mk (HSd.out.below hbc)
   have Bre := Aside0.mk (Brd.out.below hbc)
   have B7e := Aside0.mk (B7d.out.below hbc)
   have B8e := Aside0.mk (B8d.out.below hbc)
   have Bge := Aside0.mk (Bgd.out.below hbc)
   clear hbc HSd Brd B7d B8d Bgd
   refine norm_ (by simp only [Act.put, sb0, sb1, sb2]; rfl) ?_
   refine pu_ 9 35 #[I,I,I,I,I,I,I,I,I,I,O,O,O] HT_ (h := ?_)
   refine pu_ 10 36 #[I,I,I,I,I,I,I,I,I,I,I,O,O] HT_ (h := ?_)
   refine pu_ 11 37 #[I,I,I,I,I,I,I,I,I,I,I,I,O] HT_ (h := ?_)
   refine last_ (i := 12) (N := none) #[I,I,I,I,I,I,I,I,I,I,I,I,I] rfl rfl (one_of HT_.out (by kernel_rfl)) (by decide) (fun K hK => ?_)
   have hst_ := (show w_.cell? ⟨s1 + 1 + 1, 0, none⟩ = some (.int .i64 sm) by simpa using Bre.out.cell 0)
   have hfr_ := Bre.out.frozen 0
   refine skip_ (w1 := ?_) (by rfl) rfl ?_ ?_
   rotate_left
   ·go_simp
    rfl
   refine hK.out _ _ ?_
   clear hK K hst_ hfr_ 
   have HS := Aside0.mk (HSe.out.set 0 (.int .i64 (sm + x.2.f3.f0)))
   have Br := Aside0.mk (Bre.out.setAt 0 (.int .i64 (sm + x.2.f3.f0)))
   have B7 := Aside0.mk (B7e.out.move (w' := w_.setCell ⟨s1 + 1 + 1, 0, none⟩ (.int .i64 (sm + x.2.f3.f0))) (Below.heap_setCell _ _ _ _ (by simp only; omega)))
   have B8 := Aside0.mk (B8e.out.move (w' := w_.setCell ⟨s1 + 1 + 1, 0, none⟩ (.int .i64 (sm + x.2.f3.f0))) (Below.heap_setCell _ _ _ _ (by simp only; omega)))
   have Bg := Aside0.mk (Bge.out.move (w' := w_.setCell ⟨s1 + 1 + 1, 0, none⟩ (.int .i64 (sm + x.2.f3.f0))) (Below.heap_setCell _ _ _ _ (by simp only; omega)))
   simp only [List.set_cons_zero, List.set_cons_succ] at Br
   clear HSe Bre B7e B8e Bge
   generalize w_.setCell ⟨s1 + 1 + 1, 0, none⟩ (.int .i64 (sm + x.2.f3.f0)) = w7 at HS Br B7 B8 Bg ⊢
   refine done_ (done_of HT_.out (by kernel_rfl)) ?_
   gi_wp2_with fail
   refine startR_ (by rintro ⟨_, _, h⟩; exact h) (by kernel_rfl) (n := 13) (S := fun w' => w'.cell? ⟨s1 + 1 + 1, 1, none⟩ = some (.int .i64 sm1) ∧ w'.cell? ⟨s1 + 1, 0, none⟩ = some (.func (.func 111) #[] #[]) ∧ w'.cell? ⟨g, 3, none⟩ = some (.int .i64 x.2.f3.f0) ∧ w'.cell? ⟨g, 4, none⟩ = some (.int .i64 x.2.f3.f1)) (ds := [12]) #[O,O,O,O,O,O,O,O,O,O,O,O,O] (by kernel_rfl) rfl rfl ⟨(by simpa using Br.out.cell 1), (by simpa using B8.out.cell 0), (by simpa [cellsS] using Bg.out.cell 3), (by simpa [cellsS] using Bg.out.cell 4)⟩ (fun hHeld => ?_); refine with_tabW pt.tab10 pt.bits10 (fun HT_ HW_ => ?_)
   have HSd := Aside0.mk HS.out.drew
   have Brd := Aside0.mk (Br.out.move rfl : Blk w7.drew _ _ _)
   have B7d := Aside0.mk (B7.out.move rfl : Blk w7.drew _ _ _)
   have B8d := Aside0.mk (B8.out.move rfl : Blk w7.drew _ _ _)
   have Bgd := Aside0.mk (Bg.out.move rfl : Blk w7.drew _ _ _)
   clear HS Br B7 B8 Bg
   generalize w7.drew = wd at HSd Brd B7d B8d Bgd hHeld ⊢
   refine pu_ 0 38 #[I,O,O,O,O,O,O,O,O,O,O,O,O] HT_ (h := ?_)
   refine pu_ 1 39 #[I,I,O,O,O,O,O,O,O,O,O,O,O] HT_ (h := ?_)
   refine pu_ 2 40 #[I,I,I,O,O,O,O,O,O,O,O,O,O] HT_ (h := ?_)
   refine ta_ 3 41 #[I,I,I,I,O,O,O,O,O,O,O,O,O] HT_ HW_ hHeld (hy := by (rintro w' ⟨s0, s1, s2, s3⟩; go_simp; with_reducible rfl)) (h := ?_)
   refine pu_ 4 42 #[I,I,I,I,I,O,O,O,O,O,O,O,O] HT_ (h := ?_)
   refine ta_ 5 43 #[I,I,I,I,I,I,O,O,O,O,O,O,O] HT_ HW_ hHeld (hy := by (rintro w' ⟨s0, s1, s2, s3⟩; go_simp; with_reducible rfl)) (h := ?_)
   refine pu_ 6 44 #[I,I,I,I,I,I,I,O,O,O,O,O,O] HT_ (h := ?_)
   refine ta_ 7 45 #[I,I,I,I,I,I,I,I,O,O,O,O,O] HT_ HW_ hHeld (hy := by (rintro w' ⟨s0, s1, s2, s3⟩; go_simp; with_reducible rfl)) (h := ?_)
   refine one_ (i := 8) (N := some 46) #[I,I,I,I,I,I,I,I,I,O,O,O,O] rfl rfl (one_of HT_.out (by kernel_rfl)) (by decide) (fun K hK => ?_)
   refine call_ 111 #[.agg #[.int .i64 x.2.f3.f0, .int .i64 x.2.f3.f1]] (by rfl) rfl ?_ ?_
   ·have he := enters Try.func111 (by kernel_rfl) rfl #[.agg #[.int .i64 x.2.f3.f0, .int .i64 x.2.f3.f1]]
    go_simp
   refine (high_calls x.2.f3.f0 x.2.f3.f1 _).mono ?_
   rintro e_ w_ ⟨rfl, hbc⟩
   refine ⟨_, rfl, hK.out _ _ ⟨(by simpa using (Brd.out.below hbc).cell 1), (by simpa using (B8d.out.below hbc).cell 0), (by simpa [cellsS] using (Bgd.out.below hbc).cell 3), (by simpa [cellsS] using (Bgd.out.below hbc).cell 4)⟩ (fun hHeld => ?_)⟩
   clear hK K
   have HSe := Aside0.mk (HSd.out.below hbc)
   have Bre := Aside0.mk (Brd.out.below hbc)
   have B7e := Aside0.mk (B7d.out.below hbc)
   have B8e := Aside0.mk (B8d.out.below hbc)
   have Bge := Aside0.mk (Bgd.out.below hbc)
   clear hbc HSd Brd B7d B8d Bgd
   refine norm_ (by simp only [Act.put, sb0, sb1, sb2]; rfl) ?_
   refine pu_ 9 47 #[I,I,I,I,I,I,I,I,I,I,O,O,O] HT_ (h := ?_)
   refine pu_ 10 48 #[I,I,I,I,I,I,I,I,I,I,I,O,O] HT_ (h := ?_)
   refine pu_ 11 49 #[I,I,I,I,I,I,I,I,I,I,I,I,O] HT_ (h := ?_)
   refine last_ (i := 12) (N := none) #[I,I,I,I,I,I,I,I,I,I,I,I,I] rfl rfl (one_of HT_.out (by kernel_rfl)) (by decide) (fun K hK => ?_)
   have hst_ := (show w_.cell? ⟨s1 + 1 + 1, 1, none⟩ = some (.int .i64 sm1) by simpa using Bre.out.cell 1)
   have hfr_ := Bre.out.frozen 1
   refine skip_ (w1 := ?_) (by rfl) rfl ?_ ?_
   rotate_left
   ·go_simp
    rfl
   refine hK.out _ _ ?_
   clear hK K hst_ hfr_ 
   have HS := Aside0.mk (HSe.out.set 1 (.int .i64 (sm1 + x.2.f3.f1)))
   have Br := Aside0.mk (Bre.out.setAt 1 (.int .i64 (sm1 + x.2.f3.f1)))
   have B7 := Aside0.mk (B7e.out.move (w' := w_.setCell ⟨s1 + 1 + 1, 1, none⟩ (.int .i64 (sm1 + x.2.f3.f1))) (Below.heap_setCell _ _ _ _ (by simp only; omega)))
   have B8 := Aside0.mk (B8e.out.move (w' := w_.setCell ⟨s1 + 1 + 1, 1, none⟩ (.int .i64 (sm1 + x.2.f3.f1))) (Below.heap_setCell _ _ _ _ (by simp only; omega)))
   have Bg := Aside0.mk (Bge.out.move (w' := w_.setCell ⟨s1 + 1 + 1, 1, none⟩ (.int .i64 (sm1 + x.2.f3.f1))) (Below.heap_setCell _ _ _ _ (by simp only; omega)))
   simp only [List.set_cons_zero, List.set_cons_succ] at Br
   clear HSe Bre B7e B8e Bge
   generalize w_.setCell ⟨s1 + 1 + 1, 1, none⟩ (.int .i64 (sm1 + x.2.f3.f1)) = w8 at HS Br B7 B8 Bg ⊢
   refine done_ (done_of HT_.out (by kernel_rfl)) ?_
   obtain ⟨e1, e2⟩ := insP_t (p := p) (xs := pre) (x := x) hpx
   refine ⟨HS.out.ko.from _, HS.out.keep (.inl (.inl rfl)) h4s, ⟨by rw [e1, losum_snoc, hisum_snoc, HSM.out, HSM1.out]; exact Br.out⟩, ⟨by rw [e2]; exact HS.out.blk i2.out (by omega)⟩, ⟨HS.out.seq i3.out (by omega) (by have := HB4.out.size; omega)⟩, ⟨i4.out.trans (HS.out.keep (.inl (.inl rfl)) h4s)⟩, ⟨HS.out.mkeep i5.out⟩, ⟨i6.out.snoc HWX.out⟩⟩
 case done =>
  rintro D W hD ⟨i1, i2, i3, i4, i5, i6⟩ hDm
  have hw4 := HB4.out.size
  have HM := Aside0.mk (Marks.cons (lo := w.heap.size) (a := w4) (b := W) (ds := []) trivial i5.out hD hw4 hDm)
  have B3 := Aside0.mk (B34.out.move (i4.out.block _ (by omega) (by omega)))
  have B6 := Aside0.mk (B64.out.move (i4.out.block _ (by omega) (by omega)))
  obtain ⟨ad, e, hx⟩ := Kd.at_int (H.out.below i3.out).kold (d : Int) (by omega) (by omega)
  cases e
  simp only [Int.toNat_natCast] at hx
  have HF := Aside0.mk (show partF old ss (d : Int) p = (max (losum (insP p (ofAt ss d ss.length))) (rd old d - hisum (outP p (ofAt ss d ss.length))), min (hisum (insP p (ofAt ss d ss.length))) (rd old d - losum (outP p (ofAt ss d ss.length)))) from rfl)
  have hrd := HOL.out (rd old (d : Int)) (by rw [rd_get old d hd]; exact List.getElem_mem hd)
  have q1 := sums_bound (insP_ppl (p := p) i6.out).1
  have q2 := sums_bound (insP_ppl (p := p) i6.out).2
  have q3 := insP_len p (ofAt ss (d : Int) ss.length)
  have q4 := ofAt_len ss (d : Int) ss.length
  have hw1 : wrap64 (rd old (d : Int) - hisum (outP p (ofAt ss d ss.length))) = rd old (d : Int) - hisum (outP p (ofAt ss d ss.length)) := IntWalk.wrap64_in _ (by omega)
  have hw2 : wrap64 (rd old (d : Int) - losum (outP p (ofAt ss d ss.length))) = rd old (d : Int) - losum (outP p (ofAt ss d ss.length)) := IntWalk.wrap64_in _ (by omega)
  obtain ⟨a0, ha0⟩ : ∃ a, losum (insP p (ofAt ss (d : Int) ss.length)) = a := ⟨_, rfl⟩
  obtain ⟨a1, ha1⟩ : ∃ a, hisum (insP p (ofAt ss (d : Int) ss.length)) = a := ⟨_, rfl⟩
  obtain ⟨o0, ho0⟩ : ∃ a, losum (outP p (ofAt ss (d : Int) ss.length)) = a := ⟨_, rfl⟩
  obtain ⟨o1, ho1⟩ : ∃ a, hisum (outP p (ofAt ss (d : Int) ss.length)) = a := ⟨_, rfl⟩
  obtain ⟨cnt, hcnt⟩ : ∃ a, rd old (d : Int) = a := ⟨_, rfl⟩
  rw [ha0, ha1] at i1
  rw [ho0, ho1] at i2
  rw [ha0, ha1, ho0, ho1, hcnt] at HF
  rw [hcnt] at hx
  rw [hcnt, ho1] at hw1
  rw [hcnt, ho0] at hw2
  clear q1 q2 q3 q4 hrd ha0 ha1 ho0 ho1 hcnt i4 i5 i6 hDm hD B34 B54 B64 B74 B84 B94 BA4 HX1 HX2 hsz HC hlo
  have I1 := i1
  have I2 := i2
  have HBW := i3
  clear i1 i2 i3
  have hd0 : (0 : Int) ≤ (d : Int) := by omega
  have hdl : (d : Int) < (old.length : Int) := by omega
  dsimp only
  go_wp2_with (with_reducible refine wpIn_wide.2 ?_)
  refine start_ (n := 25) (S := fun w' => w'.cell? ⟨s1 + 1 + 1, 0, none⟩ = some (.int .i64 a0) ∧ w'.cell? ⟨s1 + 1 + 1, 1, none⟩ = some (.int .i64 a1) ∧ w'.cell? ⟨s1 + 1 + 1 + 1, 0, none⟩ = some (.int .i64 o0) ∧ w'.cell? ⟨s1 + 1 + 1 + 1, 1, none⟩ = some (.int .i64 o1) ∧ w'.cell? ⟨w.heap.size, 0, none⟩ = some (.slice (some ad) old.length c0) ∧ w'.cell? (ad.add d) = some (.int .i64 cnt)) (ds := [24]) #[O,O,O,O,O,O,O,O,O,O,O,O,O,O,O,O,O,O,O,O,O,O,O,O,O] (by kernel_rfl) rfl rfl ⟨(by simpa using I1.out.cell 0), (by simpa using I1.out.cell 1), (by simpa using I2.out.cell 0), (by simpa using I2.out.cell 1), (by simpa using B3.out.cell 0), hx⟩ (fun hHeld => ?_); refine with_tabW pt.tab11 pt.bits11 (fun HT_ HW_ => ?_)
  have B6 := Aside0.mk (B6.out.move rfl : Blk W.drew _ _ _)
  have HM := Aside0.mk HM.out.drew
  have HBW := Aside0.mk (below_drew HBW.out)
  have I1 := Aside0.mk (I1.out.move rfl : Blk W.drew _ _ _)
  have I2 := Aside0.mk (I2.out.move rfl : Blk W.drew _ _ _)
  have B3 := Aside0.mk (B3.out.move rfl : Blk W.drew _ _ _)
  replace hx : W.drew.cell? (ad.add d) = some (.int .i64 cnt) := hx
  generalize W.drew = Wd at B6 HM HBW I1 I2 B3 hx hHeld ⊢
  refine pu_ 0 50 #[I,O,O,O,O,O,O,O,O,O,O,O,O,O,O,O,O,O,O,O,O,O,O,O,O] HT_ (h := ?_)
  refine ta_ 1 51 #[I,I,O,O,O,O,O,O,O,O,O,O,O,O,O,O,O,O,O,O,O,O,O,O,O] HT_ HW_ hHeld (hy := by (rintro w' ⟨s0, s1, s2, s3, s4, s5⟩; go_simp; with_reducible rfl)) (h := ?_)
  refine pu_ 2 52 #[I,I,I,O,O,O,O,O,O,O,O,O,O,O,O,O,O,O,O,O,O,O,O,O,O] HT_ (h := ?_)
  refine ta_ 3 53 #[I,I,I,I,O,O,O,O,O,O,O,O,O,O,O,O,O,O,O,O,O,O,O,O,O] HT_ HW_ hHeld (hy := by (rintro w' ⟨s0, s1, s2, s3, s4, s5⟩; go_simp; with_reducible rfl)) (h := ?_)
  refine pu_ 4 54 #[I,I,I,I,I,O,O,O,O,O,O,O,O,O,O,O,O,O,O,O,O,O,O,O,O] HT_ (h := ?_)
  refine pu_ 5 55 #[I,I,I,I,I,I,O,O,O,O,O,O,O,O,O,O,O,O,O,O,O,O,O,O,O] HT_ (h := ?_)
  refine ta_ 6 56 #[I,I,I,I,I,I,I,O,O,O,O,O,O,O,O,O,O,O,O,O,O,O,O,O,O] HT_ HW_ hHeld (hy := by (rintro w' ⟨s0, s1, s2, s3, s4, s5⟩; go_simp; with_reducible rfl)) (h := ?_)
  refine pu_ 7 57 #[I,I,I,I,I,I,I,I,O,O,O,O,O,O,O,O,O,O,O,O,O,O,O,O,O] HT_ (h := ?_)
  refine ta_ 8 58 #[I,I,I,I,I,I,I,I,I,O,O,O,O,O,O,O,O,O,O,O,O,O,O,O,O] HT_ HW_ hHeld (hy := by (rintro w' ⟨s0, s1, s2, s3, s4, s5⟩; go_simp; with_reducible rfl)) (h := ?_)
  refine pu_ 9 59 #[I,I,I,I,I,I,I,I,I,I,O,O,O,O,O,O,O,O,O,O,O,O,O,O,O] HT_ (h := ?_)
  refine pure_ (i := 10) (N := some 60) (v := .int .i64 (max a0 (cnt - o1))) (a' := ?_) #[I,I,I,I,I,I,I,I,I,I,I,O,O,O,O,O,O,O,O,O,O,O,O,O,O] rfl rfl (any_of HT_.out (by kernel_rfl)) (fun _ _ _ h => h) (Or.inl ⟨by rfl, ?_⟩) ?_ ?_
  ·intro w'
   go_simp
   exact max_if _ _
  rotate_left
  ·simp only [Act.put, sb0, sb1, sb2, i64_w, i32_w]
   rfl
  refine pu_ 11 61 #[I,I,I,I,I,I,I,I,I,I,I,I,O,O,O,O,O,O,O,O,O,O,O,O,O] HT_ (h := ?_)
  refine ta_ 12 62 #[I,I,I,I,I,I,I,I,I,I,I,I,I,O,O,O,O,O,O,O,O,O,O,O,O] HT_ HW_ hHeld (hy := by (rintro w' ⟨s0, s1, s2, s3, s4, s5⟩; go_simp; with_reducible rfl)) (h := ?_)
  refine pu_ 13 63 #[I,I,I,I,I,I,I,I,I,I,I,I,I,I,O,O,O,O,O,O,O,O,O,O,O] HT_ (h := ?_)
  refine ta_ 14 64 #[I,I,I,I,I,I,I,I,I,I,I,I,I,I,I,O,O,O,O,O,O,O,O,O,O] HT_ HW_ hHeld (hy := by (rintro w' ⟨s0, s1, s2, s3, s4, s5⟩; go_simp; with_reducible rfl)) (h := ?_)
  refine pu_ 15 65 #[I,I,I,I,I,I,I,I,I,I,I,I,I,I,I,I,O,O,O,O,O,O,O,O,O] HT_ (h := ?_)
  refine pu_ 16 66 #[I,I,I,I,I,I,I,I,I,I,I,I,I,I,I,I,I,O,O,O,O,O,O,O,O] HT_ (h := ?_)
  refine ta_ 17 67 #[I,I,I,I,I,I,I,I,I,I,I,I,I,I,I,I,I,I,O,O,O,O,O,O,O] HT_ HW_ hHeld (hy := by (rintro w' ⟨s0, s1, s2, s3, s4, s5⟩; go_simp; with_reducible rfl)) (h := ?_)
  refine pu_ 18 68 #[I,I,I,I,I,I,I,I,I,I,I,I,I,I,I,I,I,I,I,O,O,O,O,O,O] HT_ (h := ?_)
  refine ta_ 19 69 #[I,I,I,I,I,I,I,I,I,I,I,I,I,I,I,I,I,I,I,I,O,O,O,O,O] HT_ HW_ hHeld (hy := by (rintro w' ⟨s0, s1, s2, s3, s4, s5⟩; go_simp; with_reducible rfl)) (h := ?_)
  refine pu_ 20 70 #[I,I,I,I,I,I,I,I,I,I,I,I,I,I,I,I,I,I,I,I,I,O,O,O,O] HT_ (h := ?_)
  refine one_ (i := 21) (N := some 71) #[I,I,I,I,I,I,I,I,I,I,I,I,I,I,I,I,I,I,I,I,I,I,O,O,O] rfl rfl (one_of HT_.out (by kernel_rfl)) (by decide) (fun K hK => ?_)
  refine value_ (w1 := ?_) (v := ?_) (by rfl) rfl ?_ ?_
  rotate_left 2
  ·go_simp
   constructor <;> rfl
  refine hK.out _ _ ⟨(by simpa using (I1.out.alloc (.cells #[.int .i64 a1, .int .i64 (cnt - o0)] 3)).cell 0), (by simpa using (I1.out.alloc (.cells #[.int .i64 a1, .int .i64 (cnt - o0)] 3)).cell 1), (by simpa using (I2.out.alloc (.cells #[.int .i64 a1, .int .i64 (cnt - o0)] 3)).cell 0), (by simpa using (I2.out.alloc (.cells #[.int .i64 a1, .int .i64 (cnt - o0)] 3)).cell 1), (by simpa using (B3.out.alloc (.cells #[.int .i64 a1, .int .i64 (cnt - o0)] 3)).cell 0), ((World.cell?_alloc_old _ _ _ (Nat.ne_of_lt (World.block_lt_of_cell? _ _ hx))).trans hx)⟩ (fun hHeld => ?_)
  clear hK K
  have B6e := Aside0.mk (B6.out.alloc (.cells #[.int .i64 a1, .int .i64 (cnt - o0)] 3))
  have HMe := Aside0.mk (HM.out.alloc (.cells #[.int .i64 a1, .int .i64 (cnt - o0)] 3))
  have HBe := Aside0.mk (below_alloc HBW.out (.cells #[.int .i64 a1, .int .i64 (cnt - o0)] 3))
  have Bl := Aside0.mk (Blk.new Wd [.int .i64 a1, .int .i64 (cnt - o0)] 3)
  clear B6 HM HBW I1 I2 B3
  generalize Wd.alloc (.cells #[.int .i64 a1, .int .i64 (cnt - o0)] 3) = wb at B6e HMe HBe Bl hHeld ⊢
  obtain ⟨gb, hgb⟩ : ∃ g, Wd.heap.size = g := ⟨_, rfl⟩
  rw [hgb] at Bl ⊢
  refine norm_ (by simp only [Act.put, sb0, sb1, sb2]; rfl) ?_
  refine one_ (i := 22) (N := some 72) #[I,I,I,I,I,I,I,I,I,I,I,I,I,I,I,I,I,I,I,I,I,I,I,O,O] rfl rfl (one_of HT_.out (by kernel_rfl)) (by decide) (fun K hK => ?_)
  refine goes_ Try.func87 (by kernel_rfl) rfl #[.slice (some ⟨gb, 0, none⟩) 2 2] (by rfl) rfl rfl (by (try simp only [List.map_toArray, List.map_cons, List.map_nil]); rfl) ?_
  refine (smallest_calls gb a1 (cnt - o0) wb (by simpa using Bl.out.cell 0) (by simpa using Bl.out.cell 1)).mono ?_
  rintro e_ w_ ⟨rfl, rfl⟩
  refine ⟨_, rfl, hK.out _ _ ⟨hHeld.1, hHeld.2.1, hHeld.2.2.1, hHeld.2.2.2.1, hHeld.2.2.2.2.1, hHeld.2.2.2.2.2⟩ (fun hHeld => ?_)⟩
  clear hK K
  refine norm_ (by simp only [Act.put, sb0, sb1, sb2]; rfl) ?_
  refine pu_ 23 73 #[I,I,I,I,I,I,I,I,I,I,I,I,I,I,I,I,I,I,I,I,I,I,I,I,O] HT_ (h := ?_)
  refine last_ (i := 24) (N := none) #[I,I,I,I,I,I,I,I,I,I,I,I,I,I,I,I,I,I,I,I,I,I,I,I,I] rfl rfl (one_of HT_.out (by kernel_rfl)) (by decide) (fun K hK => ?_)
  have hst_ := (show w_.cell? ⟨w.heap.size + 1 + 1, 0, none⟩ = some (.int .i64 0) by simpa using B6e.out.cell 0)
  have hfr_ := B6e.out.frozen 0
  have hst2_ : w_.cell? ⟨w.heap.size + 1 + 1, 1, none⟩ = some (.int .i64 0) := by simpa using B6e.out.cell 1
  have hfr2_ : w_.frozen? ⟨w.heap.size + 1 + 1, 1, none⟩ = false := B6e.out.frozen 1
  refine skip_ (w1 := ?_) (by rfl) rfl ?_ ?_
  rotate_left
  ·go_simp
   rfl
  refine hK.out _ _ ?_
  clear hK K hst_ hfr_ hst2_ hfr2_
  have B6f := Aside0.mk (B6e.out.set2 (.int .i64 (max a0 (cnt - o1))) (.int .i64 (min a1 (cnt - o0))))
  have HMf := Aside0.mk ((HMe.out.setCell ⟨w.heap.size + 1 + 1, 0, none⟩ (.int .i64 (max a0 (cnt - o1)))).setCell ⟨w.heap.size + 1 + 1, 1, none⟩ (.int .i64 (min a1 (cnt - o0))))
  have HBf := Aside0.mk ((HBe.out.setCell (p := ⟨w.heap.size + 1 + 1, 0, none⟩) (by simp only; omega) (.int .i64 (max a0 (cnt - o1)))).setCell (p := ⟨w.heap.size + 1 + 1, 1, none⟩) (by simp only; omega) (.int .i64 (min a1 (cnt - o0))))
  clear B6e HMe HBe Bl
  refine done_ (done_of HT_.out (by kernel_rfl)) ?_
  go_wp2_with (with_reducible refine wpIn_wide.2 ?_)
  refine Marks.leaves (lo := w.heap.size) (Inv := fun W => Below w.heap.size w W ∧ Blk W (w.heap.size + 1 + 1) [.int .i64 (max a0 (cnt - o1)), .int .i64 (min a1 (cnt - o0))] 71) (fun W D hlo hD hi => ⟨hi.1.grown (grownBy_putObj' W D _) hi.1.size (fun k e => by cases e; exact hlo), blk_putD hi.2 hD _⟩) (fun W hi => ?_) _ _ HMf.out ⟨HBf.out, B6f.out⟩
  refine ⟨_, results_cell_row rfl _ _ (w.heap.size + 1 + 1) 71 #[.int .i64 (max a0 (cnt - o1)), .int .i64 (min a1 (cnt - o0))] (0, 0) _ rfl hi.2 Try.underlying71 rfl (by kernel_rfl), ?_, hi.1⟩
  rw [HF.out]
end Go.Proofs.Ytiddkceahbnolaa
