/- The law's own code: whatever the input, it returns true. -/
import Derived.Test.YtiddkceahbnolaaLawP
import Derived.Laws.EntriesVeiled
namespace Go.Proofs.Ytiddkceahbnolaa
set_option linter.all false
open Go.RowKit Go.Shelf Go.Proofs.Ytiddkceahbnolaa.PWalkOrder Go.Proofs.YtiddkceahbnolaaW.PrintWords Go.Proofs.YtiddkceahbnolaaW.PrintLast
set_option linter.unusedVariables false
set_option linter.unusedSimpArgs false
def lw.T7 : Bool × List (List Nat × List Nat) := (true, [([], []), ([0], [0]), ([], []), ([], []), ([3], [3]), ([2, 4], [2, 4]), ([], []), ([6], [6]), ([7], [7]), ([5, 8], [5, 8]), ([1, 9], [1, 9]), ([10], [10]), ([], []), ([12, 11, 0, 1, 2, 3, 4, 5, 6, 7, 8, 9, 10, 11, 12], [11, 12])])
def lw.B7 : List Nat := [0, 1, 0, 0, 8, 28, 0, 64, 192, 508, 1023, 2047, 0, 8191]
theorem lw.tab7 : rtab .any (opsOf Try.f3 7) = lw.T7 := by kernel_rfl
theorem lw.bits7 : waitsOk lw.T7.2 lw.B7 = true := by kernel_rfl
theorem info32' : (Try.prog.info? 32).map (fun i => (i.zero, i.size, i.bytes)) = some (some (.agg #[(.int .i64 0), (.int .i64 0)]), 2, 16) := by kernel_rfl
theorem info34' : (Try.prog.info? 34).map (fun i => (i.zero, i.size, i.bytes)) = some (some (.agg #[(.int .i64 0), (.int .i64 0), (.int .i64 0), (.int .i64 0)]), 4, 32) := by kernel_rfl
theorem wrap_small {a : Int} (h0 : 0 ≤ a) (h1 : a < 1000000) : wrap64 a = a := by unfold wrap64; omega
theorem size_alloc (w : World) (o : Obj) : w.heap.size < (w.alloc o).heap.size := by simp
theorem rem8 (k : Nat) : ∃ q : Nat, (k : Int).tmod 8 = (q : Int) ∧ IntKind.u64.wrap (q : Int) = (q : Int) := by
 refine ⟨k % 8, ?_, ?_⟩
 ·rw [Int.tmod_eq_emod_of_nonneg (by omega)]
  omega
 ·have : k % 8 < 8 := Nat.mod_lt _ (by omega)
  obtain ⟨q, hq⟩ : ∃ q, k % 8 = q := ⟨_, rfl⟩
  rw [hq] at this ⊢
  show (q : Int) % 18446744073709551616 = q
  omega
theorem len_ok {α : Type} {xs : List α} {k n : Nat} (h : xs.length = k) (hk : k < n) (hn : n ≤ 24) : (xs.length + 1) * 32 ≤ 140737488355328 := by omega
theorem slice_of {α : Type} {d : Kd α} {e : Nat} {w : World} {base : Nat} {ok : Nat → Prop} {v : Value} {xs : List α} (h : d.R e w base ok v xs) : ∃ A n c, v = .slice A n c := by
 obtain ⟨a_, b_, e_, _, _⟩ := Kd.R_reads h
 exact ⟨_, _, _, e_⟩
theorem wrap_one {k n : Nat} (h : k < n) (hn : n ≤ 24) : wrap64 ((k : Int) + 1) = ((k + 1 : Nat) : Int) := by unfold wrap64; omega
theorem size_set (w : World) (p : Addr) (u : Value) : (w.setCell p u).heap.size = w.heap.size := by simp [World.setCell]
theorem len_snoc {α : Type} {xs : List α} {k : Nat} {r : α} (h : xs.length = k) : (xs ++ [r]).length = k + 1 := by simp [h]
theorem measure_ok {k n : Nat} (h : k < n) : n - (intOf (.int .i64 ((k + 1 : Nat) : Int))).toNat < n - (intOf (.int .i64 (k : Int))).toNat := by
 simp [intOf]
 omega
theorem eq_of_not {k n : Nat} (h : k ≤ n) (h' : ¬ k < n) : k = n := by omega
theorem le_a {n : Nat} (h : n ≤ 11) : n ≤ 1000 := by omega
theorem le_b {n : Nat} (h : n ≤ 24) : n ≤ 1000 := by omega
theorem le_c {n : Nat} (h : decide (12 < (n : Int)) = false) : n ≤ 1000 := by
 have := of_decide_eq_false h
 omega
theorem lt_m {n : Nat} (h : n ≤ 1000) : n < 1000000 := by omega
theorem reach_len (W : List S77) (R : List S94) (limit : Int) : (reachF W R limit).1.length ≤ W.length := by
 unfold reachF
 split
 ·split
  ·exact reachAt_len W R limit W.length
  ·exact Nat.zero_le _
 ·exact Nat.zero_le _
theorem slice_same {A B : Option Addr} {n m c d : Nat} (h : Value.slice A n c = Value.slice B m d) : A = B ∧ c = d := by
 injection h with h1 h2 h3
 exact ⟨h1, h3⟩
theorem map_len {α β : Type} {f : α → β} {l : List α} {W : List β} (h : l.map f = W) (hl : l.length ≤ 11) : W.length ≤ 1000 := by
 subst h
 rw [List.length_map]
 omega
theorem wrap_by {b : Nat} (h : (b : Int) < 256) : wrap64 (b : Int) = b := wrap_small (by omega) (by omega)
theorem wrap_sum {k n b : Nat} (h : k < n) (hn : n ≤ 24) (hb : (b : Int) < 256) : wrap64 ((k : Int) + b) = (k : Int) + b := wrap_small (by omega) (by omega)
theorem ne_zero_of {k n : Nat} (h : k < n) : ((n : Int) == 0) = false := by rw [beq_eq_false_iff_ne]; omega
theorem rem_of {k b n m : Nat} (hm : (k + b) % n = m) : ((k : Int) + b).tmod n = (m : Int) := by
 rw [Int.tmod_eq_emod_of_nonneg (by omega), ← hm]
 exact (Int.natCast_emod (k + b) n).symm
theorem ne_nil_of {α : Type} {k : Nat} {l : List α} (h : k < l.length) : ¬ l = [] := by
 rintro rfl
 exact absurd h (Nat.not_lt_zero _)
theorem lt_int {a b : Nat} (h : a < b) : (a : Int) < b := by omega
theorem pos_of {k n : Nat} (h : k < n) : 0 < n := by omega
theorem thin_calls {A0 : Option Addr} {c0 : Nat} (l0 : List S32) {A1 : Option Addr} {c1 : Nat} (l1 : List S34) (w : World) (hr0 : k32.C w A0 l0.length l0) (hc0 : l0.length ≤ c0) (hr1 : k34.C w A1 l1.length l1) (hc1 : l1.length ≤ c1) :
  Calls Try.prog 5 #[.agg #[.slice A0 l0.length c0, .slice A1 l1.length c1]] w fun e w' => e = .returned (.bool (decide (l0.length ≤ 11) && decide (l1.length ≤ 24))) ∧ Below w.heap.size w w' := by
 refine tithinglaw01_Thin.calls A0 c0 l0 A1 c1 l1 _ w hr0 hc0 hr1 hc1 ?_
 unfold tithinglaw01_Thin.f
 by_cases h : l0.length ≤ 11
 ·rw [if_pos (by omega)]
  simp [h]
  omega
 ·rw [if_neg (by omega)]
  simp [h]
theorem mapOf_calls {A0 : Option Addr} {c0 : Nat} (l0 : List S32) {A1 : Option Addr} {c1 : Nat} (l1 : List S34) (w : World) (hr0 : k32.C w A0 l0.length l0) (hc0 : l0.length ≤ c0) (hr1 : k34.C w A1 l1.length l1) (hc1 : l1.length ≤ c1) (h0 : l0.length ≤ 1000) (h1 : l1.length ≤ 1000) {W : List S77} {R : List S94} (hW : l0.map cvR = W) (hR : l1.map cvRd = R) :
  Calls Try.prog 9 #[.agg #[.slice A0 l0.length c0, .slice A1 l1.length c1]] w fun e w' => (∃ B0 d0 B1 d1, e = .returned (.agg #[.slice B0 W.length d0, .slice B1 R.length d1]) ∧ IsMap w' B0 d0 W B1 d1 R) ∧ Below w.heap.size w w' := by
 subst hW
 subst hR
 refine (tithinglaw01_Map.calls _ A0 c0 l0 A1 c1 l1 _ _ w hr0 hc0 hr1 hc1 (map_some l0 l1 (by omega) (by omega))).mono ?_
 rintro e w' ⟨v0, v1, rfl, hR0, hR1, hb⟩
 obtain ⟨B0, d0, B1, d1, rfl, rfl, hM⟩ := isMap_of hR0 hR1 (by simpa using h0) (by simpa using h1)
 exact ⟨⟨B0, d0, B1, d1, rfl, hM⟩, hb⟩
/-- What the law keeps behind its loop: both maps, and the places. -/
structure LS (w0 w : World) (A0 : Option Addr) (c0 : Nat) (l0 : List S32) (A1 : Option Addr) (c1 : Nat) (l1 : List S34) (Ap : Option Addr) (ps : List Int) (b8 b17 : Nat) (X0 : Option Addr) (x0 : Nat) (X1 : Option Addr) (x1 : Nat) (xs : List S34) : Prop where
 below : Below w0.heap.size w0 w
 b8 : Blk w b8 [.slice A0 l0.length c0, .slice A1 l1.length c1] 25
 b17 : Blk w b17 [.slice X0 l0.length x0, .slice X1 xs.length x1] 25
 k0 : k32.C w A0 l0.length l0
 k1 : k34.C w A1 l1.length l1
 m0 : k32.C w X0 l0.length l0
 m1 : k34.C w X1 xs.length xs
 kp : (Kd.int .i64).C w Ap ps.length ps
 i0 : l0.length ≤ c0
 i1 : l1.length ≤ c1
 j0 : l0.length ≤ x0
 j1 : xs.length ≤ x1
theorem LS.later {w0 w w' : World} {A0 : Option Addr} {c0 : Nat} {l0 : List S32} {A1 : Option Addr} {c1 : Nat} {l1 : List S34} {Ap : Option Addr} {ps : List Int} {b8 b17 : Nat} {X0 : Option Addr} {x0 : Nat} {X1 : Option Addr} {x1 : Nat} {xs : List S34} (h : LS w0 w A0 c0 l0 A1 c1 l1 Ap ps b8 b17 X0 x0 X1 x1 xs) (hb : Below w.heap.size w w') : LS w0 w' A0 c0 l0 A1 c1 l1 Ap ps b8 b17 X0 x0 X1 x1 xs :=
 ⟨h.below.trans (hb.mono h.below.size), h.b8.below hb, h.b17.below hb, Kd.C_below h.k0 hb, Kd.C_below h.k1 hb, Kd.C_below h.m0 hb, Kd.C_below h.m1 hb, Kd.C_below h.kp hb, h.i0, h.i1, h.j0, h.j1⟩

set_option maxRecDepth 100000 in
set_option maxHeartbeats 40000000 in
theorem law_calls {A0 : Option Addr} {c0 : Nat} (l0 : List S32) {A1 : Option Addr} {c1 : Nat} (l1 : List S34) (fr to_ : Int) {Ap : Option Addr} {cp : Nat} (ps : List Int) (limit many by_ turn : Int) (w : World)
  (hr0 : k32.C w A0 l0.length l0) (hc0 : l0.length ≤ c0) (hr1 : k34.C w A1 l1.length l1) (hc1 : l1.length ≤ c1) (hrp : (Kd.int .i64).C w Ap ps.length ps) (hcp : ps.length ≤ cp) (hby0 : 0 ≤ by_) (hby1 : by_ < 256) (htn0 : 0 ≤ turn) (htn1 : turn < 256) :
  Calls Try.prog 3 #[.agg #[.slice A0 l0.length c0, .slice A1 l1.length c1], .int .i64 fr, .int .i64 to_, .slice Ap ps.length cp, .int .i64 limit, .int .i64 many, .int .u8 by_, .int .u8 turn] w fun e w' => e = .returned (.bool true) ∧ Below w.heap.size w w' := by
 obtain ⟨bn, rfl⟩ : ∃ n : Nat, by_ = n := ⟨by_.toNat, by omega⟩
 have K0 := Aside0.mk hr0
 have K1 := Aside0.mk hr1
 have KP := Aside0.mk hrp
 clear hr0 hr1 hrp
 go_enter Try.func3, Try.ntmps3
 go_wp2_with fail
 have HB := Aside0.mk (below_alloc (Below.refl w.heap.size w) (.cells #[.slice A0 l0.length c0, .slice A1 l1.length c1] 25))
 have B8 := Aside0.mk (Blk.new w [.slice A0 l0.length c0, .slice A1 l1.length c1] 25)
 have hs0 : w.heap.size < (w.alloc (.cells #[.slice A0 l0.length c0, .slice A1 l1.length c1] 25)).heap.size := by simp
 generalize w.alloc (.cells #[.slice A0 l0.length c0, .slice A1 l1.length c1] 25) = w0 at HB B8 hs0 ⊢
 refine (thin_calls l0 l1 w0 (Kd.C_below K0.out HB.out) hc0 (Kd.C_below K1.out HB.out) hc1).mono ?_
 rintro e w1 ⟨rfl, hb1⟩
 have HB1 := Aside0.mk (HB.out.trans (hb1.mono HB.out.size))
 have B81 := Aside0.mk (B8.out.below hb1)
 have hs1 := Nat.lt_of_lt_of_le hs0 hb1.size
 have h80 := B81.out.cell 0
 have h81 := B81.out.cell 1
 simp only [sb3, sb4] at h80 h81
 clear hb1 HB B8 hs0
 cases hth : (decide (l0.length ≤ 11) && decide (l1.length ≤ 24))
 ·go_wp2_with fail
  refine (awake_calls _).mono ?_
  rintro e w2 ⟨rfl, hb2⟩
  have HB2 := Aside0.mk (HB1.out.trans (hb2.mono HB1.out.size))
  go_wp2_with fail
  go_ret
  exact ⟨rfl, HB2.out⟩
 ·simp only [Bool.and_eq_true, decide_eq_true_eq] at hth
  obtain ⟨ht0, ht1⟩ := hth
  go_wp2_with fail
  obtain ⟨kf, rf, hf⟩ := fault_some l0 l1 (by omega) (by omega)
  refine (tithinglaw01_fault.calls kf A0 c0 l0 A1 c1 l1 rf w1 (Kd.C_below K0.out HB1.out) hc0 (Kd.C_below K1.out HB1.out) hc1 hf).mono ?_
  rintro e w2 ⟨rfl, hb2⟩
  have HB2 := Aside0.mk (HB1.out.trans (hb2.mono HB1.out.size))
  have B82 := Aside0.mk (B81.out.below hb2)
  have hs2 := Nat.lt_of_lt_of_le hs1 hb2.size
  clear hb2 HB1 B81 hs1 h80 h81 hf
  have h80 := B82.out.cell 0
  have h81 := B82.out.cell 1
  simp only [sb3, sb4] at h80 h81
  cases hrf : (rf != 0)
  ·by_cases hp : 12 < ps.length
   ·have hpb : decide (12 < (ps.length : Int)) = true := by simp; omega
    clear hp
    go_wp2_with fail
    refine (awake_calls _).mono ?_
    rintro e w3 ⟨rfl, hb3⟩
    have HB3 := Aside0.mk (HB2.out.trans (hb3.mono HB2.out.size))
    go_wp2_with fail
    go_ret
    exact ⟨rfl, HB3.out⟩
   ·have hpb : decide (12 < (ps.length : Int)) = false := by simp; omega
    clear hp
    have K02 := Aside0.mk (Kd.C_below K0.out HB2.out)
    go_wp2_with (first | ((with_reducible refine gate_dst (N := 42) rfl ?_); refine Kd.R_lit k32 w2.heap.size 32 ?hg (N := 42) ?hd (xs := ([] : List S32)) (inner := []) (ok := (fun b => w2.heap.size ≤ b)) (okp := (fun b => w2.heap.size ≤ b)) ?hr ?hp (fun _ hk => hk) (Nat.le_refl _) (Below.refl _ _) (Nat.le_refl _) (by simp) ?_; (case hd => rfl); (case hg => rfl); (case hr => first | (go_simp; done) | (go_simp; rfl)); (case hp => exact (Reps.none _ _)); intro v3 w3 hr3 hb3 hg3 hat3; have HR3 := Aside0.mk hr3; have HB3 := Aside0.mk (HB2.out.trans (hb3.mono HB2.out.size)); have hs3 := hb3.size; have B83 := Aside0.mk (B82.out.below hb3); have K03 := Aside0.mk (Kd.C_below K02.out hb3); have h80 := B83.out.cell 0; have h81 := B83.out.cell 1; simp only [sb3, sb4] at h80 h81; clear hr3 hb3 hg3 hat3 B82 K02) | ((with_reducible refine gate_builtin (b := .append) (xs := #[.tmp 42, .tmp 44]) rfl ?_); refine Kd.R_append_rows k32 (w0 := w3) w2.heap.size rfl (.tmp 42) (.tmp 44) 22 32 (.agg #[(.int .i64 0), (.int .i64 0)]) 16 rfl Try.underlying22 info32' rfl (by decide) (by omega) v3 [] l0 _ _ _ (fun b => w2.heap.size ≤ b) (fun _ => False) rfl rfl HR3.out K03.out (fun x cs h => by obtain rfl := k32_open h; exact k32_mkM _ _ _ _) (fun _ hk => hk.elim) (fun k hk => Nat.le_trans hs3 hk) (Below.refl _ _) hs3 ?aL ?_; (case aL => (simp only [List.length_nil]; omega)); intro vn w4 hon hbn hgn hatn; rw [List.nil_append] at hon; obtain ⟨X0, x0, rfl, hx0, hX0⟩ := Kd.R_reads hon; have HN4 := Aside0.mk (Kd.R_mono (Kd.R_bound hon) (fun b hb => (⟨hb.2.1, hb.2.2.1⟩ : w2.heap.size ≤ b ∧ b < w4.heap.size))); have hb34 := hbn.mono (Nat.le_of_lt (Nat.lt_of_lt_of_le hs2 (Nat.le_refl _))); have HB4 := Aside0.mk (HB3.out.trans hb34); have B84 := Aside0.mk (B83.out.move (hbn.block w.heap.size hs2)); have hs4 := Nat.le_trans hs3 hbn.size; clear hon hbn hgn hatn hX0 hb34 h80 h81 B83 K03 HR3 HB3))
    have HB5 := Aside0.mk (below_alloc HB4.out (.cells #[.slice X0 l0.length x0, .slice none 0 0] 25))
    have B85 := Aside0.mk (B84.out.alloc (.cells #[.slice X0 l0.length x0, .slice none 0 0] 25))
    have B17 := Aside0.mk (Blk.new w4 [.slice X0 l0.length x0, .slice none 0 0] 25)
    have HN5 := Aside0.mk (Kd.R_alloc HN4.out (.cells #[.slice X0 l0.length x0, .slice none 0 0] 25))
    have hs5 : w4.heap.size < (w4.alloc (.cells #[.slice X0 l0.length x0, .slice none 0 0] 25)).heap.size := by simp
    have hs24 := Nat.lt_of_lt_of_le hs2 hs4
    clear HB4 B84 HN4
    generalize w4.alloc (.cells #[.slice X0 l0.length x0, .slice none 0 0] 25) = w5 at HB5 B85 B17 HN5 hs5 ⊢
    generalize w4.heap.size = b17 at B17 HN5 hs5 hs24 hs4 ⊢
    go_loopw [18] (fun v18 wr => ∃ (k : Nat) (v : Value) (xs : List S34), k ≤ l1.length ∧ xs.length = k ∧ v18 = .int .i64 k ∧ w5.heap.size ≤ wr.heap.size ∧ Aside0 (Turned l1 bn xs) ∧ Aside0 (Below w.heap.size w wr) ∧ Aside0 (Blk wr w.heap.size [.slice A0 l0.length c0, .slice A1 l1.length c1] 25) ∧ Aside0 (Blk wr b17 [.slice X0 l0.length x0, v] 25) ∧ Aside0 (k32.R 32 wr w2.heap.size (fun b => w2.heap.size ≤ b ∧ b < b17) (.slice X0 l0.length x0) l0) ∧ Aside0 (k34.R 34 wr w5.heap.size (fun b => w5.heap.size ≤ b) v xs)) (fun v18 _ => l1.length - (intOf v18).toNat)
    case atStart => exact ⟨0, .slice none 0 0, [], Nat.zero_le _, rfl, rfl, Nat.le_refl _, ⟨fun j hj => absurd hj (by simp)⟩, HB5, B85, B17, HN5, ⟨Kd.R_nil _ _ _ _ _⟩⟩
    case round =>
     clear HB5 B85 B17 HN5
     obtain ⟨k, v, xs, hk, hxl, rfl, hsr, HT, HBr, B8r, B17r, HN, HV⟩ := hrel
     have h80 := B8r.out.cell 0
     have h81 := B8r.out.cell 1
     simp only [sb3, sb4] at h80 h81
     by_cases hkl : k < l1.length
     ·rename_i hA_
      clear hA_
      have hwb : wrap64 (bn : Int) = bn := wrap_by hby1
      have hwk : wrap64 ((k : Int) + bn) = (k : Int) + bn := wrap_sum hkl ht1 hby1
      have hnz : ((l1.length : Int) == 0) = false := ne_zero_of hkl
      have HK1 := Aside0.mk (wrap_one hkl ht1)
      have hne : ¬ l1 = [] := ne_nil_of hkl
      have hml : (k + bn) % l1.length < l1.length := Nat.mod_lt _ (pos_of hkl)
      have HSN := Aside0.mk (fun (r : S34) => HT.out.snoc (r := r))
      rw [hxl] at HSN
      have HXL := Aside0.mk hxl
      clear hxl
      obtain ⟨m, hm⟩ : ∃ m, (k + bn) % l1.length = m := ⟨_, rfl⟩
      have hrem := rem_of hm
      rw [hm] at hml HSN
      have hml1 := lt_int hml
      obtain ⟨ad, e, hq0, hq1, hq2, hq3⟩ := at_T34 (Kd.C_below K1.out HBr.out) m (Int.natCast_nonneg m) hml1
      cases e
      simp only [Int.toNat_natCast] at hq0 hq1 hq2 hq3
      rw [show rd_T34 l1 (m : Int) = l1.getD m z34 from by simp [rd_T34]] at hq0 hq1 hq2 hq3
      obtain ⟨r, hr⟩ : ∃ r, l1.getD m z34 = r := ⟨_, rfl⟩
      rw [hr] at hq0 hq1 hq2 hq3 HSN
      clear hm hr
      go_wp2_with fail
      refine start_ (n := 14) (S := fun w' => w'.cell? ⟨w.heap.size, 1, none⟩ = some (.slice (some ad) l1.length c1) ∧ w'.cell? (ad.add (m * 4)) = some (.int .i64 r.f0) ∧ w'.cell? ⟨(ad.add (m * 4)).block, (ad.add (m * 4)).off + 1, none⟩ = some (.int .i64 r.f1) ∧ w'.cell? ⟨(ad.add (m * 4)).block, (ad.add (m * 4)).off + 2, none⟩ = some (.int .i64 r.f2.f0) ∧ w'.cell? ⟨(ad.add (m * 4)).block, (ad.add (m * 4)).off + 3, none⟩ = some (.int .i64 r.f2.f1)) (ds := [13]) #[false, false, false, false, false, false, false, false, false, false, false, false, false, false] (by kernel_rfl) rfl rfl ⟨h81, hq0, hq1, hq2, hq3⟩ (fun hHeld => ?_); refine with_tabW lw.tab7 lw.bits7 (fun HT_ HW_ => ?_)
      have HBd := Aside0.mk (below_drew HBr.out)
      have B8d := Aside0.mk (B8r.out.move rfl : Blk wr.drew _ _ _)
      have B17d := Aside0.mk (B17r.out.move rfl : Blk wr.drew _ _ _)
      have HNd := Aside0.mk (Kd.R_drew HN.out)
      have HVd := Aside0.mk (Kd.R_drew HV.out)
      have hsd : w5.heap.size ≤ wr.drew.heap.size := hsr
      clear HBr B8r B17r HN HV hsr h80 h81 hq0 hq1 hq2 hq3
      generalize wr.drew = wd at HBd B8d B17d HNd HVd hsd hHeld ⊢
      refine pure_ (i := 0) (N := some 54) (v := ?_) (a' := ?_) #[true, false, false, false, false, false, false, false, false, false, false, false, false, false] rfl rfl (any_of HT_.out (by kernel_rfl)) (fun _ _ _ h => h) (Or.inl ⟨by rfl, ?_⟩) ?_ ?_
      rotate_left
      ·intro w'
       go_simp
       with_reducible rfl
      rotate_left
      ·simp only [Act.put, sb0, sb1, sb2, i64_w, i32_w]
       rfl
      refine take_ (i := 1) (N := some 55) (v := ?_) (a' := ?_) #[true, true, false, false, false, false, false, false, false, false, false, false, false, false] rfl rfl (take_ofW HT_.out HW_.out (by kernel_rfl)) (fun _ _ _ h => h) (Or.inl ⟨by rfl, ?_⟩) hHeld ?_ ?_
      rotate_left
      ·rintro w' ⟨s0, s1, s2, s3, s4⟩
       go_simp
       with_reducible rfl
      rotate_left
      ·simp only [Act.put, sb0, sb1, sb2, i64_w, i32_w]
       rfl
      refine pure_ (i := 2) (N := some 56) (v := ?_) (a' := ?_) #[true, true, true, false, false, false, false, false, false, false, false, false, false, false] rfl rfl (any_of HT_.out (by kernel_rfl)) (fun _ _ _ h => h) (Or.inl ⟨by rfl, ?_⟩) ?_ ?_
      rotate_left
      ·intro w'
       go_simp
       with_reducible rfl
      rotate_left
      ·simp only [Act.put, sb0, sb1, sb2, i64_w, i32_w]
       rfl
      refine pure_ (i := 3) (N := some 57) (v := ?_) (a' := ?_) #[true, true, true, true, false, false, false, false, false, false, false, false, false, false] rfl rfl (any_of HT_.out (by kernel_rfl)) (fun _ _ _ h => h) (Or.inl ⟨by rfl, ?_⟩) ?_ ?_
      rotate_left
      ·intro w'
       go_simp
       with_reducible rfl
      rotate_left
      ·simp only [Act.put, sb0, sb1, sb2, i64_w, i32_w]
       rfl
      refine pure_ (i := 4) (N := some 58) (v := ?_) (a' := ?_) #[true, true, true, true, true, false, false, false, false, false, false, false, false, false] rfl rfl (any_of HT_.out (by kernel_rfl)) (fun _ _ _ h => h) (Or.inl ⟨by rfl, ?_⟩) ?_ ?_
      rotate_left
      ·intro w'
       go_simp
       with_reducible rfl
      rotate_left
      ·simp only [Act.put, sb0, sb1, sb2, i64_w, i32_w]
       rfl
      refine pure_ (i := 5) (N := some 59) (v := ?_) (a' := ?_) #[true, true, true, true, true, true, false, false, false, false, false, false, false, false] rfl rfl (any_of HT_.out (by kernel_rfl)) (fun _ _ _ h => h) (Or.inl ⟨by rfl, ?_⟩) ?_ ?_
      rotate_left
      ·intro w'
       go_simp
       with_reducible rfl
      rotate_left
      ·simp only [Act.put, sb0, sb1, sb2, i64_w, i32_w]
       rfl
      refine pure_ (i := 6) (N := some 60) (v := ?_) (a' := ?_) #[true, true, true, true, true, true, true, false, false, false, false, false, false, false] rfl rfl (any_of HT_.out (by kernel_rfl)) (fun _ _ _ h => h) (Or.inl ⟨by rfl, ?_⟩) ?_ ?_
      rotate_left
      ·intro w'
       go_simp
       with_reducible rfl
      rotate_left
      ·simp only [Act.put, sb0, sb1, sb2, i64_w, i32_w]
       rfl
      refine take_ (i := 7) (N := some 61) (v := ?_) (a' := ?_) #[true, true, true, true, true, true, true, true, false, false, false, false, false, false] rfl rfl (take_ofW HT_.out HW_.out (by kernel_rfl)) (fun _ _ _ h => h) (Or.inl ⟨by rfl, ?_⟩) hHeld ?_ ?_
      rotate_left
      ·rintro w' ⟨s0, s1, s2, s3, s4⟩
       go_simp
       with_reducible rfl
      rotate_left
      ·simp only [Act.put, sb0, sb1, sb2, i64_w, i32_w]
       rfl
      refine pure_ (i := 8) (N := some 62) (v := ?_) (a' := ?_) #[true, true, true, true, true, true, true, true, true, false, false, false, false, false] rfl rfl (any_of HT_.out (by kernel_rfl)) (fun _ _ _ h => h) (Or.inl ⟨by rfl, ?_⟩) ?_ ?_
      rotate_left
      ·intro w'
       go_simp
       with_reducible rfl
      rotate_left
      ·simp only [Act.put, sb0, sb1, sb2, i64_w, i32_w]
       rfl
      refine pure_ (i := 9) (N := some 63) (v := ?_) (a' := ?_) #[true, true, true, true, true, true, true, true, true, true, false, false, false, false] rfl rfl (any_of HT_.out (by kernel_rfl)) (fun _ _ _ h => h) (Or.inl ⟨by rfl, ?_⟩) ?_ ?_
      rotate_left
      ·intro w'
       go_simp
       with_reducible rfl
      rotate_left
      ·simp only [Act.put, sb0, sb1, sb2, i64_w, i32_w]
       rfl
      refine pure_ (i := 10) (N := some 64) (v := ?_) (a' := ?_) #[true, true, true, true, true, true, true, true, true, true, true, false, false, false] rfl rfl (any_of HT_.out (by kernel_rfl)) (fun _ _ _ h => h) (Or.inl ⟨by rfl, ?_⟩) ?_ ?_
      rotate_left
      ·intro w'
       go_simp
       with_reducible rfl
      rotate_left
      ·simp only [Act.put, sb0, sb1, sb2, i64_w, i32_w]
       rfl
      refine take_ (i := 11) (N := some 65) (v := ?_) (a' := ?_) #[true, true, true, true, true, true, true, true, true, true, true, true, false, false] rfl rfl (take_ofW HT_.out HW_.out (by kernel_rfl)) (fun _ _ _ h => h) (Or.inl ⟨by rfl, ?_⟩) hHeld ?_ ?_
      rotate_left
      ·rintro w' ⟨s0, s1, s2, s3, s4⟩
       go_simp
       with_reducible rfl
      rotate_left
      ·simp only [Act.put, sb0, sb1, sb2, i64_w, i32_w]
       rfl
      refine one_ (i := 12) (N := some 19) #[true, true, true, true, true, true, true, true, true, true, true, true, true, false] rfl rfl (one_of HT_.out (by kernel_rfl)) (by decide) (fun K hK => ?_)
      refine value_ (w1 := ?_) (v := ?_) (by rfl) rfl ?_ ?_
      rotate_left 2
      ·go_simp
       constructor <;> rfl
      refine hK.out _ _ ⟨((below_alloc (Below.refl _ _) (.cells #[.int .i64 0, .int .i64 0, .int .i64 0, .int .i64 0] 34)).cell (World.block_lt_of_cell? _ _ hHeld.1)).trans hHeld.1, ((below_alloc (Below.refl _ _) (.cells #[.int .i64 0, .int .i64 0, .int .i64 0, .int .i64 0] 34)).cell (World.block_lt_of_cell? _ _ hHeld.2.1)).trans hHeld.2.1, ((below_alloc (Below.refl _ _) (.cells #[.int .i64 0, .int .i64 0, .int .i64 0, .int .i64 0] 34)).cell (World.block_lt_of_cell? _ _ hHeld.2.2.1)).trans hHeld.2.2.1, ((below_alloc (Below.refl _ _) (.cells #[.int .i64 0, .int .i64 0, .int .i64 0, .int .i64 0] 34)).cell (World.block_lt_of_cell? _ _ hHeld.2.2.2.1)).trans hHeld.2.2.2.1, ((below_alloc (Below.refl _ _) (.cells #[.int .i64 0, .int .i64 0, .int .i64 0, .int .i64 0] 34)).cell (World.block_lt_of_cell? _ _ hHeld.2.2.2.2)).trans hHeld.2.2.2.2⟩ (fun hHeld => ?_)
      clear hK K
      have B19 := Blk.new wd [.int .i64 0, .int .i64 0, .int .i64 0, .int .i64 0] 34
      have h190 := B19.cell 0
      have h191 := B19.cell 1
      have h192 := B19.cell 2
      have h193 := B19.cell 3
      have h190f := B19.frozen 0
      have h191f := B19.frozen 1
      have h192f := B19.frozen 2
      have h193f := B19.frozen 3
      simp only [sb3, sb4] at h190 h191 h192 h193
      clear B19
      refine norm_ (by simp only [Act.put, sb0, sb1, sb2]; rfl) ?_
      refine last_ (i := 13) (N := none) #[true, true, true, true, true, true, true, true, true, true, true, true, true, true] rfl rfl (one_of HT_.out (by kernel_rfl)) (by decide) (fun K hK => ?_)
      have hst_ := h190
      have hfr_ := h190f
      refine skip_ (w1 := ?_) (by rfl) rfl ?_ ?_
      rotate_left
      ·go_simp
       rfl
      refine hK.out _ _ ?_
      clear hK K hst_ hfr_ h190 h191 h192 h193 h190f h191f h192f h193f
      refine done_ (done_of HT_.out (by kernel_rfl)) ?_
      have B19 := Aside0.mk (Blk.new wd [.int .i64 r.f0, .int .i64 r.f1, .int .i64 r.f2.f0, .int .i64 r.f2.f1] 34)
      have HB7 := Aside0.mk (below_alloc HBd.out (.cells #[.int .i64 r.f0, .int .i64 r.f1, .int .i64 r.f2.f0, .int .i64 r.f2.f1] 34))
      have B87 := Aside0.mk (B8d.out.alloc (.cells #[.int .i64 r.f0, .int .i64 r.f1, .int .i64 r.f2.f0, .int .i64 r.f2.f1] 34))
      have B177 := Aside0.mk (B17d.out.alloc (.cells #[.int .i64 r.f0, .int .i64 r.f1, .int .i64 r.f2.f0, .int .i64 r.f2.f1] 34))
      have HN7 := Aside0.mk (Kd.R_alloc HNd.out (.cells #[.int .i64 r.f0, .int .i64 r.f1, .int .i64 r.f2.f0, .int .i64 r.f2.f1] 34))
      have HV7 := Aside0.mk (Kd.R_alloc (Kd.R_mono (Kd.R_bound HVd.out) (fun b hb => (⟨hb.2.1, Nat.ne_of_lt hb.2.2.1⟩ : w5.heap.size ≤ b ∧ b ≠ wd.heap.size))) (.cells #[.int .i64 r.f0, .int .i64 r.f1, .int .i64 r.f2.f0, .int .i64 r.f2.f1] 34))
      have hs7 := size_alloc wd (.cells #[.int .i64 r.f0, .int .i64 r.f1, .int .i64 r.f2.f0, .int .i64 r.f2.f1] 34)
      clear HBd B8d B17d HNd HVd
      generalize wd.alloc (.cells #[.int .i64 r.f0, .int .i64 r.f1, .int .i64 r.f2.f0, .int .i64 r.f2.f1] 34) = w7 at B19 HB7 B87 B177 HN7 HV7 hs7 ⊢
      generalize wd.heap.size = g19 at B19 HV7 hs7 hsd ⊢
      have h190 := B19.out.cell 0
      have h191 := B19.out.cell 1
      have h192 := B19.out.cell 2
      have h193 := B19.out.cell 3
      have h190f := B19.out.frozen 0
      have h191f := B19.out.frozen 1
      simp only [sb3, sb4] at h190 h191 h192 h193
      obtain ⟨q, hk8, hwq⟩ := rem8 k
      obtain ⟨bt, hbt⟩ : ∃ b, (Go.bits .and .u8 (turn / 2 ^ min q 8) 1 == 1) = b := ⟨_, rfl⟩
      have hs57 := Nat.le_trans hsd (Nat.le_of_lt hs7)
      have hg17 : ¬ b17 = g19 := fun e => absurd hsd (Nat.not_le_of_lt (e ▸ hs5))
      cases bt
      ·have h170 := B177.out.cell 0
       have h171 := B177.out.cell 1
       simp only [sb3, sb4] at h170 h171
       go_wp2_with ((with_reducible refine gate_builtin (b := .append) (xs := #[.tmp 80, .tmp 82]) rfl ?_); refine Kd.R_append k34 (w0 := w7) w5.heap.size rfl (.tmp 80) (.tmp 82) 23 34 (.agg #[(.int .i64 0), (.int .i64 0), (.int .i64 0), (.int .i64 0)]) 32 rfl Try.underlying23 info34' rfl (by decide) (by decide) v xs r [.int .i64 r.f0, .int .i64 r.f1, .int .i64 r.f2.f0, .int .i64 r.f2.f1] (fun b => w5.heap.size ≤ b) (fun _ => False) rfl rfl ?aP (fun _ hk => hk.elim) ?aF ?aO (Below.refl _ _) hs57 ?aL ?_; (case aP => exact k34_mkM _ _ _ r); (case aF => exact (fun k hk => Nat.le_trans hs57 hk)); (case aO => exact Kd.R_mono HV7.out (fun _ h => h.1)); (case aL => exact len_ok HXL.out hkl ht1); intro vn wn hon hbn hgn hatn; obtain ⟨An, nn, cn, rfl⟩ := slice_of hon; have HVn := Aside0.mk hon; have B17n := Aside0.mk (B177.out.move (hbn.block b17 hs5)); have B8n := Aside0.mk (B87.out.move (hbn.block w.heap.size (Nat.lt_trans hs24 hs5))); have HNn := Aside0.mk (Kd.R_step HN7.out (fun b hb _ => hbn.block b (Nat.lt_trans hb.2 hs5))); have HBn := Aside0.mk (HB7.out.trans (hbn.mono (Nat.le_of_lt (Nat.lt_trans hs24 hs5)))); have hsn := Nat.le_trans hs57 hbn.size; clear hon hbn hgn hatn; have h170 := B17n.out.cell 0; have h171 := B17n.out.cell 1; have h170f := B17n.out.frozen 0; have h171f := B17n.out.frozen 1; simp only [sb3, sb4] at h170 h171)
       exact ⟨⟨k + 1, .slice An nn cn, xs ++ [r], hkl, len_snoc HXL.out, congrArg (Value.int .i64) HK1.out, (size_set wn _ _).symm ▸ hsn, ⟨HSN.out _ (.inl rfl)⟩, ⟨HBn.out.setCell (p := ⟨b17, 1, none⟩) (Nat.le_of_lt hs24) _⟩, ⟨B8n.out.move (Below.heap_setCell wn ⟨b17, 1, none⟩ _ _ (Nat.ne_of_lt hs24))⟩, ⟨blk_set B17n.out 1 (.slice An nn cn)⟩, ⟨Kd.R_far HNn.out (p := ⟨b17, 1, none⟩) (fun b hb => Nat.ne_of_lt hb.2) _⟩, ⟨Kd.R_far HVn.out (p := ⟨b17, 1, none⟩) (fun b hb => Nat.ne_of_gt (Nat.lt_of_lt_of_le hs5 hb)) _⟩⟩, by rw [HK1.out]; exact measure_ok hkl⟩
      ·obtain ⟨w8, hw8⟩ : ∃ w8, (w7.setCell ⟨g19, 0, none⟩ (.int .i64 r.f1)).setCell ⟨g19, 1, none⟩ (.int .i64 r.f0) = w8 := ⟨_, rfl⟩
       have B198 := Aside0.mk (show Blk w8 g19 [.int .i64 r.f1, .int .i64 r.f0, .int .i64 r.f2.f0, .int .i64 r.f2.f1] 34 by rw [← hw8]; exact blk_set (blk_set B19.out 0 _) 1 _)
       have HB8 := Aside0.mk (show Below w.heap.size w w8 by rw [← hw8]; exact (HB7.out.setCell (p := ⟨g19, 0, none⟩) (Nat.le_trans (Nat.le_of_lt (Nat.lt_trans hs24 hs5)) hsd) _).setCell (p := ⟨g19, 1, none⟩) (Nat.le_trans (Nat.le_of_lt (Nat.lt_trans hs24 hs5)) hsd) _)
       have hg8 : ¬ w.heap.size = g19 := fun e => absurd hsd (Nat.not_le_of_lt (e ▸ Nat.lt_trans hs24 hs5))
       have B88 := Aside0.mk (show Blk w8 w.heap.size [.slice A0 l0.length c0, .slice (some ad) l1.length c1] 25 by rw [← hw8]; exact (B87.out.move (Below.heap_setCell w7 ⟨g19, 0, none⟩ _ _ hg8)).move (Below.heap_setCell _ ⟨g19, 1, none⟩ _ _ hg8))
       have B178 := Aside0.mk (show Blk w8 b17 [.slice X0 l0.length x0, v] 25 by rw [← hw8]; exact (B177.out.move (Below.heap_setCell w7 ⟨g19, 0, none⟩ _ _ hg17)).move (Below.heap_setCell _ ⟨g19, 1, none⟩ _ _ hg17))
       have HN8 := Aside0.mk (show k32.R 32 w8 w2.heap.size (fun b => w2.heap.size ≤ b ∧ b < b17) (.slice X0 l0.length x0) l0 by rw [← hw8]; exact Kd.R_far (Kd.R_far HN7.out (p := ⟨g19, 0, none⟩) (fun b hb => Nat.ne_of_lt (Nat.lt_of_lt_of_le (Nat.lt_trans hb.2 hs5) hsd)) _) (p := ⟨g19, 1, none⟩) (fun b hb => Nat.ne_of_lt (Nat.lt_of_lt_of_le (Nat.lt_trans hb.2 hs5) hsd)) _)
       have HV8 := Aside0.mk (show k34.R 34 w8 w5.heap.size (fun b => w5.heap.size ≤ b ∧ b ≠ g19) v xs by rw [← hw8]; exact Kd.R_far (Kd.R_far HV7.out (p := ⟨g19, 0, none⟩) (fun b hb => hb.2) _) (p := ⟨g19, 1, none⟩) (fun b hb => hb.2) _)
       have hs57 : w5.heap.size ≤ w8.heap.size := by rw [← hw8, size_set, size_set]; exact hs57
       have h190' := B198.out.cell 0
       have h191' := B198.out.cell 1
       have h192' := B198.out.cell 2
       have h193' := B198.out.cell 3
       have h170 := B178.out.cell 0
       have h171 := B178.out.cell 1
       simp only [sb3, sb4] at h190' h191' h192' h193' h170 h171
       clear B19 HB7 B87 B177 HN7 HV7
       go_wp2_with ((with_reducible refine gate_builtin (b := .append) (xs := #[.tmp 80, .tmp 82]) rfl ?_); refine Kd.R_append k34 (w0 := w8) w5.heap.size rfl (.tmp 80) (.tmp 82) 23 34 (.agg #[(.int .i64 0), (.int .i64 0), (.int .i64 0), (.int .i64 0)]) 32 rfl Try.underlying23 info34' rfl (by decide) (by decide) v xs (flipS r) [.int .i64 r.f1, .int .i64 r.f0, .int .i64 r.f2.f0, .int .i64 r.f2.f1] (fun b => w5.heap.size ≤ b) (fun _ => False) rfl rfl ?aP (fun _ hk => hk.elim) ?aF ?aO (Below.refl _ _) hs57 ?aL ?_; (case aP => exact k34_mkM _ _ _ (flipS r)); (case aF => exact (fun k hk => Nat.le_trans hs57 hk)); (case aO => exact Kd.R_mono HV8.out (fun _ h => h.1)); (case aL => exact len_ok HXL.out hkl ht1); intro vn wn hon hbn hgn hatn; obtain ⟨An, nn, cn, rfl⟩ := slice_of hon; have HVn := Aside0.mk hon; have B17n := Aside0.mk (B178.out.move (hbn.block b17 hs5)); have B8n := Aside0.mk (B88.out.move (hbn.block w.heap.size (Nat.lt_trans hs24 hs5))); have HNn := Aside0.mk (Kd.R_step HN8.out (fun b hb _ => hbn.block b (Nat.lt_trans hb.2 hs5))); have HBn := Aside0.mk (HB8.out.trans (hbn.mono (Nat.le_of_lt (Nat.lt_trans hs24 hs5)))); have hsn := Nat.le_trans hs57 hbn.size; clear hon hbn hgn hatn; have h170 := B17n.out.cell 0; have h171 := B17n.out.cell 1; have h170f := B17n.out.frozen 0; have h171f := B17n.out.frozen 1; simp only [sb3, sb4] at h170 h171)
       exact ⟨⟨k + 1, .slice An nn cn, xs ++ [flipS r], hkl, len_snoc HXL.out, congrArg (Value.int .i64) HK1.out, (size_set wn _ _).symm ▸ hsn, ⟨HSN.out _ (.inr rfl)⟩, ⟨HBn.out.setCell (p := ⟨b17, 1, none⟩) (Nat.le_of_lt hs24) _⟩, ⟨B8n.out.move (Below.heap_setCell wn ⟨b17, 1, none⟩ _ _ (Nat.ne_of_lt hs24))⟩, ⟨blk_set B17n.out 1 (.slice An nn cn)⟩, ⟨Kd.R_far HNn.out (p := ⟨b17, 1, none⟩) (fun b hb => Nat.ne_of_lt hb.2) _⟩, ⟨Kd.R_far HVn.out (p := ⟨b17, 1, none⟩) (fun b hb => Nat.ne_of_gt (Nat.lt_of_lt_of_le hs5 hb)) _⟩⟩, by rw [HK1.out]; exact measure_ok hkl⟩
     ·obtain rfl := eq_of_not hk hkl
      obtain ⟨X1, x1, rfl, hx1, hX1⟩ := Kd.R_reads HV.out
      obtain ⟨Xa, xa, ea, hxa, hXa⟩ := Kd.R_reads HN.out
      obtain ⟨rfl, rfl⟩ := slice_same ea
      have L0 := Aside0.mk (⟨HBr.out, B8r.out, B17r.out, Kd.C_below K0.out HBr.out, Kd.C_below K1.out HBr.out, hXa, hX1, Kd.C_below KP.out HBr.out, hc0, hc1, hxa, hx1⟩ : LS w wr A0 c0 l0 A1 c1 l1 Ap ps w.heap.size b17 X0 x0 X1 x1 xs)
      have HSM := Aside0.mk (HT.out.same hxl)
      obtain ⟨W, hW⟩ : ∃ W, l0.map cvR = W := ⟨_, rfl⟩
      obtain ⟨R, hR⟩ : ∃ R, l1.map cvRd = R := ⟨_, rfl⟩
      obtain ⟨Rx, hRx⟩ : ∃ R, xs.map cvRd = R := ⟨_, rfl⟩
      rw [hR, hRx] at HSM
      have hWl := map_len hW ht0
      have HW := Aside0.mk hW
      have HR := Aside0.mk hR
      have HRx := Aside0.mk hRx
      clear hW hR hRx
      have hxs : xs.length ≤ 1000 := hxl ▸ le_b ht1
      have hpl := le_c hpb
      clear hxl hX1 hXa ea HV HN B8r B17r HBr HT h80 h81
      have hm0 := L0.out.b8.cell 0
      have hm1 := L0.out.b8.cell 1
      simp only [sb3, sb4] at hm0 hm1
      go_wp2_with fail
      refine (mapOf_calls l0 l1 _ L0.out.k0 L0.out.i0 L0.out.k1 L0.out.i1 (le_a ht0) (le_b ht1) HW.out HR.out).mono ?_
      rintro e w0_ ⟨⟨B0, d0, B1, d1, rfl, hM⟩, hb⟩
      have HM := Aside0.mk hM
      clear hM hm0 hm1
      have L1 := Aside0.mk (L0.out.later hb)
      clear hb L0
      go_wp2_with fail
      refine (Way_calls fr to_ HM.out).mono ?_
      rintro e w1_ ⟨⟨Aw, nw, cw, rfl⟩, hb⟩
      obtain ⟨⟨a1, a2⟩, aE⟩ : ∃ x, wayF W R fr to_ = x := ⟨_, rfl⟩
      rw [aE]
      have aE := Aside0.mk aE
      simp only
      clear HM
      have L2 := Aside0.mk (L1.out.later hb)
      clear hb L1
      have hm0 := L2.out.b17.cell 0
      have hm1 := L2.out.b17.cell 1
      simp only [sb3, sb4] at hm0 hm1
      go_wp2_with fail
      refine (mapOf_calls l0 xs _ L2.out.m0 L2.out.j0 L2.out.m1 L2.out.j1 (le_a ht0) hxs HW.out HRx.out).mono ?_
      rintro e w2_ ⟨⟨B0, d0, B1, d1, rfl, hM⟩, hb⟩
      have HM := Aside0.mk hM
      clear hM hm0 hm1
      have L3 := Aside0.mk (L2.out.later hb)
      clear hb L2
      go_wp2_with fail
      refine (Way_calls fr to_ HM.out).mono ?_
      rintro e w3_ ⟨⟨Aw, nw, cw, rfl⟩, hb⟩
      rw [HSM.out.way, aE.out]
      simp only
      clear HM
      have L4 := Aside0.mk (L3.out.later hb)
      clear hb L3
      have hm0 := L4.out.b8.cell 0
      have hm1 := L4.out.b8.cell 1
      simp only [sb3, sb4] at hm0 hm1
      go_wp2_with fail
      refine (mapOf_calls l0 l1 _ L4.out.k0 L4.out.i0 L4.out.k1 L4.out.i1 (le_a ht0) (le_b ht1) HW.out HR.out).mono ?_
      rintro e w4_ ⟨⟨B0, d0, B1, d1, rfl, hM⟩, hb⟩
      have HM := Aside0.mk hM
      clear hM hm0 hm1
      have L5 := Aside0.mk (L4.out.later hb)
      clear hb L4
      go_wp2_with fail
      refine (list_calls _ L5.out.kp hpl).mono ?_
      rintro e w5_ ⟨v_, rfl, hRl, hb⟩
      obtain ⟨Al, cl, rfl, hcl, hCl⟩ := Kd.R_reads hRl
      have HCL := Aside0.mk hCl
      have HM := Aside0.mk (HM.out.below hb)
      clear hRl hCl
      have L6 := Aside0.mk (L5.out.later hb)
      clear hb L5
      go_wp2_with fail
      refine (Tour_calls ps HCL.out hcl (lt_m hpl) HM.out).mono ?_
      rintro e w6_ ⟨⟨q1, q2, q3, q4, q5, q6, rfl⟩, hb⟩
      obtain ⟨⟨t1, t2⟩, tE⟩ : ∃ x, tourF W R ps = x := ⟨_, rfl⟩
      rw [tE]
      have tE := Aside0.mk tE
      simp only
      clear HM
      have L7 := Aside0.mk (L6.out.later hb)
      clear hb L6
      clear HCL hcl
      have hm0 := L7.out.b17.cell 0
      have hm1 := L7.out.b17.cell 1
      simp only [sb3, sb4] at hm0 hm1
      go_wp2_with fail
      refine (mapOf_calls l0 xs _ L7.out.m0 L7.out.j0 L7.out.m1 L7.out.j1 (le_a ht0) hxs HW.out HRx.out).mono ?_
      rintro e w7_ ⟨⟨B0, d0, B1, d1, rfl, hM⟩, hb⟩
      have HM := Aside0.mk hM
      clear hM hm0 hm1
      have L8 := Aside0.mk (L7.out.later hb)
      clear hb L7
      go_wp2_with fail
      refine (list_calls _ L8.out.kp hpl).mono ?_
      rintro e w8_ ⟨v_, rfl, hRl, hb⟩
      obtain ⟨Al, cl, rfl, hcl, hCl⟩ := Kd.R_reads hRl
      have HCL := Aside0.mk hCl
      have HM := Aside0.mk (HM.out.below hb)
      clear hRl hCl
      have L9 := Aside0.mk (L8.out.later hb)
      clear hb L8
      go_wp2_with fail
      refine (Tour_calls ps HCL.out hcl (lt_m hpl) HM.out).mono ?_
      rintro e w9_ ⟨⟨q1, q2, q3, q4, q5, q6, rfl⟩, hb⟩
      rw [HSM.out.tour, tE.out]
      simp only
      clear HM
      have L10 := Aside0.mk (L9.out.later hb)
      clear hb L9
      clear HCL hcl
      have hrl := Nat.le_trans (reach_len W R limit) hWl
      have hm0 := L10.out.b8.cell 0
      have hm1 := L10.out.b8.cell 1
      simp only [sb3, sb4] at hm0 hm1
      go_wp2_with fail
      refine (mapOf_calls l0 l1 _ L10.out.k0 L10.out.i0 L10.out.k1 L10.out.i1 (le_a ht0) (le_b ht1) HW.out HR.out).mono ?_
      rintro e w10_ ⟨⟨B0, d0, B1, d1, rfl, hM⟩, hb⟩
      have HM := Aside0.mk hM
      clear hM hm0 hm1
      have L11 := Aside0.mk (L10.out.later hb)
      clear hb L10
      go_wp2_with fail
      refine (Reach_calls limit HM.out).mono ?_
      rintro e w11_ ⟨⟨v_, rfl, hRl⟩, hb⟩
      obtain ⟨⟨r1, r2⟩, rE⟩ : ∃ x, reachF W R limit = x := ⟨_, rfl⟩
      rw [rE] at hRl hrl ⊢
      have rE := Aside0.mk rE
      simp only at hRl hrl ⊢
      obtain ⟨Ra, ca, rfl, hca, hCa⟩ := Kd.R_reads hRl
      have HCA := Aside0.mk hCa
      clear hRl hCa HM
      have L12 := Aside0.mk (L11.out.later hb)
      clear hb L11
      have hm0 := L12.out.b17.cell 0
      have hm1 := L12.out.b17.cell 1
      simp only [sb3, sb4] at hm0 hm1
      go_wp2_with fail
      refine (mapOf_calls l0 xs _ L12.out.m0 L12.out.j0 L12.out.m1 L12.out.j1 (le_a ht0) hxs HW.out HRx.out).mono ?_
      rintro e w12_ ⟨⟨B0, d0, B1, d1, rfl, hM⟩, hb⟩
      have HM := Aside0.mk hM
      have HCA := Aside0.mk (Kd.C_below HCA.out hb)
      clear hM hm0 hm1
      have L13 := Aside0.mk (L12.out.later hb)
      clear hb L12
      go_wp2_with fail
      refine (Reach_calls limit HM.out).mono ?_
      rintro e w13_ ⟨⟨v_, rfl, hRl⟩, hb⟩
      rw [HSM.out.reach, rE.out] at hRl ⊢
      simp only at hRl ⊢
      obtain ⟨Rb, cb, rfl, hcb, hCb⟩ := Kd.R_reads hRl
      have HCB := Aside0.mk hCb
      have HCA := Aside0.mk (Kd.C_below HCA.out hb)
      clear hRl hCb HM
      have L14 := Aside0.mk (L13.out.later hb)
      clear hb L13
      go_wp2_with fail
      refine (tithinglaw01_ints.calls (r1.length + 1) Ra ca r1 Rb cb r1 true _ HCA.out hca HCB.out hcb (ints_same r1 (lt_m hrl))).mono ?_
      rintro e w14_ ⟨rfl, hd⟩
      have hb := hd.below
      clear hd HCA HCB
      have L15 := Aside0.mk (L14.out.later hb)
      clear hb L14
      have hm0 := L15.out.b8.cell 0
      have hm1 := L15.out.b8.cell 1
      simp only [sb3, sb4] at hm0 hm1
      go_wp2_with fail
      refine (mapOf_calls l0 l1 _ L15.out.k0 L15.out.i0 L15.out.k1 L15.out.i1 (le_a ht0) (le_b ht1) HW.out HR.out).mono ?_
      rintro e w15_ ⟨⟨B0, d0, B1, d1, rfl, hM⟩, hb⟩
      have HM := Aside0.mk hM
      clear hM hm0 hm1
      have L16 := Aside0.mk (L15.out.later hb)
      clear hb L15
      go_wp2_with fail
      refine (Fewest_calls limit HM.out).mono ?_
      rintro e w16_ ⟨rfl, hb⟩
      obtain ⟨⟨g1, g2⟩, gE⟩ : ∃ x, fewF W R limit = x := ⟨_, rfl⟩
      rw [gE]
      have gE := Aside0.mk gE
      simp only
      clear HM
      have L17 := Aside0.mk (L16.out.later hb)
      clear hb L16
      have hm0 := L17.out.b17.cell 0
      have hm1 := L17.out.b17.cell 1
      simp only [sb3, sb4] at hm0 hm1
      go_wp2_with fail
      refine (mapOf_calls l0 xs _ L17.out.m0 L17.out.j0 L17.out.m1 L17.out.j1 (le_a ht0) hxs HW.out HRx.out).mono ?_
      rintro e w17_ ⟨⟨B0, d0, B1, d1, rfl, hM⟩, hb⟩
      have HM := Aside0.mk hM
      clear hM hm0 hm1
      have L18 := Aside0.mk (L17.out.later hb)
      clear hb L17
      go_wp2_with fail
      refine (Fewest_calls limit HM.out).mono ?_
      rintro e w18_ ⟨rfl, hb⟩
      rw [HSM.out.few, gE.out]
      simp only
      clear HM
      have L19 := Aside0.mk (L18.out.later hb)
      clear hb L18
      have hm0 := L19.out.b8.cell 0
      have hm1 := L19.out.b8.cell 1
      simp only [sb3, sb4] at hm0 hm1
      go_wp2_with fail
      refine (mapOf_calls l0 l1 _ L19.out.k0 L19.out.i0 L19.out.k1 L19.out.i1 (le_a ht0) (le_b ht1) HW.out HR.out).mono ?_
      rintro e w19_ ⟨⟨B0, d0, B1, d1, rfl, hM⟩, hb⟩
      have HM := Aside0.mk hM
      clear hM hm0 hm1
      have L20 := Aside0.mk (L19.out.later hb)
      clear hb L19
      go_wp2_with fail
      refine (Least_calls many HM.out).mono ?_
      rintro e w20_ ⟨rfl, hb⟩
      obtain ⟨⟨s1, s2⟩, sE⟩ : ∃ x, leastF W R many = x := ⟨_, rfl⟩
      rw [sE]
      have sE := Aside0.mk sE
      simp only
      clear HM
      have L21 := Aside0.mk (L20.out.later hb)
      clear hb L20
      have hm0 := L21.out.b17.cell 0
      have hm1 := L21.out.b17.cell 1
      simp only [sb3, sb4] at hm0 hm1
      go_wp2_with fail
      refine (mapOf_calls l0 xs _ L21.out.m0 L21.out.j0 L21.out.m1 L21.out.j1 (le_a ht0) hxs HW.out HRx.out).mono ?_
      rintro e w21_ ⟨⟨B0, d0, B1, d1, rfl, hM⟩, hb⟩
      have HM := Aside0.mk hM
      clear hM hm0 hm1
      have L22 := Aside0.mk (L21.out.later hb)
      clear hb L21
      go_wp2_with fail
      refine (Least_calls many HM.out).mono ?_
      rintro e w22_ ⟨rfl, hb⟩
      rw [HSM.out.least, sE.out]
      simp only
      clear HM
      have L23 := Aside0.mk (L22.out.later hb)
      clear hb L22
      go_wp2_with fail
      refine (awake_calls _).mono ?_
      rintro e w23_ ⟨rfl, hb⟩
      have L24 := Aside0.mk (L23.out.later hb)
      clear hb L23
      go_wp2_with fail
      go_ret
      exact ⟨rfl, L24.out.below⟩
  ·go_wp2_with fail
   refine (awake_calls _).mono ?_
   rintro e w3 ⟨rfl, hb3⟩
   have HB3 := Aside0.mk (HB2.out.trans (hb3.mono HB2.out.size))
   go_wp2_with fail
   go_ret
   exact ⟨rfl, HB3.out⟩
end Go.Proofs.Ytiddkceahbnolaa
