/- slices.Min of two numbers; border's smallest, both, low, high. -/
import Derived.Test.YtiddkceahbnolaaZCon
namespace Go.Proofs.Ytiddkceahbnolaa
open Go.RowKit Go.Shelf Go.Proofs.Ytiddkceahbnolaa.PBorderOrder Go.Proofs.YtiddkceahbnolaaW.PrintWords Go.Proofs.YtiddkceahbnolaaW.PrintLast
set_option linter.all false
/-- Eight numbers: for each street its new district. -/
def cellsL (l : Nat → Int) : List Value := [.int .i64 (l 0), .int .i64 (l 1), .int .i64 (l 2), .int .i64 (l 3), .int .i64 (l 4), .int .i64 (l 5), .int .i64 (l 6), .int .i64 (l 7)]
def encL (l : Nat → Int) : Value := .agg #[.int .i64 (l 0), .int .i64 (l 1), .int .i64 (l 2), .int .i64 (l 3), .int .i64 (l 4), .int .i64 (l 5), .int .i64 (l 6), .int .i64 (l 7)]
def updL (l : Nat → Int) (i : Nat) (v : Int) : Nat → Int := fun n => if n = i then v else l n
theorem cellsL_get (l : Nat → Int) : ∀ i, i < 8 → (cellsL l)[i]? = some (.int .i64 (l i))
 | 0, _ => rfl | 1, _ => rfl | 2, _ => rfl | 3, _ => rfl | 4, _ => rfl | 5, _ => rfl | 6, _ => rfl | 7, _ => rfl
theorem cellsL_set (l : Nat → Int) (v : Int) : ∀ i, i < 8 → (cellsL l).set i (.int .i64 v) = cellsL (updL l i v)
 | 0, _ => rfl | 1, _ => rfl | 2, _ => rfl | 3, _ => rfl | 4, _ => rfl | 5, _ => rfl | 6, _ => rfl | 7, _ => rfl
theorem Blk.set8 {w : World} {g : Nat} {t : TypeId} {a0 a1 a2 a3 a4 a5 a6 a7 : Value} (h : Blk w g [a0, a1, a2, a3, a4, a5, a6, a7] t) (b0 b1 b2 b3 b4 b5 b6 b7 : Value) :
  Blk ((((((((w.setCell ⟨g, 0, none⟩ b0).setCell ⟨g, 1, none⟩ b1).setCell ⟨g, 2, none⟩ b2).setCell ⟨g, 3, none⟩ b3).setCell ⟨g, 4, none⟩ b4).setCell ⟨g, 5, none⟩ b5).setCell ⟨g, 6, none⟩ b6).setCell ⟨g, 7, none⟩ b7) g [b0, b1, b2, b3, b4, b5, b6, b7] t := by
 have h0 : Blk (w.setCell ⟨g, 0, none⟩ b0) g [b0, a1, a2, a3, a4, a5, a6, a7] t := blk_set h 0 b0
 have h1 : Blk ((w.setCell ⟨g, 0, none⟩ b0).setCell ⟨g, 1, none⟩ b1) g [b0, b1, a2, a3, a4, a5, a6, a7] t := blk_set h0 1 b1
 have h2 : Blk (((w.setCell ⟨g, 0, none⟩ b0).setCell ⟨g, 1, none⟩ b1).setCell ⟨g, 2, none⟩ b2) g [b0, b1, b2, a3, a4, a5, a6, a7] t := blk_set h1 2 b2
 have h3 : Blk ((((w.setCell ⟨g, 0, none⟩ b0).setCell ⟨g, 1, none⟩ b1).setCell ⟨g, 2, none⟩ b2).setCell ⟨g, 3, none⟩ b3) g [b0, b1, b2, b3, a4, a5, a6, a7] t := blk_set h2 3 b3
 have h4 : Blk (((((w.setCell ⟨g, 0, none⟩ b0).setCell ⟨g, 1, none⟩ b1).setCell ⟨g, 2, none⟩ b2).setCell ⟨g, 3, none⟩ b3).setCell ⟨g, 4, none⟩ b4) g [b0, b1, b2, b3, b4, a5, a6, a7] t := blk_set h3 4 b4
 have h5 : Blk ((((((w.setCell ⟨g, 0, none⟩ b0).setCell ⟨g, 1, none⟩ b1).setCell ⟨g, 2, none⟩ b2).setCell ⟨g, 3, none⟩ b3).setCell ⟨g, 4, none⟩ b4).setCell ⟨g, 5, none⟩ b5) g [b0, b1, b2, b3, b4, b5, a6, a7] t := blk_set h4 5 b5
 have h6 : Blk (((((((w.setCell ⟨g, 0, none⟩ b0).setCell ⟨g, 1, none⟩ b1).setCell ⟨g, 2, none⟩ b2).setCell ⟨g, 3, none⟩ b3).setCell ⟨g, 4, none⟩ b4).setCell ⟨g, 5, none⟩ b5).setCell ⟨g, 6, none⟩ b6) g [b0, b1, b2, b3, b4, b5, b6, a7] t := blk_set h5 6 b6
 have h7 : Blk ((((((((w.setCell ⟨g, 0, none⟩ b0).setCell ⟨g, 1, none⟩ b1).setCell ⟨g, 2, none⟩ b2).setCell ⟨g, 3, none⟩ b3).setCell ⟨g, 4, none⟩ b4).setCell ⟨g, 5, none⟩ b5).setCell ⟨g, 6, none⟩ b6).setCell ⟨g, 7, none⟩ b7) g [b0, b1, b2, b3, b4, b5, b6, b7] t := blk_set h6 7 b7
 exact h7
theorem Blk.setAt {w : World} {g : Nat} {cs : List Value} {t : TypeId} (h : Blk w g cs t) (i : Nat) (v : Value) : Blk (w.setCell ⟨g, i, none⟩ v) g (cs.set i v) t := by
 have := blk_set h i v
 rw [List.setIfInBounds_toArray] at this
 exact this
theorem below_set8 {B : Nat} {a w : World} (h : Below B a w) {g : Nat} (hg : B ≤ g) (b0 b1 b2 b3 b4 b5 b6 b7 : Value) :
  Below B a ((((((((w.setCell ⟨g, 0, none⟩ b0).setCell ⟨g, 1, none⟩ b1).setCell ⟨g, 2, none⟩ b2).setCell ⟨g, 3, none⟩ b3).setCell ⟨g, 4, none⟩ b4).setCell ⟨g, 5, none⟩ b5).setCell ⟨g, 6, none⟩ b6).setCell ⟨g, 7, none⟩ b7) :=
 (((((((h.setCell (p := ⟨g, 0, none⟩) hg b0).setCell (p := ⟨g, 1, none⟩) hg b1).setCell (p := ⟨g, 2, none⟩) hg b2).setCell (p := ⟨g, 3, none⟩) hg b3).setCell (p := ⟨g, 4, none⟩) hg b4).setCell (p := ⟨g, 5, none⟩) hg b5).setCell (p := ⟨g, 6, none⟩) hg b6).setCell (p := ⟨g, 7, none⟩) hg b7
def ownL (ss : List S115) (i : Nat) : Int := if i < ss.length then (enc_rd_Street ss i).f1 else 0
def ownAt (ss : List S115) (k i : Nat) : Int := if i < k then (enc_rd_Street ss i).f1 else 0
theorem ownAt_succ (ss : List S115) (k : Nat) : ownAt ss (k + 1) = updL (ownAt ss k) k (enc_rd_Street ss k).f1 := by
 funext i
 show (if i < k + 1 then (enc_rd_Street ss i).f1 else 0) = if i = k then (enc_rd_Street ss k).f1 else (if i < k then (enc_rd_Street ss i).f1 else 0)
 by_cases h : i = k
 ·subst h
  rw [if_pos (by omega), if_pos rfl]
 ·rw [if_neg h]
  by_cases h2 : i < k
  ·rw [if_pos (by omega), if_pos h2]
  ·rw [if_neg (by omega), if_neg h2]
set_option maxRecDepth 100000 in
set_option maxHeartbeats 40000000 in
theorem own_calls {A0 : Option Addr} {c0 : Nat} {old : List Int} {nw : Int} {A2 : Option Addr} {c2 : Nat} {ss : List S115} {A3 : Option Addr} {c3 : Nat} {js : List S119} {w : World} (h : IsB w A0 c0 old A2 c2 ss A3 c3 js) (hss : ss.length ≤ 8) :
  Calls Try.prog 55 #[.agg #[.slice A0 old.length c0, .int .i64 nw, .slice A2 ss.length c2, .slice A3 js.length c3]] w fun e w' => e = .returned (encL (ownL ss)) ∧ Below w.heap.size w w' := by
 have H := Aside0.mk h
 clear h
 go_enter Try.func55, Try.ntmps55
 have h12 := ((Blk.new w [.slice A0 old.length c0, .int .i64 nw, .slice A2 ss.length c2, .slice A3 js.length c3] 69).alloc (.cells #[.int .i64 0, .int .i64 0, .int .i64 0, .int .i64 0, .int .i64 0, .int .i64 0, .int .i64 0, .int .i64 0] 121)).cell 2
 simp only [sb3, sb4] at h12
 go_wp2_with fail
 clear h12
 have HB0 := Aside0.mk (below_alloc (below_alloc (Below.refl w.heap.size w) (.cells #[.slice A0 old.length c0, .int .i64 nw, .slice A2 ss.length c2, .slice A3 js.length c3] 69)) (.cells #[.int .i64 0, .int .i64 0, .int .i64 0, .int .i64 0, .int .i64 0, .int .i64 0, .int .i64 0, .int .i64 0] 121))
 have B2 := Aside0.mk (show Blk _ (w.heap.size + 1) (cellsL (ownAt ss 0)) 121 by have hB := Blk.new (w.alloc (.cells #[.slice A0 old.length c0, .int .i64 nw, .slice A2 ss.length c2, .slice A3 js.length c3] 69)) [.int .i64 0, .int .i64 0, .int .i64 0, .int .i64 0, .int .i64 0, .int .i64 0, .int .i64 0, .int .i64 0] 121; simp only [World.size_alloc] at hB; exact hB)
 have hs0 : w.heap.size + 1 < ((w.alloc (.cells #[.slice A0 old.length c0, .int .i64 nw, .slice A2 ss.length c2, .slice A3 js.length c3] 69)).alloc (.cells #[.int .i64 0, .int .i64 0, .int .i64 0, .int .i64 0, .int .i64 0, .int .i64 0, .int .i64 0, .int .i64 0] 121)).heap.size := by simp
 generalize (w.alloc (.cells #[.slice A0 old.length c0, .int .i64 nw, .slice A2 ss.length c2, .slice A3 js.length c3] 69)).alloc (.cells #[.int .i64 0, .int .i64 0, .int .i64 0, .int .i64 0, .int .i64 0, .int .i64 0, .int .i64 0, .int .i64 0] 121) = w1 at HB0 B2 hs0 ⊢
 go_loopw [8] (fun v8 wr => ∃ k : Nat, k ≤ ss.length ∧ v8 = .int .i64 k ∧ Aside0 (Below w.heap.size w wr) ∧ Aside0 (Blk wr (w.heap.size + 1) (cellsL (ownAt ss k)) 121)) (fun v8 _ => ss.length - (intOf v8).toNat)
 case atStart => exact ⟨0, Nat.zero_le _, rfl, HB0, B2⟩
 case round =>
  clear HB0 B2 hs0
  obtain ⟨k, hk, rfl, HB, B2⟩ := hrel
  by_cases hkl : k < ss.length
  ·obtain ⟨ad, e, h0, h1, h2, h3, h4⟩ := at_T115 (H.out.below HB.out).kst (k : Int) (by omega) (by omega)
   cases e
   simp only [Int.toNat_natCast] at h0 h1 h2 h3 h4
   have hst := ownAt_succ ss k
   have hrr : enc_rd_Street ss k = rd_T115 ss (k : Int) := rfl
   rw [hrr] at hst
   obtain ⟨r, hr⟩ : ∃ r, rd_T115 ss (k : Int) = r := ⟨_, rfl⟩
   rw [hr] at h0 h1 h2 h3 h4 hst
   have HST := Aside0.mk hst
   have hk8 : (k : Int) < 8 := by omega
   have hc := B2.out.cell k
   have hcf := B2.out.frozen k
   rw [cellsL_get _ k (by omega)] at hc
   have hg2 := B2.out.lt
   clear hst hr hrr
   go_wp2_with fail
   exact ⟨⟨k + 1, by omega, rfl, ⟨below_alloc (HB.out.setCell (p := ⟨w.heap.size + 1, k, none⟩) (by simp only; omega) _) _⟩, ⟨by rw [HST.out, ← cellsL_set _ _ k (by omega)]; exact (B2.out.setAt k _).alloc _⟩⟩, by simp [intOf]; omega⟩
  ·obtain rfl : k = ss.length := by omega
   have hg2 := B2.out.lt
   have hc0 := B2.out.cell 0
   have hc1 := B2.out.cell 1
   have hc2 := B2.out.cell 2
   have hc3 := B2.out.cell 3
   have hc4 := B2.out.cell 4
   have hc5 := B2.out.cell 5
   have hc6 := B2.out.cell 6
   have hc7 := B2.out.cell 7
   have hf0 := B2.out.frozen 0
   have hf1 := B2.out.frozen 1
   have hf2 := B2.out.frozen 2
   have hf3 := B2.out.frozen 3
   have hf4 := B2.out.frozen 4
   have hf5 := B2.out.frozen 5
   have hf6 := B2.out.frozen 6
   have hf7 := B2.out.frozen 7
   rw [cellsL_get _ 0 (by decide)] at hc0
   rw [cellsL_get _ 1 (by decide)] at hc1
   rw [cellsL_get _ 2 (by decide)] at hc2
   rw [cellsL_get _ 3 (by decide)] at hc3
   rw [cellsL_get _ 4 (by decide)] at hc4
   rw [cellsL_get _ 5 (by decide)] at hc5
   rw [cellsL_get _ 6 (by decide)] at hc6
   rw [cellsL_get _ 7 (by decide)] at hc7
   go_wp2_with fail
   refine bodyPost_ret (results_cell_row rfl _ _ (w.heap.size + 1) 121 (cellsL (ownAt ss ss.length)).toArray (0, 0) _ rfl (B2.out.set8 _ _ _ _ _ _ _ _) Try.underlying121 rfl (by kernel_rfl)) rfl ?_
   exact ⟨rfl, below_set8 HB.out (by omega) _ _ _ _ _ _ _ _⟩
end Go.Proofs.Ytiddkceahbnolaa
namespace Go.Proofs.Ytiddkceahbnolaa
open Go.RowKit Go.Shelf Go.Proofs.Ytiddkceahbnolaa.PBorderOrder Go.Proofs.YtiddkceahbnolaaW.PrintWords Go.Proofs.YtiddkceahbnolaaW.PrintLast
set_option linter.all false
set_option maxRecDepth 100000 in
set_option maxHeartbeats 4000000 in
theorem Min_calls (g : Nat) (x y : Int) (w : World) (hx : w.cell? ⟨g, 0, none⟩ = some (.int .i64 x)) (hy : w.cell? ⟨g, 1, none⟩ = some (.int .i64 y)) :
  Calls Try.prog 78 #[.slice (some ⟨g, 0, none⟩) 2 2] w fun e w' => e = .returned (.int .i64 (min x y)) ∧ w' = w := by
 go_enter Try.func78, Try.ntmps78
 go_wp2_with fail
 go_loopw [3, 4] (fun v3 v4 wr => ((v3 = .int .i64 x ∧ v4 = .int .i64 1) ∨ (v3 = .int .i64 (min x y) ∧ v4 = .int .i64 2)) ∧ wr = w) (fun _ v4 _ => 2 - (intOf v4).toNat)
 case atStart => exact ⟨.inl ⟨rfl, rfl⟩, rfl⟩
 case round =>
  obtain ⟨⟨rfl, rfl⟩ | ⟨rfl, rfl⟩, rfl⟩ := hrel
  ·go_wp2_with fail
   have hmin : (if y < x then y else x) = min x y := by
    by_cases h : y < x
    ·rw [if_pos h]; omega
    ·rw [if_neg h]; omega
   exact ⟨⟨.inr ⟨by rw [hmin], rfl⟩, trivial⟩, by simp [intOf]⟩
  ·go_wp2_with fail
   go_ret
   exact ⟨rfl, rfl⟩
set_option maxRecDepth 100000 in
set_option maxHeartbeats 4000000 in
theorem smallest_calls (g : Nat) (x y : Int) (w : World) (hx : w.cell? ⟨g, 0, none⟩ = some (.int .i64 x)) (hy : w.cell? ⟨g, 1, none⟩ = some (.int .i64 y)) :
  Calls Try.prog 87 #[.slice (some ⟨g, 0, none⟩) 2 2] w fun e w' => e = .returned (.int .i64 (min x y)) ∧ w' = w := by
 go_enter Try.func87, Try.ntmps87
 go_wp2_with fail
 refine (Min_calls g x y w hx hy).mono ?_
 rintro e w' ⟨rfl, rfl⟩
 go_wp2_with fail
 go_ret
 exact ⟨rfl, rfl⟩
theorem low_calls (a b : Int) (w : World) : Calls Try.prog 110 #[.agg #[.int .i64 a, .int .i64 b]] w fun e w' => e = .returned (.int .i64 a) ∧ Below w.heap.size w w' := by
 go_enter Try.func110, Try.ntmps110
 go_wp2_with fail
 go_ret
 exact ⟨rfl, below_alloc (Below.refl _ _) _⟩
theorem high_calls (a b : Int) (w : World) : Calls Try.prog 111 #[.agg #[.int .i64 a, .int .i64 b]] w fun e w' => e = .returned (.int .i64 b) ∧ Below w.heap.size w w' := by
 go_enter Try.func111, Try.ntmps111
 go_wp2_with fail
 go_ret
 exact ⟨rfl, below_alloc (Below.refl _ _) _⟩
theorem both_calls (w : World) : Calls Try.prog 86 #[] w fun e w' => e = .returned (.tuple #[.agg #[.func (.func 110) #[] #[]], .agg #[.func (.func 111) #[] #[]]]) ∧ Below w.heap.size w w' := by
 go_enter Try.func86, Try.ntmps86
 go_wp2_with fail
 refine bodyPost_ret (results_cc rfl _ _ w.heap.size (w.heap.size + 1) 167 167 #[.func (.func 110) #[] #[]] #[.func (.func 111) #[] #[]] (0, 0) (0, 0) _ _ rfl ((Blk.new w [.func (.func 110) #[] #[]] 167).alloc (.cells #[.func (.func 111) #[] #[]] 167)) Try.underlying167 rfl (by kernel_rfl) rfl (by have hB := Blk.new (w.alloc (.cells #[.func (.func 110) #[] #[]] 167)) [.func (.func 111) #[] #[]] 167; simp only [World.size_alloc] at hB; exact hB) Try.underlying167 rfl (by kernel_rfl)) rfl ?_
 exact ⟨rfl, below_alloc (below_alloc (Below.refl _ _) _) _⟩
end Go.Proofs.Ytiddkceahbnolaa
