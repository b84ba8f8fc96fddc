/- walk's tour: the walk through its code. -/
import Derived.Test.YtiddkceahbnolaaWayP
import Derived.BigRegion
namespace Go.Proofs.Ytiddkceahbnolaa
open Go.RowKit Go.Shelf Go.Proofs.Ytiddkceahbnolaa.PWalkOrder Go.Proofs.YtiddkceahbnolaaW.PrintWords Go.Proofs.YtiddkceahbnolaaW.PrintLast
attribute [local go_sem] legField0 legField1
set_option linter.unusedVariables false
set_option linter.unusedSimpArgs false

theorem drop_sub_all : ∀ s : Fin 256, ∀ n : Fin 8, ∀ m : Fin 8, (dropBit s.1 n.1).testBit m.1 = true → s.1.testBit m.1 = true := by decide +kernel
theorem drop_sub {s n m : Nat} (hs : s < 256) (hn : n < 8) (h : m ∈ places (dropBit s n)) : m ∈ places s := by
 obtain ⟨h1, h2⟩ := places_mem.1 h
 exact places_mem.2 ⟨h1, drop_sub_all ⟨s, hs⟩ ⟨n, hn⟩ ⟨m, h1⟩ h2⟩
theorem AtlS.other {w0 w : World} {A0 : Option Addr} {c0 : Nat} {Wk : List S77} {A1 : Option Addr} {c1 : Nat} {R : List S94} {ga mb : Nat} {T F : Nat → Nat → Int} (h : AtlS w0 w A0 c0 Wk A1 c1 R ga mb T F) {p : Addr} (h0 : w0.heap.size ≤ p.block) (h1 : p.block ≠ ga) (h2 : p.block ≠ mb) (u : Value) : AtlS w0 (w.setCell p u) A0 c0 Wk A1 c1 R ga mb T F :=
 ⟨h.map, h.below.setCell h0 u, h.lo, h.atl.other h1 h2 u⟩

set_option maxRecDepth 100000 in
set_option maxHeartbeats 40000000 in
theorem tour_calls {w0 w : World} {A0 : Option Addr} {c0 : Nat} {Wk : List S77} {A1 : Option Addr} {c1 : Nat} {R : List S94} {ga mb : Nat} {T F : Nat → Nat → Int} (hN : Wk.length ≤ 8) (hN0 : 0 < Wk.length) (hT : Bounded2 T) (hF : WayOk T F Wk.length) (s : Nat) (hs : s < 256) (hp : ∀ p ∈ places s, p < Wk.length) (hlt : (rest T 0 s).1 < 1048576) (h : AtlS w0 w A0 c0 Wk A1 c1 R ga mb T F) :
  Calls Try.prog 38 #[.pointer (some ⟨ga, 0, none⟩), .int .i64 s] w fun e w' => (∃ a1 n1 d1 a2 n2 d2, e = .returned (.agg #[.slice a1 n1 d1, .slice a2 n2 d2])) ∧ AtlS w0 w' A0 c0 Wk A1 c1 R ga mb T F ∧ Keep w.heap.size (fun b => b = mb) w w' := by
 have HT := Aside0.mk hT
 have HF := Aside0.mk hF
 have HP := Aside0.mk hp
 have HL := Aside0.mk hlt
 have HA := Aside0.mk h
 have hga := h.atl.atl.lt
 have hmb := h.atl.memo.lt
 have hw0 := h.gt
 clear hT hF hp hlt h
 go_enter Try.func38, Try.ntmps38
 go_wp2_with ((with_reducible refine gate_dst (N := 8) rfl ?_); refine Kd.R_lit (Kd.int .i64) _ 3 ?hg (N := 8) ?hd (xs := ([(0 : Int)] : List Int)) (inner := [.int .i64 (0 : Int)]) (ok := (fun k => w.heap.size ≤ k)) (okp := (fun k => w.heap.size ≤ k)) ?hr ?hp (fun _ hk => hk) (by simp) (Below.refl _ _) (Nat.le_refl _) (by simp) ?_; (case hd => rfl); (case hg => rfl); (case hr => first | (go_simp; done) | (go_simp; rfl)); (case hp => exact (Reps.one (show Kd.M (Kd.int .i64) _ _ _ (0 : Int) [.int .i64 (0 : Int)] from rfl) (Reps.none _ _))); intro v1 w1 hr1 hb1 hg1 hat1)
 have hs1 : (w.alloc (.cells #[.slice none 0 0, .slice none 0 0] 44)).heap.size = w.heap.size + 1 := by simp
 rw [hs1] at hr1 hb1 hat1
 have HA1 := Aside0.mk (((HA.out.later (below_alloc (Below.refl _ _) (.cells #[.slice none 0 0, .slice none 0 0] 44))).later (by rw [hs1]; exact hb1)).later (below_alloc (Below.refl _ _) (.cells #[.int .i64 0, .int .i64 s] 156)))
 have B4 := Aside0.mk (((Blk.new w [.slice none 0 0, .slice none 0 0] 44).below (by rw [hs1]; exact hb1)).alloc (.cells #[.int .i64 0, .int .i64 s] 156))
 have B6 := Aside0.mk (Blk.new w1 [.int .i64 0, .int .i64 s] 156)
 have hw1 := hb1.size
 rw [hs1] at hw1
 have KW := Aside0.mk ((((Keep.refl w.heap.size (fun b => b = mb) w).alloc (Nat.le_refl _) (.cells #[.slice none 0 0, .slice none 0 0] 44)).trans (Keep.of_below hb1 (by omega))).alloc (by omega) (.cells #[.int .i64 0, .int .i64 s] 156))
 obtain ⟨g6, hg6⟩ : ∃ g, w1.heap.size = g := ⟨_, rfl⟩
 have HRr := Aside0.mk (Kd.R_alloc (Kd.R_mono (ok' := fun k => w.heap.size < k ∧ k ≠ g6) (Kd.R_bound hr1) (fun k hk => ⟨by have := hk.2.1; omega, by have := hk.2.2.1; omega⟩)) (.cells #[.int .i64 0, .int .i64 s] 156))
 rw [hg6] at B6 hw1 ⊢
 have hsz : (w1.alloc (.cells #[.int .i64 0, .int .i64 s] 156)).heap.size = g6 + 1 := by simp [hg6]
 clear hs1 hr1 hb1 hg1 hat1 hg6 HA
 generalize w1.alloc (.cells #[.int .i64 0, .int .i64 s] 156) = ws at HA1 B4 B6 KW HRr hsz ⊢
 go_loopw [5] (fun v5 wr => ∃ (a l : Nat) (xs : List Int), l < 256 ∧ a < Wk.length ∧ (∀ p ∈ places l, p < Wk.length) ∧ (rest T a l).1 < 1048576 ∧ (xs.length + 1048577 * l ≤ 1 + 1048577 * 256) ∧ g6 < wr.heap.size ∧ Aside0 (AtlS w0 wr A0 c0 Wk A1 c1 R ga mb T F) ∧ Aside0 (Blk wr w.heap.size [.slice none 0 0, .slice none 0 0] 44) ∧ Aside0 (Blk wr g6 [.int .i64 a, .int .i64 l] 156) ∧ Aside0 (Keep w.heap.size (fun b => b = mb) w wr) ∧ Aside0 ((Kd.int .i64).R 3 wr (w.heap.size + 1) (fun k => w.heap.size < k ∧ k ≠ g6) v5 xs)) (fun _ wr => (intOf ((wr.cell? ⟨g6, 1, none⟩).getD undef)).toNat)
 case atStart => exact ⟨0, s, [(0 : Int)], hs, hN0, HP.out, HL.out, by simp only [List.length_cons, List.length_nil]; omega, by omega, HA1, B4, B6, KW, HRr⟩
 case round =>
  clear HA1 B4 B6 KW HRr hsz HP HL
  obtain ⟨a, l, xs, hl, ha, hp, hlt, hxl, hg6, HA, B4, B6, KW, HRr⟩ := hrel
  have h60 := B6.out.cell 0
  have h61 := B6.out.cell 1
  simp only [sb3, sb4] at h60 h61
  have HM0 := Aside0.mk (show (intOf ((wr.cell? ⟨g6, 1, none⟩).getD undef)).toNat = l by rw [h61]; simp [intOf])
  obtain ⟨n, hnN, hn, hTn, hnx⟩ : ∃ n : Nat, n < Wk.length ∧ (rest T a l).2 = (n : Int) ∧ T a n < 1048576 ∧ (l ≠ 0 → n ∈ places l ∧ (rest T n (dropBit l n)).1 < 1048576) := by
   by_cases e : l = 0
   ·subst e
    exact ⟨0, hN0, rfl, hlt, fun h => absurd rfl h⟩
   ·obtain ⟨n, h1, h2, h3⟩ := rest_next HT.out a l e hlt
    have h4 := HT.out a n
    have h5 := (rest_bound HT.out n (dropBit l n)).1
    exact ⟨n, hp n h1, h2, by omega, fun _ => ⟨h1, by omega⟩⟩
  obtain ⟨r0, hr⟩ : ∃ x, (rest T a l).1 = x := ⟨_, rfl⟩
  have hrest : encLeg (rest T a l) = .agg #[.int .i64 r0, .int .i64 n] := by unfold encLeg; rw [hn, hr]
  have HPR := Aside0.mk hp
  have HNX := Aside0.mk hnx
  clear hp hnx
  go_wp2_with fail
  refine (rest_calls HT.out l hl a (by omega) wr HA.out.atl).mono ?_
  rintro e w2 ⟨rfl, hA2, hK2⟩
  rw [hrest]
  have hm4 := B4.out.lt
  have hmb2 : mb < wr.heap.size := HA.out.atl.memo.lt
  have hmbw : mb < w.heap.size := hmb
  have HA2 := Aside0.mk (HA.out.keep HA.out.gt hK2 hA2)
  have B42 := Aside0.mk (B4.out.move (hK2.block _ (by omega) (by omega)))
  have hg6m : g6 ≠ mb := by omega
  have B62 := Aside0.mk (B6.out.move (hK2.block _ (by omega) (by omega)))
  have KW2 := Aside0.mk (KW.out.trans (hK2.mono KW.out.size (fun _ _ h => h)))
  have HR2 := Aside0.mk (Kd.R_step HRr.out (fun k hk hlt => hK2.block k hlt (by have := hk.1; omega)))
  have hsz2 := hK2.size
  clear hA2 hK2 HA B4 B6 KW HRr h60 h61 hrest
  have h60 := B62.out.cell 0
  have h61 := B62.out.cell 1
  simp only [sb3, sb4] at h60 h61
  go_wp2_with fail
  refine (way_calls hN HT.out HF.out a n ha hnN hTn w2 HA2.out.atl).mono ?_
  rintro e w3 ⟨vy, ys, rfl, hRy, hy0, hyl, hb3⟩
  obtain ⟨Ay, cy, rfl, hcy, hCy⟩ := Kd.R_reads hRy
  have hcd := Kd.C_drop (m := 1) hCy (by omega) hcy
  obtain ⟨i3, hi3, hi3z⟩ := Option.map_eq_some_iff.1 info3
  simp only [Prod.mk.injEq] at hi3z
  have hcut := cut_from (P := Try.prog) 26 3 .i64 Try.underlying26 hi3 1 hi3z.2.1 Ay ys.length cy 1 (by omega) (by omega)
  simp only [Int.toNat_one] at hcut
  have hcd2 : (Kd.int .i64).C w3 (if cy = 1 then Ay else Option.map (fun x => x.add (1 * 1)) Ay) (ys.length - 1) (ys.drop 1) := by
   rw [List.length_drop] at hcd
   exact hcd
  clear hcd
  generalize (if cy = 1 then Ay else Option.map (fun x => x.add (1 * 1)) Ay) = Ad at hcd2 hcut
  have HC3 := Aside0.mk hcd2
  have HA3 := Aside0.mk (HA2.out.later hb3)
  have B43 := Aside0.mk (B42.out.below hb3)
  have B63 := Aside0.mk (B62.out.below hb3)
  have KW3 := Aside0.mk (KW2.out.trans (Keep.of_below (S := fun b => b = mb) hb3 KW2.out.size))
  have HR3 := Aside0.mk (Kd.R_below HR2.out hb3)
  have hsz3 := hb3.size
  have hg63 : g6 < w3.heap.size := by omega
  have hw3 : w.heap.size < w3.heap.size := by omega
  clear hcd2 hi3 hi3z hRy hCy hb3 HA2 B42 B62 KW2 HR2 h60 h61
  by_cases hl0 : l = 0
  ·have hl0b : ((l : Int) == 0) = true := by simp [hl0]
   go_wp2_with ((with_reducible refine gate_builtin (b := .append) (xs := #[.tmp 15, .tmp 21]) rfl ?_); refine Kd.R_append_rows (Kd.int .i64) (w.heap.size + 1) rfl (.tmp 15) (.tmp 21) 26 3 (.int .i64 0) 8 rfl Try.underlying26 info3 rfl (by decide) (by omega) u5 xs (ys.drop 1) _ _ _ (fun k => w.heap.size < k ∧ k ≠ g6) (fun _ => False) rfl rfl HR3.out HC3.out (fun x cs h => h) (fun _ hk => hk.elim) ?aF (Below.refl _ _) ?aS ?aL ?_; (case aF => exact (fun k hk => by constructor <;> omega)); (case aS => omega); (case aL => omega); intro vn wn hon hbn hgn hatn; have HAn := Aside0.mk (HA3.out.keep (n := w.heap.size + 1) (by omega) (Keep.of_below (S := fun b => b = mb) hbn (Nat.le_refl _)) ⟨HA3.out.atl.atl.move (hbn.block ga (by omega)), HA3.out.atl.memo.move (hbn.block mb (by omega)), HA3.out.atl.ne⟩); have B4n := Aside0.mk (B43.out.move (hbn.block _ (by omega))); have B6n := Aside0.mk (B63.out.move (hgn.block g6 hg63 (fun e => (HR3.out.1 g6 e.symm).2 rfl))); have KWn := Aside0.mk (KW3.out.trans (Keep.of_below (S := fun b => b = mb) hbn (by omega))); have HRn := Aside0.mk hon; have hszn := hbn.size; clear hon hbn hgn hatn HA3 B43 B63 KW3 HR3 HC3 hcut; have h60 := B6n.out.cell 0; have h61 := B6n.out.cell 1; have h60f := B6n.out.frozen 0; have h61f := B6n.out.frozen 1; have h40 := B4n.out.cell 0; have h41 := B4n.out.cell 1; have h40f := B4n.out.frozen 0; have h41f := B4n.out.frozen 1; simp only [sb3, sb4] at h60 h61 h40 h41)
   clear h60 h61 h60f h61f h40 h41 h40f h41f
   refine (walk_set_list.calls 9 s _ wn (list_ok hs)).mono ?_
   rintro e w5 ⟨v_, rfl, hRl, hbl⟩
   obtain ⟨Al, cl, rfl, hcl, _⟩ := ints_of_R hRl
   obtain ⟨An, cn, rfl, hcn, _⟩ := Kd.R_reads HRn.out
   have HA5 := Aside0.mk (HAn.out.later hbl)
   have B45 := Aside0.mk (B4n.out.below hbl)
   have KW5 := Aside0.mk (KWn.out.trans (Keep.of_below (S := fun b => b = mb) hbl KWn.out.size))
   clear hRl hbl HAn B4n B6n KWn HRn
   have h40 := B45.out.cell 0
   have h41 := B45.out.cell 1
   have h40f := B45.out.frozen 0
   have h41f := B45.out.frozen 1
   simp only [sb3, sb4] at h40 h41
   go_wp2_with fail
   refine bodyPost_ret (results_cell_row rfl _ _ w.heap.size 44 #[.slice An _ cn, .slice Al _ cl] (0, 0) _ rfl (B45.out.set2 _ _) Try.underlying44 rfl (by kernel_rfl)) rfl ?_
   exact ⟨⟨_, _, _, _, _, _, rfl⟩, (HA5.out.other (p := ⟨w.heap.size, 0, none⟩) (by simp only; omega) (by simp only; omega) (by simp only; omega) _).other (p := ⟨w.heap.size, 1, none⟩) (by simp only; omega) (by simp only; omega) (by simp only; omega) _, (KW5.out.setCell (p := ⟨w.heap.size, 0, none⟩) (.inr (by simp only; omega)) _).setCell (p := ⟨w.heap.size, 1, none⟩) (.inr (by simp only; omega)) _⟩
  ·have hl0b : ((l : Int) == 0) = false := by simp [hl0]
   obtain ⟨hnm, hrn⟩ := HNX.out hl0
   have hn8 := (places_mem.1 hnm).1
   have hdl := drop_lt hnm
   have hdrop := drop_ok hl hn8
   go_wp2_with ((with_reducible refine gate_builtin (b := .append) (xs := #[.tmp 15, .tmp 21]) rfl ?_); refine Kd.R_append_rows (Kd.int .i64) (w.heap.size + 1) rfl (.tmp 15) (.tmp 21) 26 3 (.int .i64 0) 8 rfl Try.underlying26 info3 rfl (by decide) (by omega) u5 xs (ys.drop 1) _ _ _ (fun k => w.heap.size < k ∧ k ≠ g6) (fun _ => False) rfl rfl HR3.out HC3.out (fun x cs h => h) (fun _ hk => hk.elim) ?aF (Below.refl _ _) ?aS ?aL ?_; (case aF => exact (fun k hk => by constructor <;> omega)); (case aS => omega); (case aL => omega); intro vn wn hon hbn hgn hatn; have HAn := Aside0.mk (HA3.out.keep (n := w.heap.size + 1) (by omega) (Keep.of_below (S := fun b => b = mb) hbn (Nat.le_refl _)) ⟨HA3.out.atl.atl.move (hbn.block ga (by omega)), HA3.out.atl.memo.move (hbn.block mb (by omega)), HA3.out.atl.ne⟩); have B4n := Aside0.mk (B43.out.move (hbn.block _ (by omega))); have B6n := Aside0.mk (B63.out.move (hgn.block g6 hg63 (fun e => (HR3.out.1 g6 e.symm).2 rfl))); have KWn := Aside0.mk (KW3.out.trans (Keep.of_below (S := fun b => b = mb) hbn (by omega))); have HRn := Aside0.mk hon; have hszn := hbn.size; clear hon hbn hgn hatn HA3 B43 B63 KW3 HR3 HC3 hcut; have h60 := B6n.out.cell 0; have h61 := B6n.out.cell 1; have h60f := B6n.out.frozen 0; have h61f := B6n.out.frozen 1; have h40 := B4n.out.cell 0; have h41 := B4n.out.cell 1; have h40f := B4n.out.frozen 0; have h41f := B4n.out.frozen 1; simp only [sb3, sb4] at h60 h61 h40 h41)
   go_region
   have B6f := Aside0.mk (B6n.out.set2 (.int .i64 n) (.int .i64 (dropBit l n : Int)))
   have hwg : w.heap.size < g6 := by omega
   go_wp2_with fail
   go_roundw
   case rel =>
    refine ⟨n, dropBit l n, xs ++ ys.drop 1, by omega, hnN, fun p hp => HPR.out p (drop_sub hl hn8 hp), hrn, ?_, ?_, ⟨?_⟩, ⟨?_⟩, ⟨B6f.out⟩, ⟨?_⟩, ⟨?_⟩⟩
    ·simp only [List.length_append, List.length_drop]; omega
    ·show g6 < ((wn.setCell _ _).setCell _ _).heap.size
     simp only [World.setCell, Array.size_modify]
     omega
    ·exact ((HAn.out.other (p := ⟨g6, 0, none⟩) (by simp only; omega) (by simp only; omega) (by simp only; omega) _).other (p := ⟨g6, 1, none⟩) (by simp only; omega) (by simp only; omega) (by simp only; omega) _).drew
    ·exact (B4n.out.move (Below.heap_setCell _ _ _ _ (by simp only; omega))).move (w := wn.setCell ⟨g6, 0, none⟩ _) (Below.heap_setCell _ _ _ _ (by simp only; omega))
    ·exact ((KWn.out.setCell (p := ⟨g6, 0, none⟩) (.inr (by simp only; omega)) _).setCell (p := ⟨g6, 1, none⟩) (.inr (by simp only; omega)) _).drew
    ·exact Kd.R_drew (Kd.R_far (Kd.R_far HRn.out (p := ⟨g6, 0, none⟩) (fun k hk => hk.2) _) (p := ⟨g6, 1, none⟩) (fun k hk => hk.2) _)
   case measure =>
    have h61' := B6f.out.cell 1
    simp only [sb3, sb4] at h61'
    have h62 : ((wn.setCell ⟨g6, 0, none⟩ (.int .i64 n)).setCell ⟨g6, 1, none⟩ (.int .i64 (dropBit l n : Int))).drew.cell? ⟨g6, 1, none⟩ = some (.int .i64 (dropBit l n : Int)) := h61'
    rw [HM0.out, h62]
    simp [intOf]
    omega
end Go.Proofs.Ytiddkceahbnolaa
