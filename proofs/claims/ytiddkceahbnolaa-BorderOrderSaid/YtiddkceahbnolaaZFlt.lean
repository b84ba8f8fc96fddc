/- border's law: what the reference's fault tells of the joins. -/
import Derived.Test.YtiddkceahbnolaaZMp
namespace Go.Proofs.Ytiddkceahbnolaa
open Go.RowKit Go.Shelf Go.Proofs.Ytiddkceahbnolaa.PBorderOrder Go.Proofs.YtiddkceahbnolaaW.PrintWords
set_option linter.all false
/-- All joins join streets. -/
def JV (n : Nat) (rj : List S62) (i : Nat) : Prop := ∀ j : Nat, i ≤ j → j < rj.length → (0 ≤ (rd_T62 rj (j : Int)).f0 ∧ (rd_T62 rj (j : Int)).f0 < n) ∧ (0 ≤ (rd_T62 rj (j : Int)).f1 ∧ (rd_T62 rj (j : Int)).f1 < n)
theorem In_eq (a b c : Int) : tithingref11_In.f a b c = some (decide (b ≤ a) && decide (a ≤ c)) := by
 unfold tithingref11_In.f
 by_cases h : b ≤ a
 ·rw [if_pos h]; simp [h]
 ·rw [if_neg h]; simp [h]
theorem wrap_pred (n : Nat) (h : n ≤ 1000) : wrap64 ((n : Int) - 1) = (n : Int) - 1 := IntWalk.wrap64_in _ (by omega)
theorem wrap_next (n : Nat) (h : n ≤ 1000) : wrap64 ((n : Int) + 1) = ((n + 1 : Nat) : Int) := by rw [IntWalk.wrap64_in _ (by omega)]; omega
section
variable (old : List Int) (nw : Int) (rs : List S118) (rj : List S62)
theorem flt_l3 (hs : rs.length ≤ 1000) (hj : rj.length ≤ 1000) : ∀ (d i : Nat), rj.length = i + d → ∃ k r, tithingref11_Fault.l3 k (i : Int) old nw rs rj = some r ∧ (r = 0 → JV rs.length rj i) := by
 intro d
 induction d with
 | zero =>
  intro i h
  refine ⟨1, 0, ?_, fun _ j h1 h2 => by omega⟩
  simp only [tithingref11_Fault.l3]
  rw [if_neg (by omega)]
 | succ d ih =>
  intro i h
  obtain ⟨k, r, hk, hv⟩ := ih (i + 1) (by omega)
  have e : ∀ k, tithingref11_Fault.l3 (k + 1) (i : Int) old nw rs rj = if (decide (0 ≤ (rd_T62 rj (i : Int)).f0) && decide ((rd_T62 rj (i : Int)).f0 ≤ (rs.length : Int) - 1)) = true then (if (decide (0 ≤ (rd_T62 rj (i : Int)).f1) && decide ((rd_T62 rj (i : Int)).f1 ≤ (rs.length : Int) - 1)) = true then (if (rd_T62 rj (i : Int)).f0 = (rd_T62 rj (i : Int)).f1 then some 1 else tithingref11_Fault.l3 k ((i + 1 : Nat) : Int) old nw rs rj) else some 1) else some 1 := by
   intro k
   simp only [tithingref11_Fault.l3]
   rw [if_pos (by omega), if_pos (by omega), wrap_pred _ hs, wrap_next _ (by omega), In_eq, In_eq]
   simp only [Option.bind_some]
  by_cases h0 : (decide (0 ≤ (rd_T62 rj (i : Int)).f0) && decide ((rd_T62 rj (i : Int)).f0 ≤ (rs.length : Int) - 1)) = true
  ·by_cases h1 : (decide (0 ≤ (rd_T62 rj (i : Int)).f1) && decide ((rd_T62 rj (i : Int)).f1 ≤ (rs.length : Int) - 1)) = true
   ·by_cases h2 : (rd_T62 rj (i : Int)).f0 = (rd_T62 rj (i : Int)).f1
    ·exact ⟨1, 1, by rw [e 0, if_pos h0, if_pos h1, if_pos h2], fun h => absurd h (by omega)⟩
    ·refine ⟨k + 1, r, by rw [e k, if_pos h0, if_pos h1, if_neg h2]; exact hk, fun hr j hj1 hj2 => ?_⟩
     by_cases hji : j = i
     ·subst hji
      simp only [Bool.and_eq_true, decide_eq_true_eq] at h0 h1
      exact ⟨⟨h0.1, by omega⟩, ⟨h1.1, by omega⟩⟩
     ·exact hv hr j (by omega) hj2
   ·exact ⟨1, 1, by rw [e 0, if_pos h0, if_neg h1], fun h => absurd h (by omega)⟩
  ·exact ⟨1, 1, by rw [e 0, if_neg h0], fun h => absurd h (by omega)⟩
theorem flt_l12 (ho : old.length ≤ 1000) (hs : rs.length ≤ 1000) (hj : rj.length ≤ 1000) : ∀ (D x5 : Nat), old.length = x5 + D → ∃ k r, tithingref11_Fault.l1 k (x5 : Int) old nw rs rj = some r ∧ (r = 0 → JV rs.length rj 0) := by
 intro D
 induction D with
 | zero =>
  intro x5 h
  obtain ⟨k, r, hk, hv⟩ := flt_l3 old nw rs rj hs hj rj.length 0 (by omega)
  refine ⟨k + 1, r, ?_, hv⟩
  simp only [tithingref11_Fault.l1]
  rw [if_neg (by omega)]
  exact hk
 | succ D ih =>
  intro x5 h
  obtain ⟨k, r, hk, hv⟩ := ih (x5 + 1) (by omega)
  have key : ∀ (d x7 : Nat) (x6 : Int), rs.length = x7 + d → ∃ k r, tithingref11_Fault.l2 k (x5 : Int) x6 (x7 : Int) old nw rs rj = some r ∧ (r = 0 → JV rs.length rj 0) := by
   intro d
   induction d with
   | zero =>
    intro x7 x6 h7
    have e : ∀ k, tithingref11_Fault.l2 (k + 1) (x5 : Int) x6 (x7 : Int) old nw rs rj = if (decide (0 ≤ rd old (x5 : Int)) && decide (rd old (x5 : Int) ≤ 10000)) = true then (if x6 = 0 then some 1 else tithingref11_Fault.l1 k ((x5 + 1 : Nat) : Int) old nw rs rj) else some 1 := by
     intro k
     simp only [tithingref11_Fault.l2]
     rw [if_neg (by omega), if_pos (by omega), if_pos (by omega), In_eq, wrap_next _ (by omega)]
     simp only [Option.bind_some]
    by_cases h0 : (decide (0 ≤ rd old (x5 : Int)) && decide (rd old (x5 : Int) ≤ 10000)) = true
    ·by_cases h1 : x6 = 0
     ·exact ⟨1, 1, by rw [e 0, if_pos h0, if_pos h1], fun h => absurd h (by omega)⟩
     ·exact ⟨k + 1, r, by rw [e k, if_pos h0, if_neg h1]; exact hk, hv⟩
    ·exact ⟨1, 1, by rw [e 0, if_neg h0], fun h => absurd h (by omega)⟩
   | succ d ih2 =>
    intro x7 x6 h7
    have e : ∀ k, tithingref11_Fault.l2 (k + 1) (x5 : Int) x6 (x7 : Int) old nw rs rj = if (rd_T118 rs (x7 : Int)).f0 = (x5 : Int) then tithingref11_Fault.l2 k (x5 : Int) (wrap64 (x6 + (rd_T118 rs (x7 : Int)).f2)) ((x7 + 1 : Nat) : Int) old nw rs rj else tithingref11_Fault.l2 k (x5 : Int) x6 ((x7 + 1 : Nat) : Int) old nw rs rj := by
     intro k
     simp only [tithingref11_Fault.l2]
     rw [if_pos (by omega), if_pos (by omega), wrap_next _ (by omega)]
    by_cases h0 : (rd_T118 rs (x7 : Int)).f0 = (x5 : Int)
    ·obtain ⟨k2, r2, hk2, hv2⟩ := ih2 (x7 + 1) (wrap64 (x6 + (rd_T118 rs (x7 : Int)).f2)) (by omega)
     exact ⟨k2 + 1, r2, by rw [e k2, if_pos h0]; exact hk2, hv2⟩
    ·obtain ⟨k2, r2, hk2, hv2⟩ := ih2 (x7 + 1) x6 (by omega)
     exact ⟨k2 + 1, r2, by rw [e k2, if_neg h0]; exact hk2, hv2⟩
  obtain ⟨k2, r2, hk2, hv2⟩ := key rs.length 0 0 (by omega)
  refine ⟨k2 + 1, r2, ?_, hv2⟩
  simp only [tithingref11_Fault.l1]
  rw [if_pos (by omega)]
  exact hk2
theorem flt_l0 (ho : old.length ≤ 1000) (hs : rs.length ≤ 1000) (hj : rj.length ≤ 1000) : ∀ (d i : Nat), rs.length = i + d → ∃ k r, tithingref11_Fault.l0 k (i : Int) old nw rs rj = some r ∧ (r = 0 → JV rs.length rj 0) := by
 intro d
 induction d with
 | zero =>
  intro i h
  obtain ⟨k, r, hk, hv⟩ := flt_l12 old nw rs rj ho hs hj old.length 0 (by omega)
  refine ⟨k + 1, r, ?_, hv⟩
  simp only [tithingref11_Fault.l0]
  rw [if_neg (by omega)]
  exact hk
 | succ d ih =>
  intro i h
  obtain ⟨k, r, hk, hv⟩ := ih (i + 1) (by omega)
  obtain ⟨b1, hb1⟩ : ∃ b, (decide (0 ≤ (rd_T118 rs (i : Int)).f0) && decide ((rd_T118 rs (i : Int)).f0 ≤ wrap64 ((old.length : Int) - 1))) = b := ⟨_, rfl⟩
  obtain ⟨b2, hb2⟩ : ∃ b, (decide (0 ≤ (rd_T118 rs (i : Int)).f1) && decide ((rd_T118 rs (i : Int)).f1 ≤ wrap64 (nw - 1))) = b := ⟨_, rfl⟩
  obtain ⟨b3, hb3⟩ : ∃ b, (decide (0 ≤ (rd_T118 rs (i : Int)).f2) && decide ((rd_T118 rs (i : Int)).f2 ≤ 1000)) = b := ⟨_, rfl⟩
  obtain ⟨b4, hb4⟩ : ∃ b, (decide (0 ≤ (rd_T118 rs (i : Int)).f3.f0) && decide ((rd_T118 rs (i : Int)).f3.f0 ≤ (rd_T118 rs (i : Int)).f3.f1)) = b := ⟨_, rfl⟩
  have e : ∀ k, tithingref11_Fault.l0 (k + 1) (i : Int) old nw rs rj = if b1 = true then (if b2 = true then (if b3 = true then (if b4 = true then (if (rd_T118 rs (i : Int)).f3.f1 > 10000 then some 1 else tithingref11_Fault.l0 k ((i + 1 : Nat) : Int) old nw rs rj) else some 1) else some 1) else some 1) else some 1 := by
   intro k
   simp only [tithingref11_Fault.l0]
   rw [if_pos (by omega), if_pos (by omega), wrap_next _ (by omega), In_eq, In_eq, In_eq, In_eq, hb1, hb2, hb3, hb4]
   simp only [Option.bind_some]
  cases b1 with
  | false => exact ⟨1, 1, by rw [e 0]; rfl, fun h => absurd h (by omega)⟩
  | true =>
   cases b2 with
   | false => exact ⟨1, 1, by rw [e 0]; rfl, fun h => absurd h (by omega)⟩
   | true =>
    cases b3 with
    | false => exact ⟨1, 1, by rw [e 0]; rfl, fun h => absurd h (by omega)⟩
    | true =>
     cases b4 with
     | false => exact ⟨1, 1, by rw [e 0]; rfl, fun h => absurd h (by omega)⟩
     | true =>
      by_cases h5 : (rd_T118 rs (i : Int)).f3.f1 > 10000
      ·exact ⟨1, 1, by rw [e 0, if_pos rfl, if_pos rfl, if_pos rfl, if_pos rfl, if_pos h5], fun h => absurd h (by omega)⟩
      ·exact ⟨k + 1, r, by rw [e k, if_pos rfl, if_pos rfl, if_pos rfl, if_pos rfl, if_neg h5]; exact hk, hv⟩
theorem flt_j1 (x : Bool) (ho : old.length ≤ 1000) (hs : rs.length ≤ 1000) (hj : rj.length ≤ 1000) : ∃ k r, tithingref11_Fault.j1 k x old nw rs rj = some r ∧ (r = 0 → JV rs.length rj 0) := by
 cases x with
 | true => exact ⟨1, 1, by simp only [tithingref11_Fault.j1]; rfl, fun h => absurd h (by omega)⟩
 | false =>
  obtain ⟨k, r, hk, hv⟩ := flt_l0 old nw rs rj ho hs hj rs.length 0 (by omega)
  exact ⟨k + 1, r, by simp only [tithingref11_Fault.j1]; rw [if_neg (by simp)]; exact hk, hv⟩
theorem flt_j0 (x : Bool) (ho : old.length ≤ 1000) (hs : rs.length ≤ 1000) (hj : rj.length ≤ 1000) : ∃ k r, tithingref11_Fault.j0 k x old nw rs rj = some r ∧ (r = 0 → JV rs.length rj 0) := by
 cases x with
 | true => exact ⟨1, 3, by simp only [tithingref11_Fault.j0]; rfl, fun h => absurd h (by omega)⟩
 | false =>
  by_cases h0 : (old.length : Int) = 0
  ·obtain ⟨k, r, hk, hv⟩ := flt_j1 old nw rs rj true ho hs hj
   exact ⟨k + 1, r, by simp only [tithingref11_Fault.j0]; rw [if_neg (by simp), if_pos h0]; exact hk, hv⟩
  ·obtain ⟨b, hb⟩ : ∃ b, (decide (1 ≤ nw) && decide (nw ≤ 4)) = b := ⟨_, rfl⟩
   have e : ∀ k, tithingref11_Fault.j0 (k + 1) false old nw rs rj = if b = true then tithingref11_Fault.j1 k ((rs.length : Int) == 0) old nw rs rj else tithingref11_Fault.j1 k true old nw rs rj := by
    intro k
    simp only [tithingref11_Fault.j0]
    rw [if_neg (by simp), if_neg h0, In_eq, hb]
    simp only [Option.bind_some]
   cases b with
   | true =>
    obtain ⟨k, r, hk, hv⟩ := flt_j1 old nw rs rj ((rs.length : Int) == 0) ho hs hj
    exact ⟨k + 1, r, by rw [e k, if_pos rfl]; exact hk, hv⟩
   | false =>
    obtain ⟨k, r, hk, hv⟩ := flt_j1 old nw rs rj true ho hs hj
    exact ⟨k + 1, r, by rw [e k, if_neg (by simp)]; exact hk, hv⟩
theorem fault11 (ho : old.length ≤ 1000) (hs : rs.length ≤ 1000) (hj : rj.length ≤ 1000) : ∃ k r, tithinglaw11_fault.f k old nw rs rj = some r ∧ (r = 0 → JV rs.length rj 0) := by
 have key : ∀ x : Bool, (∀ k, tithingref11_Fault.f k old nw rs rj = tithingref11_Fault.j0 k x old nw rs rj) → ∃ k r, tithinglaw11_fault.f k old nw rs rj = some r ∧ (r = 0 → JV rs.length rj 0) := by
  intro x hx
  obtain ⟨k, r, hk, hv⟩ := flt_j0 old nw rs rj x ho hs hj
  exact ⟨k, r, by unfold tithinglaw11_fault.f; rw [hx k, hk]; rfl, hv⟩
 by_cases h4 : (old.length : Int) > 4
 ·exact key true (fun k => by unfold tithingref11_Fault.f; rw [if_pos h4])
 ·by_cases h8 : (rs.length : Int) > 8
  ·exact key true (fun k => by unfold tithingref11_Fault.f; rw [if_neg h4, if_pos h8])
  ·exact key _ (fun k => by unfold tithingref11_Fault.f; rw [if_neg h4, if_neg h8])
end
theorem thin11 (old : List Int) (nw : Int) (rs : List S118) (rj : List S62) : tithinglaw11_Thin.f old nw rs rj = some (decide (old.length ≤ 7) && (decide (rs.length ≤ 11) && decide (rj.length ≤ 24))) := by
 unfold tithinglaw11_Thin.f
 by_cases h : old.length ≤ 7
 ·rw [if_pos (by omega)]
  by_cases h2 : rs.length ≤ 11
  ·rw [if_pos (by omega)]; simp [h, h2]; omega
  ·rw [if_neg (by omega)]; simp [h, h2]
 ·rw [if_neg (by omega)]; simp [h]
theorem ints_same (l : List Int) (hl : l.length ≤ 1000) : tithinglaw11_ints.f (l.length + 1) l l = some true := by
 have key : ∀ (d i : Nat), l.length = i + d → tithinglaw11_ints.l0 (d + 1) l l (i : Int) = some true := by
  intro d
  induction d with
  | zero => intro i h; simp only [tithinglaw11_ints.l0]; rw [if_neg (by omega)]
  | succ d ih =>
   intro i h
   have ih' := ih (i + 1) (by omega)
   generalize d + 1 = m at ih' ⊢
   simp only [tithinglaw11_ints.l0]
   rw [if_pos (by omega), if_pos (by omega), if_pos (by omega), wrap_next _ (by omega)]
   simp only [if_true]
   exact ih'
 unfold tithinglaw11_ints.f
 rw [if_pos rfl]
 exact key l.length 0 (by omega)
end Go.Proofs.Ytiddkceahbnolaa
