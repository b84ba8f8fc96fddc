/- What the law's own functions answer, and that roads in another order change no answer (plain). -/
import Derived.Test.YtiddkceahbnolaaDvd
import Derived.Test.YtiddkceahbnolaaAwk
namespace Go.Proofs.Ytiddkceahbnolaa
set_option linter.all false
open Go.RowKit Go.Proofs.Ytiddkceahbnolaa.PWalkOrder Go.Proofs.YtiddkceahbnolaaW.PrintWords
set_option linter.unusedVariables false
set_option linter.unusedSimpArgs false

def flipR (r : S94) : S94 := ⟨r.f1, r.f0, r.f2⟩
def normR (r : S94) : S94 := if r.f0 ≤ r.f1 then r else flipR r
theorem norm_cases (r : S94) : normR r = r ∨ normR r = flipR r := by
 unfold normR
 split
 ·exact .inl rfl
 ·exact .inr rfl
theorem norm_flip (r : S94) : normR (flipR r) = normR r := by
 unfold normR
 by_cases h : r.f0 ≤ r.f1
 ·rw [if_pos h]
  by_cases h' : (flipR r).f0 ≤ (flipR r).f1
  ·rw [if_pos h']
   have : r.f0 = r.f1 := by have : r.f1 ≤ r.f0 := h'; omega
   cases r
   simp only at this
   subst this
   rfl
  ·rw [if_neg h']
   rfl
 ·rw [if_neg h, if_pos (show (flipR r).f0 ≤ (flipR r).f1 from (show r.f1 ≤ r.f0 by omega))]
/-- What is said of a road alone. -/
def locB (N : Nat) (r : S94) : Bool := placeB N r.f0 && (placeB N r.f1 && (!(r.f0 == r.f1) && insideB r.f2.f0 r.f2.f1 1 50))
theorem loc_flip (N : Nat) (r : S94) : locB N (flipR r) = locB N r := by
 have e : (r.f1 == r.f0) = (r.f0 == r.f1) := Bool.beq_comm
 unfold locB
 show (placeB N r.f1 && (placeB N r.f0 && (!(r.f1 == r.f0) && insideB r.f2.f0 r.f2.f1 1 50))) = _
 rw [e]
 cases placeB N r.f0 <;> cases placeB N r.f1 <;> rfl
theorem loc_norm (N : Nat) (r : S94) : locB N (normR r) = locB N r := by
 rcases norm_cases r with h | h
 ·rw [h]
 ·rw [h, loc_flip]
/-- Two roads that do not join the same places. -/
def NJ (r s : S94) : Prop := joinsB r s.f0 s.f1 = false
theorem joins_iff (r s : S94) : joinsB r s.f0 s.f1 = true ↔ (r.f0 = s.f0 ∧ r.f1 = s.f1) ∨ (r.f0 = s.f1 ∧ r.f1 = s.f0) := by
 unfold joinsB
 simp only [Bool.or_eq_true, Bool.and_eq_true, beq_iff_eq]
theorem NJ_iff (r s : S94) : NJ r s ↔ ¬ ((r.f0 = s.f0 ∧ r.f1 = s.f1) ∨ (r.f0 = s.f1 ∧ r.f1 = s.f0)) := by
 unfold NJ
 rw [← joins_iff]
 simp
theorem NJ_symm {r s : S94} (h : NJ r s) : NJ s r := by
 rw [NJ_iff] at h ⊢
 omega
theorem NJ_flipl (r s : S94) : NJ (flipR r) s ↔ NJ r s := by
 rw [NJ_iff, NJ_iff]
 show ¬ ((r.f1 = s.f0 ∧ r.f0 = s.f1) ∨ (r.f1 = s.f1 ∧ r.f0 = s.f0)) ↔ _
 omega
theorem NJ_norml (r s : S94) : NJ (normR r) s ↔ NJ r s := by
 rcases norm_cases r with h | h
 ·rw [h]
 ·rw [h, NJ_flipl]
theorem NJ_norm (r s : S94) : NJ (normR r) (normR s) ↔ NJ r s := by
 rw [NJ_norml]
 constructor
 ·intro h; exact NJ_symm ((NJ_norml s r).1 (NJ_symm h))
 ·intro h; exact NJ_symm ((NJ_norml s r).2 (NJ_symm h))

theorem fi_at {α : Type} (p : α → Bool) : ∀ (xs : List α) (i k : Nat) (hk : k < xs.length), p xs[k] = true → (fi p xs i = ((i + k : Nat) : Int) ↔ ∀ (j : Nat) (hj : j < k), p (xs[j]'(by omega)) = false) := by
 intro xs
 induction xs with
 | nil => intro i k hk; simp at hk
 | cons x xs ih =>
  intro i k hk hp
  unfold fi
  cases k with
  | zero =>
   have hp' : p x = true := hp
   rw [if_pos hp']
   simp
  | succ k =>
   have hk' : k < xs.length := by simpa using hk
   have hp' : p xs[k] = true := hp
   by_cases hx : p x = true
   ·rw [if_pos hx]
    constructor
    ·intro h; omega
    ·intro h
     have := h 0 (by omega)
     simp [hx] at this
   ·rw [if_neg hx]
    have := ih (i + 1) k hk' hp'
    rw [show i + (k + 1) = i + 1 + k by omega, this]
    constructor
    ·intro h j hj
     cases j with
     | zero => simpa using hx
     | succ j => exact h j (by omega)
    ·intro h j hj
     exact h (j + 1) (by omega)

theorem roadsB_iff (W : List S77) (R : List S94) : roadsB W R = true ↔ (∀ r ∈ R, locB W.length r = true) ∧ R.Pairwise NJ := by
 have hk : ∀ k (hk : k < R.length), okRoad W R k = true ↔ locB W.length R[k] = true ∧ ∀ (j : Nat) (hj : j < k), NJ (R[j]'(by omega)) R[k] := by
  intro k hk
  have e : enc_rd_Road R k = R[k] := by simp [enc_rd_Road, rd_T94, List.getD, hk]
  unfold okRoad
  rw [e]
  have hj : joinsB R[k] R[k].f0 R[k].f1 = true := (joins_iff _ _).2 (.inl ⟨rfl, rfl⟩)
  have := fi_at (fun r => joinsB r R[k].f0 R[k].f1) R 0 k hk hj
  rw [Nat.zero_add] at this
  have e2 : (roadI R R[k].f0 R[k].f1 == (k : Int)) = true ↔ ∀ (j : Nat) (hj : j < k), NJ (R[j]'(by omega)) R[k] := by
   rw [beq_iff_eq]
   exact this
  unfold locB
  simp only [Bool.and_eq_true] at e2 ⊢
  rw [e2]
  constructor
  ·rintro ⟨a, b, c, d, e⟩; exact ⟨⟨a, b, c, d⟩, e⟩
  ·rintro ⟨⟨a, b, c, d⟩, e⟩; exact ⟨a, b, c, d, e⟩
 unfold roadsB
 rw [List.all_eq_true, List.pairwise_iff_getElem]
 constructor
 ·intro h
  refine ⟨fun r hr => ?_, fun i j hi hj hij => ?_⟩
  ·obtain ⟨k, h1, rfl⟩ := List.getElem_of_mem hr
   exact ((hk k h1).1 (h k (List.mem_range.2 h1))).1
  ·exact ((hk j hj).1 (h j (List.mem_range.2 hj))).2 i hij
 ·rintro ⟨h1, h2⟩ k hkm
  have hkl := List.mem_range.1 hkm
  exact (hk k hkl).2 ⟨h1 _ (List.getElem_mem hkl), fun j hj => h2 j k _ hkl hj⟩

/-- The same roads, in whatever order, told from whichever end. -/
def SameR (R R' : List S94) : Prop := (R.map normR).Perm (R'.map normR)
theorem SameR.symm {R R' : List S94} (h : SameR R R') : SameR R' R := List.Perm.symm h
theorem SameR.len {R R' : List S94} (h : SameR R R') : R'.length = R.length := by
 have := List.Perm.length_eq h
 simpa using this.symm
theorem roads_norm (W : List S77) (R : List S94) : roadsB W R = true ↔ (∀ r ∈ R.map normR, locB W.length r = true) ∧ (R.map normR).Pairwise NJ := by
 rw [roadsB_iff, List.pairwise_map]
 constructor
 ·rintro ⟨h1, h2⟩
  refine ⟨fun r hr => ?_, h2.imp (fun h => (NJ_norm _ _).2 h)⟩
  obtain ⟨s, hs, rfl⟩ := List.mem_map.1 hr
  rw [loc_norm]
  exact h1 s hs
 ·rintro ⟨h1, h2⟩
  refine ⟨fun r hr => ?_, h2.imp (fun h => (NJ_norm _ _).1 h)⟩
  rw [← loc_norm]
  exact h1 _ (List.mem_map_of_mem hr)
theorem SameR.roads1 {R R' : List S94} (h : SameR R R') (W : List S77) (hr : roadsB W R = true) : roadsB W R' = true := by
 rw [roads_norm] at hr ⊢
 refine ⟨fun r hm => hr.1 r ((List.Perm.mem_iff h).2 hm), ?_⟩
 exact (List.Perm.pairwise_iff (fun h => NJ_symm h) h).1 hr.2
theorem SameR.roads {R R' : List S94} (h : SameR R R') (W : List S77) : roadsB W R' = roadsB W R := by
 cases h1 : roadsB W R with
 | true => exact h.roads1 W h1
 | false =>
  cases h2 : roadsB W R' with
  | false => rfl
  | true => rw [h.symm.roads1 W h2] at h1; cases h1
theorem SameR.chk {R R' : List S94} (h : SameR R R') (W : List S77) : chkMap W R' = chkMap W R := by
 unfold chkMap
 rw [h.roads W, h.len]

theorem nbr_flip {N : Nat} {r : S94} (hr : RoadOk N r) (n : Int) : nbr n (flipR r) = nbr n r := by
 have h1 := hr.a0; have h2 := hr.b0; have h3 := hr.ne
 unfold nbr
 show (if n = r.f1 then (if 0 ≤ r.f0 then some (r.f0, r.f2.f1) else none) else if n = r.f0 then (if 0 ≤ r.f1 then some (r.f1, r.f2.f1) else none) else none) = _
 by_cases p : n = r.f0
 ·rw [if_neg (by omega), if_pos p, if_pos p]
 ·rw [if_neg p, if_neg p]
theorem nbr_norm {N : Nat} {r : S94} (hr : RoadOk N r) (n : Int) : nbr n (normR r) = nbr n r := by
 rcases norm_cases r with h | h
 ·rw [h]
 ·rw [h, nbr_flip hr]
theorem filterMap_same {α β : Type} (f g : α → Option β) : ∀ (l : List α), (∀ x ∈ l, f x = g x) → l.filterMap f = l.filterMap g
 | [], _ => rfl
 | x :: l, h => by
  rw [List.filterMap_cons, List.filterMap_cons, h x List.mem_cons_self, filterMap_same f g l (fun y hy => h y (List.mem_cons_of_mem _ hy))]
theorem nbrs_norm {N : Nat} {R : List S94} (hR : ∀ r ∈ R, RoadOk N r) (n : Int) : nbrs R n = nbrs (R.map normR) n := by
 unfold nbrs
 rw [List.filterMap_map]
 exact filterMap_same _ _ R (fun r hr => (nbr_norm (hR r hr) n).symm)
theorem SameR.nbrs {N : Nat} {R R' : List S94} (h : SameR R R') (hR : ∀ r ∈ R, RoadOk N r) (hR' : ∀ r ∈ R', RoadOk N r) (n : Int) : (nbrs R n).Perm (nbrs R' n) := by
 rw [nbrs_norm hR, nbrs_norm hR']
 exact List.Perm.filterMap _ h
theorem nbr_some {N : Nat} {n : Int} {r : S94} (hr : RoadOk N r) {x : Int × Int} (h : nbr n r = some x) : (n = r.f0 ∧ x.1 = r.f1) ∨ (n = r.f1 ∧ x.1 = r.f0) := by
 have h1 := hr.a0; have h2 := hr.b0; have h3 := hr.ne
 unfold nbr at h
 by_cases p : n = r.f0
 ·rw [if_pos p, if_pos h2] at h
  obtain rfl := Option.some.inj h
  exact .inl ⟨p, rfl⟩
 ·rw [if_neg p] at h
  by_cases q : n = r.f1
  ·rw [if_pos q, if_pos h1] at h
   obtain rfl := Option.some.inj h
   exact .inr ⟨q, rfl⟩
  ·rw [if_neg q] at h; cases h
theorem nbrs_apart {N : Nat} {R : List S94} (hR : ∀ r ∈ R, RoadOk N r) (hp : R.Pairwise NJ) (n : Int) : (nbrs R n).Pairwise (fun x y => x.1 ≠ y.1) := by
 unfold Go.Proofs.Ytiddkceahbnolaa.nbrs
 rw [List.pairwise_filterMap]
 refine List.Pairwise.imp_of_mem ?_ hp
 intro r s hr hs hn x hx y hy e
 rw [NJ_iff] at hn
 have h1 := nbr_some (hR r hr) hx
 have h2 := nbr_some (hR s hs) hy
 omega
theorem upd_comm {α : Type} (c : Nat → α) (i j : Nat) (u v : α) (h : i ≠ j) : upd (upd c i u) j v = upd (upd c j v) i u := by
 funext n
 unfold upd
 by_cases h1 : n = j
 ·subst h1
  rw [if_pos rfl, if_neg (fun e => h e.symm), if_pos rfl]
 ·rw [if_neg h1]
  by_cases h2 : n = i
  ·rw [if_pos h2, if_pos h2]
  ·rw [if_neg h2, if_neg h2, if_neg h1]
theorem relax_pair (p : Nat) (s : (Nat → Int) × (Nat → Int)) (x : Int × Int) (h : p ≠ x.1.toNat) : (relax p s x).1 p = s.1 p := by
 unfold relax
 split
 ·exact upd_other _ _ _ _ h
 ·rfl
theorem relax_far (p : Nat) (s : (Nat → Int) × (Nat → Int)) (x : Int × Int) (m : Nat) (h : m ≠ x.1.toNat) : (relax p s x).1 m = s.1 m := by
 unfold relax
 split
 ·exact upd_other _ _ _ _ h
 ·rfl
theorem relax_comm (p : Nat) (s : (Nat → Int) × (Nat → Int)) (x y : Int × Int) (hx : p ≠ x.1.toNat) (hy : p ≠ y.1.toNat) (hn : x.1.toNat ≠ y.1.toNat) : relax p (relax p s x) y = relax p (relax p s y) x := by
 have e1 := relax_far p s x p hx
 have e2 := relax_far p s y p hy
 have e3 := relax_far p s x y.1.toNat (fun e => hn e.symm)
 have e4 := relax_far p s y x.1.toNat hn
 have u1 : relax p (relax p s x) y = if s.1 p + y.2 < s.1 y.1.toNat then (upd (relax p s x).1 y.1.toNat (s.1 p + y.2), upd (relax p s x).2 y.1.toNat (p : Int)) else relax p s x := by
  rw [relax.eq_def p (relax p s x) y, e1, e3]
 have u2 : relax p (relax p s y) x = if s.1 p + x.2 < s.1 x.1.toNat then (upd (relax p s y).1 x.1.toNat (s.1 p + x.2), upd (relax p s y).2 x.1.toNat (p : Int)) else relax p s y := by
  rw [relax.eq_def p (relax p s y) x, e2, e4]
 rw [u1, u2]
 unfold relax
 by_cases c1 : s.1 p + x.2 < s.1 x.1.toNat
 ·by_cases c2 : s.1 p + y.2 < s.1 y.1.toNat
  ·simp only [if_pos c1, if_pos c2]
   rw [upd_comm _ _ _ _ _ hn, upd_comm s.2 _ _ _ _ hn]
  ·simp only [if_pos c1, if_neg c2]
 ·by_cases c2 : s.1 p + y.2 < s.1 y.1.toNat
  ·simp only [if_neg c1, if_pos c2]
  ·simp only [if_neg c1, if_neg c2]
theorem fold_perm (p : Nat) {l l' : List (Int × Int)} (h : l.Perm l') : (∀ x ∈ l, 0 ≤ x.1 ∧ x.1 ≠ (p : Int)) → l.Pairwise (fun x y => x.1 ≠ y.1) → ∀ s, l.foldl (relax p) s = l'.foldl (relax p) s := by
 induction h with
 | nil => intros; rfl
 | cons x h ih =>
  intro h1 h2 s
  rw [List.foldl_cons, List.foldl_cons]
  exact ih (fun y hy => h1 y (List.mem_cons_of_mem _ hy)) (List.pairwise_cons.1 h2).2 _
 | swap x y l =>
  intro h1 h2 s
  rw [List.foldl_cons, List.foldl_cons, List.foldl_cons, List.foldl_cons]
  have a := h1 y List.mem_cons_self
  have b := h1 x (List.mem_cons_of_mem _ List.mem_cons_self)
  have c := (List.pairwise_cons.1 h2).1 x List.mem_cons_self
  rw [relax_comm p s y x (by omega) (by omega) (by omega)]
 | trans h3 h4 ih1 ih2 =>
  intro h1 h2 s
  rw [ih1 h1 h2 s]
  refine ih2 (fun y hy => h1 y (h3.mem_iff.2 hy)) ?_ s
  exact (List.Perm.pairwise_iff (fun h e => h e.symm) h3).1 h2

theorem SameR.col {R R' : List S94} (h : SameR R R') {N : Nat} (hR : ∀ r ∈ R, RoadOk N r) (hR' : ∀ r ∈ R', RoadOk N r) (hp : R.Pairwise NJ) (g : Nat) : ∀ i, colAt R N g i = colAt R' N g i
 | 0 => rfl
 | i + 1 => by
  unfold colAt
  rw [h.col hR hR' hp g i]
  unfold colStep
  simp only
  obtain ⟨p, hpp⟩ : ∃ p, (pickTo (colAt R' N g i).st (colAt R' N g i).c N).toNat = p := ⟨_, rfl⟩
  rw [hpp]
  rw [fold_perm p (h.nbrs hR hR' (p : Int)) (fun x hx => by have := nbrs_ok hR x hx; exact ⟨this.1, this.2.2.1⟩) (nbrs_apart hR hp _)]
theorem SameR.tm {R R' : List S94} (h : SameR R R') {W : List S77} (hc : chkMap W R = 0) : tm R' W.length = tm R W.length := by
 obtain ⟨_, _, _, _, hR, hB⟩ := chk_ok hc
 obtain ⟨_, _, _, _, hR', _⟩ := chk_ok ((h.chk W).trans hc)
 have hp := ((roadsB_iff W R).1 hB).2
 funext n g
 unfold Go.Proofs.Ytiddkceahbnolaa.tm
 rw [h.col hR hR' hp]
end Go.Proofs.Ytiddkceahbnolaa

namespace Go.Proofs.Ytiddkceahbnolaa
set_option linter.all false
open Go.RowKit Go.Proofs.Ytiddkceahbnolaa.PWalkOrder Go.Proofs.YtiddkceahbnolaaW.PrintWords
set_option linter.unusedVariables false
set_option linter.unusedSimpArgs false

theorem wrap_succ {i : Nat} (h : i < 1000000) : wrap64 ((i : Int) + 1) = ((i + 1 : Nat) : Int) := by unfold wrap64; omega
theorem in_some (a b c : Int) : ∃ r, tithingref01_In.f a b c = some r := by unfold tithingref01_In.f; split <;> exact ⟨_, rfl⟩
theorem joins_some (a b c d e f : Int) : ∃ r, tithingref01_Joins.f a b c d e f = some r := by unfold tithingref01_Joins.f; split <;> (try split) <;> (try split) <;> exact ⟨_, rfl⟩

section
variable (l0 : List S32) (l1 : List S34)
theorem fault_l2 (hl : l1.length < 1000000) (i : Nat) (hi : i < l1.length) (hn : ∃ k r, tithingref01_Fault.l1 k ((i + 1 : Nat) : Int) l0 l1 = some r) (a b c d : Int) : ∀ (e j : Nat), i - j ≤ e → ∃ k r, tithingref01_Fault.l2 k (i : Int) (j : Int) l0 l1 a b c d = some r := by
 intro e
 induction e with
 | zero =>
  intro j hj
  obtain ⟨k, r, h⟩ := hn
  refine ⟨k + 1, r, ?_⟩
  simp only [tithingref01_Fault.l2]
  rw [if_neg (by omega), wrap_succ (by omega)]
  exact h
 | succ e ih =>
  intro j hj
  by_cases hji : j < i
  ·obtain ⟨q, hq⟩ := joins_some (rd_T34 l1 (j : Int)).f0 (rd_T34 l1 (j : Int)).f1 (rd_T34 l1 (j : Int)).f2.f0 (rd_T34 l1 (j : Int)).f2.f1 a b
   cases q with
   | true =>
    refine ⟨1, 1, ?_⟩
    simp only [tithingref01_Fault.l2]
    rw [if_pos (by omega), if_pos (by omega), if_pos (by omega), hq]
    rfl
   | false =>
    obtain ⟨k, r, h⟩ := ih (j + 1) (by omega)
    refine ⟨k + 1, r, ?_⟩
    simp only [tithingref01_Fault.l2]
    rw [if_pos (by omega), if_pos (by omega), if_pos (by omega), hq, wrap_succ (by omega)]
    exact h
  ·obtain ⟨k, r, h⟩ := hn
   refine ⟨k + 1, r, ?_⟩
   simp only [tithingref01_Fault.l2]
   rw [if_neg (by omega), wrap_succ (by omega)]
   exact h
theorem fault_j3 (hl : l1.length < 1000000) (i : Nat) (hi : i < l1.length) (hn : ∃ k r, tithingref01_Fault.l1 k ((i + 1 : Nat) : Int) l0 l1 = some r) (x : Bool) (a b c d : Int) : ∃ k r, tithingref01_Fault.j3 k (i : Int) x l0 l1 a b c d = some r := by
 cases x with
 | true => exact ⟨1, 1, by simp only [tithingref01_Fault.j3]; rfl⟩
 | false =>
  obtain ⟨k, r, h⟩ := fault_l2 l0 l1 hl i hi hn a b c d i 0 (by omega)
  exact ⟨k + 1, r, by simp only [tithingref01_Fault.j3]; rw [if_neg (by simp)]; exact h⟩
theorem fault_l1 (hl : l1.length < 1000000) : ∀ (d i : Nat), l1.length - i ≤ d → ∃ k r, tithingref01_Fault.l1 k (i : Int) l0 l1 = some r := by
 intro d
 induction d with
 | zero =>
  intro i hi
  refine ⟨1, 0, ?_⟩
  simp only [tithingref01_Fault.l1]
  rw [if_neg (by omega)]
 | succ d ih =>
  intro i hi
  by_cases hil : i < l1.length
  ·have hn := ih (i + 1) (by omega)
   obtain ⟨b1, hb1⟩ := in_some (rd_T34 l1 (i : Int)).f0 0 (wrap64 ((l0.length : Int) - 1))
   obtain ⟨b2, hb2⟩ := in_some (rd_T34 l1 (i : Int)).f1 0 (wrap64 ((l0.length : Int) - 1))
   obtain ⟨b3, hb3⟩ := in_some (rd_T34 l1 (i : Int)).f2.f0 1 (rd_T34 l1 (i : Int)).f2.f1
   have hj := fun x => fault_j3 l0 l1 hl i hil hn x (rd_T34 l1 (i : Int)).f0 (rd_T34 l1 (i : Int)).f1 (rd_T34 l1 (i : Int)).f2.f0 (rd_T34 l1 (i : Int)).f2.f1
   obtain ⟨kt, rt, ht⟩ := hj true
   cases b1 with
   | false =>
    refine ⟨kt + 1, rt, ?_⟩
    simp only [tithingref01_Fault.l1]
    rw [if_pos (by omega), if_pos (by omega), hb1]
    exact ht
   | true =>
    cases b2 with
    | false =>
     refine ⟨kt + 1, rt, ?_⟩
     simp only [tithingref01_Fault.l1]
     rw [if_pos (by omega), if_pos (by omega), hb1, hb2]
     exact ht
    | true =>
     by_cases he : (rd_T34 l1 (i : Int)).f0 = (rd_T34 l1 (i : Int)).f1
     ·refine ⟨kt + 1, rt, ?_⟩
      simp only [tithingref01_Fault.l1]
      rw [if_pos (by omega), if_pos (by omega), hb1, hb2]
      simp only [Option.bind_some, if_true]
      rw [if_pos he]
      exact ht
     ·cases b3 with
      | false =>
       refine ⟨kt + 1, rt, ?_⟩
       simp only [tithingref01_Fault.l1]
       rw [if_pos (by omega), if_pos (by omega), hb1, hb2, hb3]
       simp only [Option.bind_some, if_true]
       rw [if_neg he, if_neg (by simp)]
       exact ht
      | true =>
       obtain ⟨kx, rx, hx⟩ := hj (decide ((rd_T34 l1 (i : Int)).f2.f1 > 50))
       refine ⟨kx + 1, rx, ?_⟩
       simp only [tithingref01_Fault.l1]
       rw [if_pos (by omega), if_pos (by omega), hb1, hb2, hb3]
       simp only [Option.bind_some, if_true]
       rw [if_neg he]
       exact hx
  ·refine ⟨1, 0, ?_⟩
   simp only [tithingref01_Fault.l1]
   rw [if_neg (by omega)]
theorem fault_l0 (hl : l1.length < 1000000) (hl0 : l0.length < 1000000) : ∀ (d i : Nat), l0.length - i ≤ d → ∃ k r, tithingref01_Fault.l0 k (i : Int) l0 l1 = some r := by
 intro d
 induction d with
 | zero =>
  intro i hi
  obtain ⟨k, r, h⟩ := fault_l1 l0 l1 hl l1.length 0 (by omega)
  refine ⟨k + 1, r, ?_⟩
  simp only [tithingref01_Fault.l0]
  rw [if_neg (by omega)]
  exact h
 | succ d ih =>
  intro i hi
  by_cases hil : i < l0.length
  ·obtain ⟨b1, hb1⟩ := in_some (rd_T32 l0 (i : Int)).f0 0 (rd_T32 l0 (i : Int)).f1
   cases b1 with
   | false =>
    refine ⟨1, 1, ?_⟩
    simp only [tithingref01_Fault.l0]
    rw [if_pos (by omega), if_pos (by omega), hb1]
    rfl
   | true =>
    by_cases he : (rd_T32 l0 (i : Int)).f1 > 50
    ·refine ⟨1, 1, ?_⟩
     simp only [tithingref01_Fault.l0]
     rw [if_pos (by omega), if_pos (by omega), hb1]
     simp only [Option.bind_some, if_true]
     rw [if_pos he]
    ·obtain ⟨k, r, h⟩ := ih (i + 1) (by omega)
     refine ⟨k + 1, r, ?_⟩
     simp only [tithingref01_Fault.l0]
     rw [if_pos (by omega), if_pos (by omega), hb1]
     simp only [Option.bind_some, if_true]
     rw [if_neg he, wrap_succ (by omega)]
     exact h
  ·obtain ⟨k, r, h⟩ := fault_l1 l0 l1 hl l1.length 0 (by omega)
   refine ⟨k + 1, r, ?_⟩
   simp only [tithingref01_Fault.l0]
   rw [if_neg (by omega)]
   exact h
theorem fault_some (hl : l1.length < 1000000) (hl0 : l0.length < 1000000) : ∃ k r, tithinglaw01_fault.f k l0 l1 = some r := by
 have hj : ∀ x : Bool, ∃ k r, tithingref01_Fault.j0 k x l0 l1 = some r := by
  intro x
  cases x with
  | true => exact ⟨1, 3, by simp only [tithingref01_Fault.j0]; rfl⟩
  | false =>
   by_cases hz : (l0.length : Int) = 0
   ·exact ⟨1, 1, by simp only [tithingref01_Fault.j0]; rw [if_neg (by simp), if_pos hz]⟩
   ·obtain ⟨k, r, h⟩ := fault_l0 l0 l1 hl hl0 l0.length 0 (by omega)
    exact ⟨k + 1, r, by simp only [tithingref01_Fault.j0]; rw [if_neg (by simp), if_neg hz]; exact h⟩
 unfold tithinglaw01_fault.f tithingref01_Fault.f
 by_cases h8 : (l0.length : Int) > 8
 ·obtain ⟨k, r, h⟩ := hj true
  exact ⟨k, r, by rw [if_pos h8, h]; rfl⟩
 ·obtain ⟨k, r, h⟩ := hj (decide ((l1.length : Int) > 20))
  exact ⟨k, r, by rw [if_neg h8, h]; rfl⟩
end

/-! ### Map -/
def cvR (x : S32) : S77 := ⟨x.f0, x.f1⟩
def cvRd (x : S34) : S94 := ⟨x.f0, x.f1, cvR x.f2⟩
section
variable (l0 : List S32) (l1 : List S34)
theorem map_l1 (hl : l1.length < 1000000) (W : List S77) : ∀ (d i : Nat) (acc : List S94), l1.length = i + d → acc.length = i → tithinglaw01_Map.l1 (d + 1) (i : Int) l0 l1 W acc = some (W, acc ++ (l1.drop i).map cvRd) := by
 intro d
 induction d with
 | zero =>
  intro i acc h h2
  simp only [tithinglaw01_Map.l1]
  rw [if_neg (by omega), List.drop_eq_nil_of_le (by omega)]
  simp
 | succ d ih =>
  intro i acc h h2
  generalize hm : d + 1 = m at ih ⊢
  simp only [tithinglaw01_Map.l1]
  rw [if_pos (by omega), if_pos (by omega)]
  unfold tithinglaw01_to.f
  simp only [Option.bind_some]
  rw [if_pos (by omega), wrap_succ (by omega), ih (i + 1) _ (by omega) (by simp [h2]), getD_drop l1 i z34 (by omega)]
  simp [rd_T34, cvRd, cvR]
theorem map_l0 (hl : l1.length < 1000000) (hl0 : l0.length < 1000000) : ∀ (d i : Nat) (acc : List S77), l0.length = i + d → acc.length = i → tithinglaw01_Map.l0 (l1.length + 1 + d + 1) (i : Int) l0 l1 acc = some (acc ++ (l0.drop i).map cvR, l1.map cvRd) := by
 intro d
 induction d with
 | zero =>
  intro i acc h h2
  simp only [tithinglaw01_Map.l0]
  rw [if_neg (by omega), List.drop_eq_nil_of_le (by omega)]
  have := map_l1 l0 l1 hl acc l1.length 0 [] (by omega) rfl
  simpa using this
 | succ d ih =>
  intro i acc h h2
  rw [show l1.length + 1 + (d + 1) + 1 = (l1.length + 1 + d + 1) + 1 by omega]
  generalize hm : l1.length + 1 + d + 1 = m at ih ⊢
  simp only [tithinglaw01_Map.l0]
  rw [if_pos (by omega), if_pos (by omega)]
  unfold tithinglaw01_to.f
  simp only [Option.bind_some]
  rw [if_pos (by omega), wrap_succ (by omega), ih (i + 1) _ (by omega) (by simp [h2]), getD_drop l0 i z32 (by omega)]
  simp [rd_T32, cvR]
theorem map_some (hl : l1.length < 1000000) (hl0 : l0.length < 1000000) : tithinglaw01_Map.f (l1.length + 1 + l0.length + 1) l0 l1 = some (l0.map cvR, l1.map cvRd) := by
 have := map_l0 l0 l1 hl hl0 l0.length 0 [] (by omega) rfl
 simpa [tithinglaw01_Map.f] using this
end
theorem ints_l0 (l : List Int) (hl : l.length < 1000000) : ∀ (d i : Nat), l.length = i + d → tithinglaw01_ints.l0 (d + 1) l l (i : Int) = some true := by
 intro d
 induction d with
 | zero =>
  intro i h
  simp only [tithinglaw01_ints.l0]
  rw [if_neg (by omega)]
 | succ d ih =>
  intro i h
  generalize hm : d + 1 = m at ih ⊢
  simp only [tithinglaw01_ints.l0]
  rw [if_pos (by omega), if_pos (by omega), if_pos (by omega)]
  simp only [if_true]
  rw [wrap_succ (by omega)]
  exact ih (i + 1) (by omega)
theorem ints_same (l : List Int) (hl : l.length < 1000000) : tithinglaw01_ints.f (l.length + 1) l l = some true := by
 unfold tithinglaw01_ints.f
 rw [if_pos rfl]
 exact ints_l0 l hl l.length 0 (by omega)

/-! ### The answers over the same roads -/
section
variable {W : List S77} {R R' : List S94}
theorem SameR.way (h : SameR R R') (a b : Int) : wayF W R' a b = wayF W R a b := by
 unfold wayF
 rw [h.chk W]
 by_cases hc : chkMap W R = 0
 ·rw [h.tm hc]
 ·rw [if_neg hc, if_neg hc]
theorem SameR.tour (h : SameR R R') (l : List Int) : tourF W R' l = tourF W R l := by
 unfold tourF
 rw [h.chk W]
 by_cases hc : chkMap W R = 0
 ·rw [h.tm hc]
 ·rw [if_neg hc, if_neg hc]
theorem SameR.reach (h : SameR R R') (limit : Int) : reachF W R' limit = reachF W R limit := by
 unfold reachF
 rw [h.chk W]
 by_cases hc : chkMap W R = 0
 ·unfold reachAt
  rw [h.tm hc]
 ·rw [if_neg hc, if_neg hc]
theorem SameR.few (h : SameR R R') (limit : Int) : fewF W R' limit = fewF W R limit := by
 unfold fewF
 rw [h.chk W]
 by_cases hc : chkMap W R = 0
 ·rw [h.tm hc]
 ·rw [if_neg hc, if_neg hc]
theorem SameR.low (h : SameR R R') (hc : chkMap W R = 0) : ∀ k, lowAt W R' k = lowAt W R k
 | 0 => rfl
 | k + 1 => by
  unfold lowAt
  rw [SameR.low h hc k, h.tm hc]
theorem SameR.least (h : SameR R R') (many : Int) : leastF W R' many = leastF W R many := by
 unfold leastF
 rw [h.chk W]
 by_cases hc : chkMap W R = 0
 ·have hf : fitsB W R' many = fitsB W R many := by
   funext half
   unfold fitsB
   rw [h.tm hc]
  rw [h.low hc, hf, h.tm hc]
 ·rw [if_neg hc, if_neg hc]
end

/-! ### The roads that the law lays anew -/
def flipS (r : S34) : S34 := ⟨r.f1, r.f0, r.f2⟩
/-- xs are the first roads of l, from 'by' on around, each perhaps turned. -/
def Turned (l : List S34) (by_ : Nat) (xs : List S34) : Prop := ∀ j (hj : j < xs.length), xs[j] = l.getD ((j + by_) % l.length) z34 ∨ xs[j] = flipS (l.getD ((j + by_) % l.length) z34)
theorem Turned.snoc {l : List S34} {by_ : Nat} {xs : List S34} (h : Turned l by_ xs) {r : S34} (hr : r = l.getD ((xs.length + by_) % l.length) z34 ∨ r = flipS (l.getD ((xs.length + by_) % l.length) z34)) : Turned l by_ (xs ++ [r]) := by
 intro j hj
 rw [List.length_append, List.length_singleton] at hj
 by_cases h1 : j < xs.length
 ·rw [List.getElem_append_left h1]
  exact h j h1
 ·obtain rfl : j = xs.length := by omega
  rw [List.getElem_append_right (by omega)]
  simpa using hr
theorem rotate_perm (l : List S94) (b : Nat) (hl : 0 < l.length) (z : S94) : ((List.range l.length).map (fun j => l.getD ((j + b) % l.length) z)).Perm l := by
 have hb : b % l.length < l.length := Nat.mod_lt _ hl
 have e : (List.range l.length).map (fun j => l.getD ((j + b) % l.length) z) = l.drop (b % l.length) ++ l.take (b % l.length) := by
  apply List.ext_getElem
  ·simp; omega
  ·intro i h1 h2
   have hi : i < l.length := by simpa using h1
   rw [List.getElem_map, List.getElem_range]
   have hm : (i + b) % l.length = if i + b % l.length < l.length then i + b % l.length else i + b % l.length - l.length := by
    rw [← Nat.add_mod_mod]
    split
    ·next h => exact Nat.mod_eq_of_lt h
    ·next h =>
     rw [Nat.mod_eq_sub_mod (by omega), Nat.mod_eq_of_lt (by omega)]
   rw [hm]
   by_cases hlt : i + b % l.length < l.length
   ·rw [if_pos hlt, List.getElem_append_left (by simp; omega)]
    rw [List.getElem_drop]
    have e3 : b % l.length + i = i + b % l.length := Nat.add_comm _ _
    simp only [e3]
    simp [List.getD, hlt]
   ·rw [if_neg hlt, List.getElem_append_right (by simp; omega)]
    rw [List.getElem_take]
    simp only [List.length_drop]
    have : i + b % l.length - l.length < l.length := by omega
    have e2 : i - (l.length - b % l.length) = i + b % l.length - l.length := by omega
    simp [List.getD, this, e2]
 rw [e]
 have := List.perm_append_comm (l₁ := l.drop (b % l.length)) (l₂ := l.take (b % l.length))
 rw [List.take_append_drop] at this
 exact this
theorem norm_flipS (r : S34) : normR (cvRd (flipS r)) = normR (cvRd r) := norm_flip (cvRd r)
theorem Turned.same {l : List S34} {by_ : Nat} {xs : List S34} (h : Turned l by_ xs) (hl : xs.length = l.length) : SameR (l.map cvRd) (xs.map cvRd) := by
 unfold SameR
 by_cases h0 : l.length = 0
 ·have e1 : l = [] := List.length_eq_zero_iff.1 h0
  have e2 : xs = [] := List.length_eq_zero_iff.1 (hl.trans h0)
  subst e1
  subst e2
  exact List.Perm.refl _
 ·have e : (xs.map cvRd).map normR = ((List.range (l.map cvRd).length).map (fun j => (l.map cvRd).getD ((j + by_) % (l.map cvRd).length) (cvRd z34))).map normR := by
   apply List.ext_getElem
   ·simp [hl]
   ·intro i h1 h2
    have hi : i < xs.length := by simpa using h1
    simp only [List.getElem_map, List.getElem_range, List.length_map]
    have hm : (i + by_) % l.length < l.length := Nat.mod_lt _ (by omega)
    have hg : (l.map cvRd).getD ((i + by_) % l.length) (cvRd z34) = cvRd (l.getD ((i + by_) % l.length) z34) := by
     simp [List.getD, hm]
    rw [hg]
    rcases h i hi with e | e
    ·rw [e]
    ·rw [e, norm_flipS]
  rw [e]
  exact ((rotate_perm (l.map cvRd) by_ (by simp; omega) _).map normR).symm
end Go.Proofs.Ytiddkceahbnolaa
