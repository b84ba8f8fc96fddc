/- border's law, plain: a map told in another order is the same map; rotated lists. -/
import Derived.Test.YtiddkceahbnolaaZBest
import Derived.Test.YtiddkceahbnolaaZRight
import Derived.Test.YtiddkceahbnolaaZBnd
import Derived.Test.YtiddkceahbnolaaZFlt
namespace Go.Proofs.Ytiddkceahbnolaa
open Go.RowKit Go.Shelf Go.Proofs.Ytiddkceahbnolaa.PBorderOrder Go.Proofs.YtiddkceahbnolaaW.PrintWords Go.Proofs.YtiddkceahbnolaaW.PrintLast
set_option linter.all false
/-- s numbers n things anew, t goes back. -/
structure Ren (n : Nat) (s t : Nat → Nat) : Prop where
 s_lt : ∀ i, i < n → s i < n
 t_lt : ∀ i, i < n → t i < n
 ts : ∀ i, i < n → t (s i) = i
 st : ∀ i, i < n → s (t i) = i
theorem Ren.symm {n : Nat} {s t : Nat → Nat} (h : Ren n s t) : Ren n t s := ⟨h.t_lt, h.s_lt, h.st, h.ts⟩
theorem Ren.inj {n : Nat} {s t : Nat → Nat} (h : Ren n s t) {i k : Nat} (hi : i < n) (hk : k < n) (e : s i = s k) : i = k := by
 rw [← h.ts i hi, ← h.ts k hk, e]
theorem Ren.perm {n : Nat} {s t : Nat → Nat} (h : Ren n s t) : ((List.range n).map s).Perm (List.range n) := by
 refine (List.perm_ext_iff_of_nodup ?_ List.nodup_range).2 fun a => ?_
 ·refine (List.pairwise_map).2 ?_
  refine List.Pairwise.imp_of_mem ?_ (List.nodup_range (n := n))
  intro a b ha hb hab e
  exact hab (h.inj (List.mem_range.1 ha) (List.mem_range.1 hb) e)
 ·simp only [List.mem_map, List.mem_range]
  constructor
  ·rintro ⟨i, hi, rfl⟩
   exact h.s_lt i hi
  ·intro ha
   exact ⟨t a, h.t_lt a ha, h.st a ha⟩
theorem sum_perm {l l' : List Int} (h : l.Perm l') : l.sum = l'.sum := by
 induction h with
 | nil => rfl
 | cons x _ ih => simp [ih]
 | swap x y l => simp only [List.sum_cons]; omega
 | trans _ _ ih1 ih2 => exact ih1.trans ih2
/-- Two maps that are the same but for the order of their streets and joins. -/
structure SameM (ss ss' : List S115) (js js' : List S119) (s t : Nat → Nat) : Prop where
 ren : Ren ss.length s t
 len : ss'.length = ss.length
 jlen : js'.length = js.length
 get : ∀ i, i < ss.length → enc_rd_Street ss' i = enc_rd_Street ss (s i)
 jns : ∀ i k, i < ss.length → k < ss.length → jn js' i k = jn js (s i) (s k)
 jok : js'.all (joinB ss.length) = js.all (joinB ss.length)
theorem filter_congr' {α : Type} {p q : α → Bool} {l : List α} (h : ∀ x ∈ l, p x = q x) : l.filter p = l.filter q := by
 induction l with
 | nil => rfl
 | cons a l ih =>
  rw [List.filter_cons, List.filter_cons, h a List.mem_cons_self, ih (fun x hx => h x (List.mem_cons_of_mem _ hx))]
theorem map_congr' {α β : Type} {f g : α → β} {l : List α} (h : ∀ x ∈ l, f x = g x) : l.map f = l.map g := List.map_congr_left h
def renIS (s : Nat → Nat) (x : IS) : IS := (s x.1, x.2)
theorem ofAt_perm {ss ss' : List S115} {js js' : List S119} {s t : Nat → Nat} (h : SameM ss ss' js js' s t) (d : Int) : ((ofAt ss' d ss'.length).map (renIS s)).Perm (ofAt ss d ss.length) := by
 have e : (ofAt ss' d ss'.length).map (renIS s) = (((List.range ss.length).map s).filter (fun i => (enc_rd_Street ss i).f0 == d)).map (fun i => (i, enc_rd_Street ss i)) := by
  unfold ofAt
  rw [h.len, List.map_map, List.filter_map, List.map_map]
  rw [filter_congr' (q := ((fun i => (enc_rd_Street ss i).f0 == d) ∘ s)) (fun x hx => by rw [h.get x (List.mem_range.1 hx)]; rfl)]
  refine map_congr' fun x hx => ?_
  have hx' := List.mem_range.1 (List.mem_filter.1 hx).1
  show (s x, enc_rd_Street ss' x) = (s x, enc_rd_Street ss (s x))
  rw [h.get x hx']
 rw [e]
 exact (h.ren.perm.filter _).map _
theorem lt_of_ofAt {ss : List S115} {d : Int} {k : Nat} {x : IS} (h : x ∈ ofAt ss d k) : x.1 < k := by
 unfold ofAt at h
 obtain ⟨i, hi, rfl⟩ := List.mem_map.1 h
 exact List.mem_range.1 (List.mem_filter.1 hi).1
theorem losum_ren (s : Nat → Nat) (xs : List IS) : losum (xs.map (renIS s)) = losum xs := by
 unfold losum
 rw [List.map_map]
 rfl
theorem hisum_ren (s : Nat → Nat) (xs : List IS) : hisum (xs.map (renIS s)) = hisum xs := by
 unfold hisum
 rw [List.map_map]
 rfl
theorem wsum_ren (s : Nat → Nat) (xs : List IS) : wsum (xs.map (renIS s)) = wsum xs := by
 unfold wsum
 rw [List.map_map]
 rfl
theorem losum_perm {xs ys : List IS} (h : xs.Perm ys) : losum xs = losum ys := sum_perm (h.map _)
theorem hisum_perm {xs ys : List IS} (h : xs.Perm ys) : hisum xs = hisum ys := sum_perm (h.map _)
theorem wsum_perm {xs ys : List IS} (h : xs.Perm ys) : wsum xs = wsum ys := sum_perm (h.map _)
theorem SameM.losum {ss ss' : List S115} {js js' : List S119} {s t : Nat → Nat} (h : SameM ss ss' js js' s t) (d : Int) : losum (ofAt ss' d ss'.length) = losum (ofAt ss d ss.length) := by
 rw [← losum_ren s, losum_perm (ofAt_perm h d)]
theorem SameM.hisum {ss ss' : List S115} {js js' : List S119} {s t : Nat → Nat} (h : SameM ss ss' js js' s t) (d : Int) : hisum (ofAt ss' d ss'.length) = hisum (ofAt ss d ss.length) := by
 rw [← hisum_ren s, hisum_perm (ofAt_perm h d)]
theorem SameM.wsum {ss ss' : List S115} {js js' : List S119} {s t : Nat → Nat} (h : SameM ss ss' js js' s t) (d : Int) : wsum (ofAt ss' d ss'.length) = wsum (ofAt ss d ss.length) := by
 rw [← wsum_ren s, wsum_perm (ofAt_perm h d)]
theorem insP_perm {s : Nat → Nat} {p p' : Int → Bool} {xs ys : List IS} (h : (xs.map (renIS s)).Perm ys) (hp : ∀ x ∈ xs, p' (x.1 : Int) = p (s x.1 : Int)) :
  ((insP p' xs).map (renIS s)).Perm (insP p ys) ∧ ((outP p' xs).map (renIS s)).Perm (outP p ys) := by
 constructor
 ·have e : (insP p' xs).map (renIS s) = (xs.map (renIS s)).filter (fun x => p (x.1 : Int)) := by
   unfold insP
   rw [List.filter_map]
   exact congrArg _ (filter_congr' fun x hx => hp x hx)
  rw [e]
  exact h.filter _
 ·have e : (outP p' xs).map (renIS s) = (xs.map (renIS s)).filter (fun x => !p (x.1 : Int)) := by
   unfold outP
   rw [List.filter_map]
   exact congrArg _ (filter_congr' fun x hx => by rw [hp x hx]; rfl)
  rw [e]
  exact h.filter _
theorem SameM.part {ss ss' : List S115} {js js' : List S119} {s t : Nat → Nat} (h : SameM ss ss' js js' s t) (old : List Int) (d : Int) {p p' : Int → Bool} (hp : ∀ i : Nat, i < ss.length → p' (i : Int) = p (s i : Int)) : partF old ss' d p' = partF old ss d p := by
 have hq := insP_perm (p := p) (p' := p') (ofAt_perm h d) (fun x hx => hp x.1 (by have := lt_of_ofAt hx; rw [h.len] at this; exact this))
 unfold partF
 rw [← losum_ren s (insP p' _), ← hisum_ren s (outP p' _), ← hisum_ren s (insP p' _), ← losum_ren s (outP p' _), losum_perm hq.1, hisum_perm hq.2, hisum_perm hq.1, losum_perm hq.2]
theorem SameM.size {ss ss' : List S115} {js js' : List S119} {s t : Nat → Nat} (h : SameM ss ss' js js' s t) (old : List Int) {l l' : Nat → Int} (hl : ∀ i, i < ss.length → l' i = l (s i)) (D : Int) : sizeF old ss' l' D = sizeF old ss l D := by
 have e : ∀ d : Nat, partF old ss' (d : Int) (fun i => l' i.toNat == D) = partF old ss (d : Int) (fun i => l i.toNat == D) := fun d =>
  h.part old d (fun i hi => by show (l' (i : Int).toNat == D) = (l (s i : Int).toNat == D); rw [Int.toNat_natCast, Int.toNat_natCast, hl i hi])
 unfold sizeF sizeAt
 simp only [e]
theorem SameM.own {ss ss' : List S115} {js js' : List S119} {s t : Nat → Nat} (h : SameM ss ss' js js' s t) (i : Nat) (hi : i < ss.length) : ownL ss' i = ownL ss (s i) := by
 unfold ownL
 rw [if_pos (by rw [h.len]; exact hi), if_pos (h.ren.s_lt i hi), h.get i hi]
theorem all_at (ss : List S115) (p : S115 → Bool) : ss.all p = (List.range ss.length).all (fun i => p (enc_rd_Street ss i)) := by
 rw [Bool.eq_iff_iff, List.all_eq_true, List.all_eq_true]
 constructor
 ·intro h i hi
  have hi' := List.mem_range.1 hi
  refine h _ ?_
  have e : enc_rd_Street ss i = ss[i] := by simp [enc_rd_Street, rd_T115, List.getD, hi']
  rw [e]
  exact List.getElem_mem hi'
 ·intro h x hx
  obtain ⟨i, hi, rfl⟩ := List.mem_iff_getElem.1 hx
  have := h i (List.mem_range.2 hi)
  have e : enc_rd_Street ss i = ss[i] := by simp [enc_rd_Street, rd_T115, List.getD, hi]
  rw [e] at this
  exact this
theorem all_congr' {α : Type} {p q : α → Bool} {l : List α} (h : ∀ x ∈ l, p x = q x) : l.all p = l.all q := by
 induction l with
 | nil => rfl
 | cons a l ih =>
  rw [List.all_cons, List.all_cons, h a List.mem_cons_self, ih (fun x hx => h x (List.mem_cons_of_mem _ hx))]
theorem SameM.all {ss ss' : List S115} {js js' : List S119} {s t : Nat → Nat} (h : SameM ss ss' js js' s t) (p : S115 → Bool) : ss'.all p = ss.all p := by
 rw [all_at ss', all_at ss, h.len]
 refine Eq.trans ?_ (h.ren.perm.all_eq (f := fun i => p (enc_rd_Street ss i)))
 rw [List.all_map]
 exact all_congr' fun i hi => by rw [h.get i (List.mem_range.1 hi)]; rfl
theorem SameM.weighed {ss ss' : List S115} {js js' : List S119} {s t : Nat → Nat} (h : SameM ss ss' js js' s t) (no : Nat) : weighedB no ss' = weighedB no ss := by
 unfold weighedB
 simp only [h.wsum]
theorem SameM.chk {ss ss' : List S115} {js js' : List S119} {s t : Nat → Nat} (h : SameM ss ss' js js' s t) (old : List Int) (nw : Int) : chkB old nw ss' js' = chkB old nw ss js := by
 unfold chkB
 rw [h.all, h.weighed, h.len, h.jlen, h.jok]
theorem SameM.cons {ss ss' : List S115} {js js' : List S119} {s t : Nat → Nat} (h : SameM ss ss' js js' s t) (old : List Int) (nw : Int) : consE old nw ss' js' = consE old nw ss js := by
 have e : fitsB old ss' = fitsB old ss := by
  funext d
  unfold fitsB
  rw [h.losum, h.hisum]
 unfold consE
 rw [h.chk, e]
/-- The bounds of all streets: at each new place those at the old one. -/
theorem SameM.streets {ss ss' : List S115} {js js' : List S119} {s t : Nat → Nat} (h : SameM ss ss' js js' s t) (old : List Int) (nw : Int) : streetsF old nw ss' js' = (if consE old nw ss js = 0 then ((List.range ss.length).map (fun i => mkR (partF old ss (enc_rd_Street ss (s i)).f0 (fun x => x == (s i : Int)))), 0) else ([], consE old nw ss js)) := by
 unfold streetsF
 rw [h.cons]
 refine congrArg (fun z => if consE old nw ss js = 0 then (z, (0 : Int)) else ([], consE old nw ss js)) ?_
 unfold streetsAt
 rw [h.len]
 refine map_congr' fun i hi => ?_
 have hi' := List.mem_range.1 hi
 show mkR (partF old ss' (enc_rd_Street ss' i).f0 (fun x => x == (i : Int))) = _
 rw [h.get i hi', h.part old _ (p := fun x => x == (s i : Int)) (fun k hk => ?_)]
 show ((k : Int) == (i : Int)) = ((s k : Int) == (s i : Int))
 rw [Bool.eq_iff_iff, beq_iff_eq, beq_iff_eq]
 constructor
 ·intro e
  rw [Int.ofNat_inj.1 e]
 ·intro e
  rw [h.ren.inj hk hi' (Int.ofNat_inj.1 e)]
theorem SameM.bounds {ss ss' : List S115} {js js' : List S119} {s t : Nat → Nat} (h : SameM ss ss' js js' s t) (old : List Int) (nw : Int) : boundsF old nw ss' js' = boundsF old nw ss js := by
 have e : ∀ d : Nat, sizeF old ss' (ownL ss') (d : Int) = sizeF old ss (ownL ss) (d : Int) := fun d => h.size old h.own d
 unfold boundsF boundsAt
 rw [h.cons]
 simp only [e]
theorem members_nodup (l : Nat → Int) (d : Int) (k : Nat) : (membersAt l d k).Nodup := List.nodup_range.filter _
theorem mem_members {l : Nat → Int} {d : Int} {k x : Nat} : x ∈ membersAt l d k ↔ x < k ∧ l x = d := by
 unfold membersAt
 rw [List.mem_filter, List.mem_range, beq_iff_eq]
theorem SameM.conn {ss ss' : List S115} {js js' : List S119} {s t : Nat → Nat} (h : SameM ss ss' js js' s t) {l l' : Nat → Int} (hl : ∀ i, i < ss.length → l' i = l (s i)) (D : Int) : connB (jn js') (membersAt l' D ss'.length) = connB (jn js) (membersAt l D ss.length) := by
 rw [Bool.eq_iff_iff, connB_iff (jn_symm js') (members_nodup _ _ _), connB_iff (jn_symm js) (members_nodup _ _ _), h.len]
 constructor
 ·refine ConnL.map s (fun x hx y hy => ?_) (fun y => ?_)
  ·rw [h.jns x y (mem_members.1 hx).1 (mem_members.1 hy).1]
  ·constructor
   ·intro hy
    obtain ⟨h1, h2⟩ := mem_members.1 hy
    exact ⟨t y, mem_members.2 ⟨h.ren.t_lt y h1, by rw [hl _ (h.ren.t_lt y h1), h.ren.st y h1, h2]⟩, (h.ren.st y h1).symm⟩
   ·rintro ⟨x, hx, rfl⟩
    obtain ⟨h1, h2⟩ := mem_members.1 hx
    exact mem_members.2 ⟨h.ren.s_lt x h1, by rw [← hl x h1, h2]⟩
 ·refine ConnL.map t (fun x hx y hy => ?_) (fun y => ?_)
  ·have hx1 := (mem_members.1 hx).1
   have hy1 := (mem_members.1 hy).1
   rw [h.jns _ _ (h.ren.t_lt x hx1) (h.ren.t_lt y hy1), h.ren.st x hx1, h.ren.st y hy1]
  ·constructor
   ·intro hy
    obtain ⟨h1, h2⟩ := mem_members.1 hy
    exact ⟨s y, mem_members.2 ⟨h.ren.s_lt y h1, by rw [← hl y h1, h2]⟩, (h.ren.ts y h1).symm⟩
   ·rintro ⟨x, hx, rfl⟩
    obtain ⟨h1, h2⟩ := mem_members.1 hx
    exact mem_members.2 ⟨h.ren.t_lt x h1, by rw [hl _ (h.ren.t_lt x h1), h.ren.st x h1, h2]⟩
theorem SameM.apart {ss ss' : List S115} {js js' : List S119} {s t : Nat → Nat} (h : SameM ss ss' js js' s t) (old : List Int) (nw : Int) : apartF old nw ss' js' = apartF old nw ss js := by
 have e : apartB ss' js' = apartB ss js := by
  funext d
  unfold apartB
  rw [h.conn h.own]
 unfold apartF apartAt
 rw [h.chk, e]
theorem SameM.right {ss ss' : List S115} {js js' : List S119} {s t : Nat → Nat} (h : SameM ss ss' js js' s t) (old : List Int) (nw lo hi : Int) {l l' : Nat → Int} (hl : ∀ i, i < ss.length → l' i = l (s i)) : rightB old nw ss' js' lo hi l' = rightB old nw ss js lo hi l := by
 unfold rightB
 refine all_congr' fun d _ => ?_
 unfold okB
 rw [h.size old hl, h.conn hl]
/-- How many of the last r of n streets are moved. -/
def movedN (own g : Nat → Int) (n r : Nat) : Nat := (List.range r).countP (fun j => g (n - (j + 1)) != own (n - (j + 1)))
theorem movedN_succ (own g : Nat → Int) (n r : Nat) : movedN own g n (r + 1) = movedN own g n r + (if g (n - (r + 1)) ≠ own (n - (r + 1)) then 1 else 0) := by
 unfold movedN
 rw [List.range_succ, List.countP_append, List.countP_singleton]
 by_cases h : g (n - (r + 1)) = own (n - (r + 1)) <;> simp [h]
theorem movedN_le (own g : Nat → Int) (n r : Nat) : movedN own g n r ≤ r := by
 have := List.countP_le_length (p := fun j => g (n - (j + 1)) != own (n - (j + 1))) (l := List.range r)
 rw [List.length_range] at this
 exact this
theorem movedN_congr {own own' g g' : Nat → Int} {n r : Nat} (hr : r ≤ n) (h : ∀ i, n - r ≤ i → i < n → g i = g' i ∧ own i = own' i) : movedN own g n r = movedN own' g' n r := by
 unfold movedN
 refine List.countP_congr fun j hj => ?_
 have hj' := List.mem_range.1 hj
 obtain ⟨h1, h2⟩ := h (n - (j + 1)) (by omega) (by omega)
 rw [h1, h2]
/-- The search finds borders if there are any. -/
theorem moveF_isSome (R : (Nat → Int) → Bool) (own : Nat → Int) (n nn : Nat) : ∀ (r : Nat), r ≤ n → ∀ (l : Nat → Int) (many : Int), 0 ≤ many →
  ((moveF R own n nn r l many).isSome = true ↔ ∃ g : Nat → Int, (∀ i, i < n - r ∨ n ≤ i → g i = l i) ∧ (∀ i, n - r ≤ i → i < n → ∃ d : Nat, d < nn ∧ g i = d) ∧ (movedN own g n r : Int) = many ∧ R g = true) := by
 intro r
 induction r with
 | zero =>
  intro _ l many hm
  unfold moveF
  constructor
  ·intro h
   by_cases h0 : 0 < many
   ·rw [if_pos h0] at h
    cases h
   ·rw [if_neg h0] at h
    by_cases hR : R l = true
    ·exact ⟨l, fun _ _ => rfl, fun i h1 h2 => absurd h2 (by omega), by simp [movedN]; omega, hR⟩
    ·rw [if_neg hR] at h
     cases h
  ·rintro ⟨g, h1, _, h3, h4⟩
   have e : g = l := funext fun i => h1 i (by omega)
   subst e
   have : movedN own g n 0 = 0 := rfl
   rw [if_neg (by omega), if_pos h4]
   rfl
 | succ r ih =>
  intro hr l many hm
  obtain ⟨q, hq⟩ : ∃ q, n - (r + 1) = q := ⟨_, rfl⟩
  have hqr : n - r = q + 1 := by omega
  unfold moveF
  rw [hq]
  constructor
  ·intro h
   by_cases h0 : ((r + 1 : Nat) : Int) < many
   ·rw [if_pos h0] at h
    cases h
   ·rw [if_neg h0, List.findSome?_isSome_iff] at h
    obtain ⟨d, hd, h⟩ := h
    have hd' := List.mem_range.1 hd
    by_cases hl : 0 ≤ (if (d : Int) ≠ own q then many - 1 else many)
    ·rw [if_pos hl] at h
     obtain ⟨g, g1, g2, g3, g4⟩ := (ih (by omega) _ _ hl).1 h
     have gq : g q = d := by rw [g1 q (by omega)]; simp [updL]
     refine ⟨g, fun i hi => ?_, fun i h1 h2 => ?_, ?_, g4⟩
     ·rw [g1 i (by omega)]
      unfold updL
      rw [if_neg (by omega)]
     ·by_cases e : i = q
      ·subst e
       exact ⟨d, hd', gq⟩
      ·exact g2 i (by omega) h2
     ·rw [movedN_succ, hq, gq]
      push_cast
      rw [g3]
      by_cases e : (d : Int) = own q <;> simp [e]
    ·rw [if_neg hl] at h
     cases h
  ·rintro ⟨g, g1, g2, g3, g4⟩
   have hle := movedN_le own g n (r + 1)
   rw [if_neg (by omega), List.findSome?_isSome_iff]
   obtain ⟨d, hd, gq⟩ := g2 q (by omega) (by omega)
   rw [movedN_succ, hq, gq] at g3
   refine ⟨d, List.mem_range.2 hd, ?_⟩
   have h3 : (movedN own g n r : Int) = (if (d : Int) ≠ own q then many - 1 else many) := by
    by_cases e : (d : Int) = own q
    ·rw [if_neg (fun h => h e)] at g3 ⊢
     omega
    ·rw [if_pos e] at g3 ⊢
     omega
   rw [if_pos (by omega)]
   refine (ih (by omega) _ _ (by omega)).2 ⟨g, fun i hi => ?_, fun i h1 h2 => g2 i (by omega) h2, h3, g4⟩
   unfold updL
   by_cases e : i = q
   ·rw [if_pos e, e, gq]
   ·rw [if_neg e, g1 i (by omega)]
theorem movedN_all (own g : Nat → Int) (n : Nat) : movedN own g n n = (List.range n).countP (fun i => g i != own i) := by
 have h : Ren n (fun j => n - (j + 1)) (fun j => n - (j + 1)) := ⟨fun i hi => by show n - (i + 1) < n; omega, fun i hi => by show n - (i + 1) < n; omega, fun i hi => by show n - (n - (i + 1) + 1) = i; omega, fun i hi => by show n - (n - (i + 1) + 1) = i; omega⟩
 rw [← h.perm.countP_eq, List.countP_map]
 rfl
theorem countP_ren {n : Nat} {s t : Nat → Nat} (h : Ren n s t) {own own' g g' : Nat → Int} (ho : ∀ i, i < n → own' i = own (s i)) (hg : ∀ i, i < n → g' i = g (s i)) : (List.range n).countP (fun i => g' i != own' i) = (List.range n).countP (fun i => g i != own i) := by
 refine Eq.trans ?_ (h.perm.countP_eq (fun i => g i != own i))
 rw [List.countP_map]
 refine List.countP_congr fun i hi => ?_
 have hi' := List.mem_range.1 hi
 show (g' i != own' i) = true ↔ (g (s i) != own (s i)) = true
 rw [ho i hi', hg i hi']
theorem move_ren {n nn : Nat} {s t : Nat → Nat} (h : Ren n s t) {R R' : (Nat → Int) → Bool} {own own' : Nat → Int} (ho : ∀ i, i < n → own' i = own (s i)) (hR : ∀ g g' : Nat → Int, (∀ i, i < n → g' i = g (s i)) → R' g' = R g) (many : Nat) (hm : (moveF R own n nn n (fun _ => 0) (many : Int)).isSome = true) : (moveF R' own' n nn n (fun _ => 0) (many : Int)).isSome = true := by
 obtain ⟨g, g1, g2, g3, g4⟩ := (moveF_isSome R own n nn n (Nat.le_refl _) _ _ (by omega)).1 hm
 have hg : ∀ i, i < n → (fun i => if i < n then g (s i) else 0) i = g (s i) := fun i hi => by
  show (if i < n then g (s i) else 0) = g (s i)
  rw [if_pos hi]
 refine (moveF_isSome R' own' n nn n (Nat.le_refl _) _ _ (by omega)).2 ⟨fun i => if i < n then g (s i) else 0, fun i hi => ?_, fun i h1 h2 => ?_, ?_, ?_⟩
 ·show (if i < n then g (s i) else 0) = 0
  rw [if_neg (by omega)]
 ·obtain ⟨d, hd, e⟩ := g2 (s i) (by omega) (h.s_lt i h2)
  exact ⟨d, hd, by show (if i < n then g (s i) else 0) = _; rw [if_pos h2, e]⟩
 ·rw [movedN_all] at g3 ⊢
  rw [countP_ren h ho hg, g3]
 ·rw [hR g _ hg, g4]
theorem move_same {n nn : Nat} {s t : Nat → Nat} (h : Ren n s t) {R R' : (Nat → Int) → Bool} {own own' : Nat → Int} (ho : ∀ i, i < n → own' i = own (s i)) (hR : ∀ g g' : Nat → Int, (∀ i, i < n → g' i = g (s i)) → R' g' = R g) (many : Nat) : (moveF R' own' n nn n (fun _ => 0) (many : Int)).isSome = (moveF R own n nn n (fun _ => 0) (many : Int)).isSome := by
 rw [Bool.eq_iff_iff]
 constructor
 ·refine move_ren h.symm (fun i hi => ?_) (fun g g' hg => ?_) many
  ·rw [ho _ (h.t_lt i hi), h.st i hi]
  ·refine (hR g' g fun i hi => ?_).symm
   rw [hg _ (h.s_lt i hi), h.ts i hi]
 ·exact move_ren h ho hR many
theorem findSome_same {α : Type} {f f' : Nat → Option (Nat × α)} (h1 : ∀ m x, f m = some x → x.1 = m) (h2 : ∀ m x, f' m = some x → x.1 = m) (h : ∀ m, (f' m).isSome = (f m).isSome) : ∀ l : List Nat, (l.findSome? f').map (fun x => x.1) = (l.findSome? f).map (fun x => x.1)
 | [] => rfl
 | m :: l => by
  rw [List.findSome?_cons, List.findSome?_cons]
  have hm := h m
  cases e : f m with
  | none =>
   rw [e] at hm
   cases e' : f' m with
   | none => exact findSome_same h1 h2 h l
   | some y => rw [e'] at hm; cases hm
  | some x =>
   rw [e] at hm
   cases e' : f' m with
   | none => rw [e'] at hm; cases hm
   | some y =>
    show some y.1 = some x.1
    rw [h1 m x e, h2 m y e']
/-- How few streets are moved. -/
theorem SameM.best {ss ss' : List S115} {js js' : List S119} {s t : Nat → Nat} (h : SameM ss ss' js js' s t) (old : List Int) (nw lo hi : Int) : (bestF old nw ss' js' lo hi).2 = (bestF old nw ss js lo hi).2 := by
 have ea : askedE old nw ss' js' lo hi = askedE old nw ss js lo hi := by
  unfold askedE
  rw [h.chk, h.cons]
 have ef : ((List.range (ss'.length + 1)).findSome? (bestM old nw ss' js' lo hi)).map (fun x => x.1) = ((List.range (ss.length + 1)).findSome? (bestM old nw ss js lo hi)).map (fun x => x.1) := by
  rw [h.len]
  refine findSome_same (fun m x e => ?_) (fun m x e => ?_) (fun m => ?_) _
  ·unfold bestM at e
   obtain ⟨y, _, rfl⟩ := Option.map_eq_some_iff.1 e
   rfl
  ·unfold bestM at e
   obtain ⟨y, _, rfl⟩ := Option.map_eq_some_iff.1 e
   rfl
  ·unfold bestM
   rw [Option.isSome_map, Option.isSome_map, h.len]
   exact move_same h.ren h.own (fun g g' hg => h.right old nw lo hi hg) m
 unfold bestF
 rw [ea]
 by_cases h0 : askedE old nw ss js lo hi = 0
 ·rw [if_pos h0, if_pos h0]
  cases e : (List.range (ss.length + 1)).findSome? (bestM old nw ss js lo hi) with
  | none =>
   rw [e] at ef
   cases e' : (List.range (ss'.length + 1)).findSome? (bestM old nw ss' js' lo hi) with
   | none => rfl
   | some y => rw [e'] at ef; cases ef
  | some x =>
   rw [e] at ef
   cases e' : (List.range (ss'.length + 1)).findSome? (bestM old nw ss' js' lo hi) with
   | none => rw [e'] at ef; cases ef
   | some y =>
    rw [e'] at ef
    have : y.1 = x.1 := Option.some.inj ef
    show ((y.1 : Int), (0 : Int)) = ((x.1 : Int), (0 : Int))
    rw [this]
 ·rw [if_neg h0, if_neg h0]
end Go.Proofs.Ytiddkceahbnolaa
namespace Go.Proofs.Ytiddkceahbnolaa
open Go.RowKit Go.Shelf Go.Proofs.Ytiddkceahbnolaa.PBorderOrder Go.Proofs.YtiddkceahbnolaaW.PrintWords
set_option linter.all false
theorem enc_cvS (rs : List S118) (i : Nat) (h : i < rs.length) : enc_rd_Street (rs.map cvS) i = cvS (rs.getD i z118) := by
 simp [enc_rd_Street, rd_T115, List.getD, h]
theorem jv_get {n : Nat} {rj : List S62} (h : JV n rj 0) (q : Nat) (hq : q < rj.length) : ∃ a b : Nat, a < n ∧ b < n ∧ rd_T62 rj (q : Int) = ⟨(a : Int), (b : Int)⟩ := by
 obtain ⟨⟨h1, h2⟩, ⟨h3, h4⟩⟩ := h q (Nat.zero_le _) hq
 generalize rd_T62 rj (q : Int) = x at h1 h2 h3 h4
 obtain ⟨a, b⟩ := x
 simp only at h1 h2 h3 h4
 exact ⟨a.toNat, b.toNat, by omega, by omega, by rw [Int.toNat_of_nonneg h1, Int.toNat_of_nonneg h3]⟩
theorem mem_at (rj : List S62) (x : S62) : x ∈ rj ↔ ∃ q : Nat, q < rj.length ∧ rd_T62 rj (q : Int) = x := by
 rw [List.mem_iff_getElem]
 constructor
 ·rintro ⟨q, hq, rfl⟩
  exact ⟨q, hq, by simp [rd_T62, List.getD, hq]⟩
 ·rintro ⟨q, hq, rfl⟩
  exact ⟨q, hq, by simp [rd_T62, List.getD, hq]⟩
/-- The joins of a map whose streets are renamed by t, listed in the order σ, some turned. -/
structure JRel (t σ : Nat → Nat) (rj xs : List S62) : Prop where
 len : xs.length = rj.length
 lt : ∀ m, m < rj.length → σ m < rj.length
 onto : ∀ q, q < rj.length → ∃ m, m < rj.length ∧ σ m = q
 at_ : ∀ m, m < rj.length → rd_T62 xs (m : Int) = ⟨(t (rd_T62 rj (σ m : Int)).f0.toNat : Int), (t (rd_T62 rj (σ m : Int)).f1.toNat : Int)⟩ ∨ rd_T62 xs (m : Int) = ⟨(t (rd_T62 rj (σ m : Int)).f1.toNat : Int), (t (rd_T62 rj (σ m : Int)).f0.toNat : Int)⟩
/-- Each join of the one is one of the other's, renamed. -/
theorem JRel.iff {t σ : Nat → Nat} {rj xs : List S62} (h : JRel t σ rj xs) {n : Nat} (hv : JV n rj 0) (R : S62 → Prop) (R' : S62 → Prop) (hR : ∀ a b : Nat, a < n → b < n → (R' ⟨(t a : Int), (t b : Int)⟩ ↔ R ⟨(a : Int), (b : Int)⟩)) (hs : ∀ a b : Int, R' ⟨a, b⟩ ↔ R' ⟨b, a⟩) :
  (∀ m, m < rj.length → (R' (rd_T62 xs (m : Int)) ↔ R (rd_T62 rj (σ m : Int)))) := by
 intro m hm
 obtain ⟨a, b, ha, hb, e⟩ := jv_get hv (σ m) (h.lt m hm)
 rcases h.at_ m hm with h1 | h1
 ·rw [h1, e]
  simp only [Int.toNat_natCast]
  exact hR a b ha hb
 ·rw [h1, e]
  simp only [Int.toNat_natCast]
  rw [hs]
  exact hR a b ha hb
theorem JRel.ex {t σ : Nat → Nat} {rj xs : List S62} (h : JRel t σ rj xs) {R R' : S62 → Prop} (hi : ∀ m, m < rj.length → (R' (rd_T62 xs (m : Int)) ↔ R (rd_T62 rj (σ m : Int)))) : (∃ x ∈ xs, R' x) ↔ ∃ x ∈ rj, R x := by
 constructor
 ·rintro ⟨x, hx, hr⟩
  obtain ⟨m, hm, rfl⟩ := (mem_at xs x).1 hx
  rw [h.len] at hm
  exact ⟨_, (mem_at rj _).2 ⟨σ m, h.lt m hm, rfl⟩, (hi m hm).1 hr⟩
 ·rintro ⟨x, hx, hr⟩
  obtain ⟨q, hq, rfl⟩ := (mem_at rj x).1 hx
  obtain ⟨m, hm, rfl⟩ := h.onto q hq
  exact ⟨_, (mem_at xs _).2 ⟨m, by rw [h.len]; exact hm, rfl⟩, (hi m hm).2 hr⟩
theorem JRel.all {t σ : Nat → Nat} {rj xs : List S62} (h : JRel t σ rj xs) {R R' : S62 → Prop} (hi : ∀ m, m < rj.length → (R' (rd_T62 xs (m : Int)) ↔ R (rd_T62 rj (σ m : Int)))) : (∀ x ∈ xs, R' x) ↔ ∀ x ∈ rj, R x := by
 constructor
 ·intro ha x hx
  obtain ⟨q, hq, rfl⟩ := (mem_at rj x).1 hx
  obtain ⟨m, hm, rfl⟩ := h.onto q hq
  exact (hi m hm).1 (ha _ ((mem_at xs _).2 ⟨m, by rw [h.len]; exact hm, rfl⟩))
 ·intro ha x hx
  obtain ⟨m, hm, rfl⟩ := (mem_at xs x).1 hx
  rw [h.len] at hm
  exact (hi m hm).2 (ha _ ((mem_at rj _).2 ⟨σ m, h.lt m hm, rfl⟩))
theorem jn_iff (js : List S119) (a b : Nat) : jn js a b = true ↔ ∃ j ∈ js, (j.f0 = (a : Int) ∧ j.f1 = (b : Int)) ∨ (j.f0 = (b : Int) ∧ j.f1 = (a : Int)) := by
 unfold jn
 rw [List.any_eq_true]
 simp only [Bool.or_eq_true, Bool.and_eq_true, beq_iff_eq]
theorem ex_map (rj : List S62) (R : S119 → Prop) : (∃ j ∈ rj.map cvJ, R j) ↔ ∃ x ∈ rj, R (cvJ x) := by
 constructor
 ·rintro ⟨j, hj, h⟩
  obtain ⟨x, hx, rfl⟩ := List.mem_map.1 hj
  exact ⟨x, hx, h⟩
 ·rintro ⟨x, hx, h⟩
  exact ⟨_, List.mem_map_of_mem hx, h⟩
/-- A map told in another order, its joins renamed. -/
theorem sameM_of {rs rs' : List S118} {rj xs : List S62} {s t σ : Nat → Nat} (hr : Ren rs.length s t) (hl : rs'.length = rs.length) (hg : ∀ i, i < rs.length → rs'.getD i z118 = rs.getD (s i) z118) (hv : JV rs.length rj 0) (hj : JRel t σ rj xs) : SameM (rs.map cvS) (rs'.map cvS) (rj.map cvJ) (xs.map cvJ) s t := by
 have hinj : ∀ {a b : Nat}, a < rs.length → b < rs.length → (t a = b ↔ a = s b) := by
  intro a b ha hb
  constructor
  ·rintro rfl; rw [hr.st a ha]
  ·rintro rfl; rw [hr.ts b hb]
 refine ⟨by rw [List.length_map]; exact hr, by rw [List.length_map, List.length_map, hl], by rw [List.length_map, List.length_map, hj.len], fun i hi => ?_, fun i k hi hk => ?_, ?_⟩
 ·rw [List.length_map] at hi
  rw [enc_cvS _ _ (by rw [hl]; exact hi), enc_cvS _ _ (hr.s_lt i hi), hg i hi]
 ·rw [List.length_map] at hi hk
  rw [Bool.eq_iff_iff, jn_iff, jn_iff, ex_map, ex_map]
  refine hj.ex (hj.iff hv (fun x => ((cvJ x).f0 = (s i : Int) ∧ (cvJ x).f1 = (s k : Int)) ∨ ((cvJ x).f0 = (s k : Int) ∧ (cvJ x).f1 = (s i : Int))) (fun x => ((cvJ x).f0 = (i : Int) ∧ (cvJ x).f1 = (k : Int)) ∨ ((cvJ x).f0 = (k : Int) ∧ (cvJ x).f1 = (i : Int))) (fun a b ha hb => ?_) (fun a b => ?_))
  ·simp only [cvJ, Int.ofNat_inj]
   rw [hinj ha hi, hinj hb hk, hinj ha hk, hinj hb hi]
  ·simp only [cvJ]
   constructor
   ·rintro (⟨h1, h2⟩ | ⟨h1, h2⟩)
    ·exact .inr ⟨h2, h1⟩
    ·exact .inl ⟨h2, h1⟩
   ·rintro (⟨h1, h2⟩ | ⟨h1, h2⟩)
    ·exact .inr ⟨h2, h1⟩
    ·exact .inl ⟨h2, h1⟩
 ·rw [List.length_map, Bool.eq_iff_iff, List.all_eq_true, List.all_eq_true, List.forall_mem_map, List.forall_mem_map]
  refine hj.all (hj.iff hv (fun x => joinB rs.length (cvJ x) = true) (fun x => joinB rs.length (cvJ x) = true) (fun a b ha hb => ?_) (fun a b => ?_))
  ·have h1 := hr.t_lt a ha
   have h2 := hr.t_lt b hb
   have h3 : t a = t b ↔ a = b := ⟨fun e => hr.symm.inj ha hb e, fun e => by rw [e]⟩
   simp only [joinB, withinB, cvJ, Bool.and_eq_true, decide_eq_true_eq, bne_iff_ne, ne_eq, Int.ofNat_inj]
   rw [h3]
   constructor
   ·rintro ⟨_, _, h⟩; exact ⟨⟨decide_eq_true (by omega), decide_eq_true (by omega)⟩, ⟨decide_eq_true (by omega), decide_eq_true (by omega)⟩, h⟩
   ·rintro ⟨_, _, h⟩; exact ⟨⟨decide_eq_true (by omega), decide_eq_true (by omega)⟩, ⟨decide_eq_true (by omega), decide_eq_true (by omega)⟩, h⟩
  ·simp only [joinB, withinB, cvJ, Bool.and_eq_true, decide_eq_true_eq, bne_iff_ne, ne_eq]
   constructor
   ·rintro ⟨h1, h2, h3⟩; exact ⟨h2, h1, fun e => h3 e.symm⟩
   ·rintro ⟨h1, h2, h3⟩; exact ⟨h2, h1, fun e => h3 e.symm⟩
/-! ### rotations -/
theorem rot_val {i k n : Nat} (hi : i < n) (hk : k < n) : (i + k) % n = if i + k < n then i + k else i + k - n := by
 by_cases h : i + k < n
 ·rw [if_pos h, Nat.mod_eq_of_lt h]
 ·rw [if_neg h, Nat.mod_eq_sub_mod (by omega), Nat.mod_eq_of_lt (by omega)]
theorem unrot_val {i k n : Nat} (hi : i < n) (hk : k < n) : (i + n - k) % n = if i < k then i + n - k else i - k := by
 by_cases h : i < k
 ·rw [if_pos h, Nat.mod_eq_of_lt (by omega)]
 ·rw [if_neg h, Nat.mod_eq_sub_mod (by omega), Nat.mod_eq_of_lt (by omega)]
  omega
theorem rot_ren {n k : Nat} (hk : k < n) : Ren n (fun i => (i + k) % n) (fun j => (j + n - k) % n) := by
 refine ⟨fun i hi => Nat.mod_lt _ (by omega), fun i hi => Nat.mod_lt _ (by omega), fun i hi => ?_, fun i hi => ?_⟩
 ·show ((i + k) % n + n - k) % n = i
  have h0 : (i + k) % n < n := Nat.mod_lt _ (by omega)
  rw [unrot_val h0 hk, rot_val hi hk]
  by_cases h : i + k < n
  ·rw [if_pos h, if_neg (by omega)]; omega
  ·rw [if_neg h, if_pos (by omega)]; omega
 ·show ((i + n - k) % n + k) % n = i
  have h0 : (i + n - k) % n < n := Nat.mod_lt _ (by omega)
  rw [rot_val h0 hk, unrot_val hi hk]
  by_cases h : i < k
  ·rw [if_pos h, if_neg (by omega)]; omega
  ·rw [if_neg h, if_pos (by omega)]; omega
theorem rot_get {α : Type} (z : α) (rs : List α) (k : Nat) (hk : k < rs.length) (i : Nat) (hi : i < rs.length) : (rs.drop k ++ rs.take k).getD i z = rs.getD ((i + k) % rs.length) z := by
 rw [rot_val hi hk]
 simp only [List.getD_eq_getElem?_getD]
 by_cases h : i + k < rs.length
 ·rw [if_pos h, List.getElem?_append_left (by rw [List.length_drop]; omega), List.getElem?_drop, Nat.add_comm k i]
 ·rw [if_neg h, List.getElem?_append_right (by rw [List.length_drop]; omega), List.length_drop, List.getElem?_take_of_lt (by omega)]
  congr 2
  omega
theorem rot_onto (nj bn : Nat) (q : Nat) (hq : q < nj) : ∃ m, m < nj ∧ (m + bn) % nj = q := by
 have hb : bn % nj < nj := Nat.mod_lt _ (by omega)
 have hr := rot_ren hb
 refine ⟨(q + nj - bn % nj) % nj, Nat.mod_lt _ (by omega), ?_⟩
 have h : ((q + nj - bn % nj) % nj + bn % nj) % nj = q := hr.st q hq
 rw [← Nat.add_mod_mod ((q + nj - bn % nj) % nj) bn nj]
 exact h
/-- The law's joins: behind so many rounds. -/
def JRot (n k bn : Nat) (rj xs : List S62) : Prop := ∀ m, m < xs.length → rd_T62 xs (m : Int) = ⟨((rd_T62 rj (((m + bn) % rj.length : Nat) : Int)).f0 + n - k) % n, ((rd_T62 rj (((m + bn) % rj.length : Nat) : Int)).f1 + n - k) % n⟩ ∨ rd_T62 xs (m : Int) = ⟨((rd_T62 rj (((m + bn) % rj.length : Nat) : Int)).f1 + n - k) % n, ((rd_T62 rj (((m + bn) % rj.length : Nat) : Int)).f0 + n - k) % n⟩
theorem JRot.nil (n k bn : Nat) (rj : List S62) : JRot n k bn rj [] := fun m hm => absurd hm (by simp)
theorem JRot.snoc {n k bn : Nat} {rj xs : List S62} (h : JRot n k bn rj xs) {y : S62} (hy : y = ⟨((rd_T62 rj (((xs.length + bn) % rj.length : Nat) : Int)).f0 + n - k) % n, ((rd_T62 rj (((xs.length + bn) % rj.length : Nat) : Int)).f1 + n - k) % n⟩ ∨ y = ⟨((rd_T62 rj (((xs.length + bn) % rj.length : Nat) : Int)).f1 + n - k) % n, ((rd_T62 rj (((xs.length + bn) % rj.length : Nat) : Int)).f0 + n - k) % n⟩) : JRot n k bn rj (xs ++ [y]) := by
 intro m hm
 rw [List.length_append, List.length_singleton] at hm
 by_cases e : m = xs.length
 ·subst e
  have h1 : rd_T62 (xs ++ [y]) (xs.length : Int) = y := by simp [rd_T62, List.getD]
  rw [h1]
  exact hy
 ·have h1 : rd_T62 (xs ++ [y]) (m : Int) = rd_T62 xs (m : Int) := by
   simp only [rd_T62, Int.toNat_natCast, List.getD_eq_getElem?_getD]
   rw [List.getElem?_append_left (by omega)]
  rw [h1]
  exact h m (by omega)
theorem JRot.rel {n k bn : Nat} {rj xs : List S62} (h : JRot n k bn rj xs) (hl : xs.length = rj.length) (hv : JV n rj 0) (hk : k < n) : JRel (fun j => (j + n - k) % n) (fun m => (m + bn) % rj.length) rj xs := by
 refine ⟨hl, fun m hm => Nat.mod_lt _ (by omega), fun q hq => rot_onto rj.length bn q hq, fun m hm => ?_⟩
 have hm' := h m (by omega)
 obtain ⟨a, b, ha, hb, e⟩ := jv_get hv ((m + bn) % rj.length) (Nat.mod_lt _ (by omega))
 rw [e] at hm' ⊢
 simp only [Int.toNat_natCast] at hm' ⊢
 have key : ∀ c : Nat, c < n → ((c : Int) + n - k) % n = (((c + n - k) % n : Nat) : Int) := by
  intro c hc
  rw [Int.natCast_emod]
  congr 1
  omega
 rw [key a ha, key b hb] at hm'
 exact hm'
end Go.Proofs.Ytiddkceahbnolaa
