/- A region that draws its order, in a round of a range over a function at the wide fence: by the plain calculus. -/
import Derived.Test.YtiddkceahbnolaaSplitP
import Derived.Test.YtiddkceahbnolaaWLast
import Derived.RangeFuncNested
import Derived.RangeFuncBound
import Derived.CallsIn
import Derived.OrdersIn
namespace Go.Proofs.Ytiddkceahbnolaa
open Go.RowKit Go.Shelf Go.Proofs.Ytiddkceahbnolaa.PWalkOrder Go.Proofs.YtiddkceahbnolaaW.PrintWords Go.Proofs.YtiddkceahbnolaaW.PrintLast
set_option linter.unusedVariables false

def noDefer (ops : Array Oper) : Bool := ops.all fun o => match o.op with | .defer _ => false | _ => true
theorem noDefer_spec {ops : Array Oper} (h : noDefer ops = true) {i : Nat} {o : Oper} (ho : ops[i]? = some o) (c : Call) : o.op ≠ .defer c := by
 intro e
 obtain ⟨hi, he⟩ := Array.getElem?_eq_some_iff.1 ho
 unfold noDefer at h
 rw [Array.all_eq_true] at h
 have := h i hi
 rw [he, e] at this
 cases this

theorem uponIn_round_of_upon {r n : Nat} {P : Program} {o : Oper} {a : Act} {K K' : Act → World → Prop} {Q : Exit → Act → World → Prop} (hK : ∀ a w, K a w → K' a w) {x : Result Next} (h : o.upon P a K Q x) : o.uponIn (Fence.wide.inRound r) n P a K' Q x := by
 have hno : (Fence.wide.inRound r).depth.isSome = true → 1 ≤ n := fun e => absurd e (by simp [Fence.wide])
 cases x with
 | ok v w' =>
  cases v with
  | value v => exact hK _ _ h
  | skip => exact hK _ _ h
  | defer d => exact hK _ _ h
  | enter f args => exact ⟨hno, CallsIn.inRound r (callsIn_wide.2 (Calls.mono h (fun e w'' he => by cases e <;> first | exact hK _ _ he | exact he)))⟩
  | row row args => exact ⟨hno, fun c cs _ => Exists.elim (h c cs) fun v h' => Exists.elim h' fun w'' h'' => ⟨v, w'', hK _ _ h''.1, stepsIn_wide.2 h''.2⟩⟩
  | _ => exact h.elim
 | halt o w' =>
  cases o with
  | panic v => exact h
  | _ => exact h.elim

theorem wpOpsIn_of_wpOps {r n : Nat} {P : Program} {ops : Array Oper} {Q : Exit → Act → World → Prop} (hd : noDefer ops = true) (hQ : ¬ LetsOut Q) : ∀ (l : List Nat) (a : Act) (w : World), wpOps P ops Q l a w → wpOpsIn (Fence.wide.inRound r) n P ops Q l a w
 | [], a, w, h => h
 | i :: rest, a, w, h => by
  unfold wpOps at h
  unfold wpOpsIn
  cases ho : ops[i]? with
  | none =>
   rw [ho] at h
   exact wpOpsIn_of_wpOps hd hQ rest a w h
  | some o =>
   rw [ho] at h
   simp only at h ⊢
   by_cases hw : Region.wanted o (yielded ops a.tmps) = true
   ·rw [if_pos hw] at h ⊢
    rcases h with h | h
    ·refine ⟨fun _ _ => trivial, ?_⟩
     rw [Oper.semAt_eq _ _ _ (noDefer_spec hd ho)]
     exact uponIn_round_of_upon (wpOpsIn_of_wpOps hd hQ rest) h
    ·exact absurd h.2 hQ
   ·rw [if_neg hw] at h ⊢
    exact ⟨fun _ _ => trivial, wpOpsIn_of_wpOps hd hQ rest _ w h⟩

theorem startR_ {r m id n : Nat} {P : Program} {ops : Array Oper} {Q : Exit → Act → World → Prop} {S : World → Prop} {ds : List Nat} {a : Act} {w : World} (hQ : ¬ LetsOut Q) (hd : noDefer ops = true) (l : Array Bool) (hm : P.follows .mixedOrders = true) (hn : ops.size = n) (hl : Array.replicate n false = l) (hS : S w.drew)
  (h : S w.drew → wpAnyLast P .any ops Q S ds n l a w.drew) : (Code.region id ops true).wpIn (Fence.wide.inRound r) m P Q a w := by
 subst hn
 subst hl
 refine wpIn_region_draw fun t => wpOpsIn_of_wpOps hd hQ _ _ _ ?_
 simp only [Region.schedule, hm, Bool.true_or, if_true]
 exact wpAny_sound _ t _ a _ (wpAny_of_last _ _ _ _ (h hS))
end Go.Proofs.Ytiddkceahbnolaa
