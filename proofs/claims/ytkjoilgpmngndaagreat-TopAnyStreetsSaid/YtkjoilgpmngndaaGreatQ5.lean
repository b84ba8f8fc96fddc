import Derived.TacticsInMore
import Derived.Test.YtkjoilgpmngndaaGreatQ2
set_option linter.all false
namespace Go.Proofs.YtkjoilgpmngndaaGreat
open Go.RowKit Go.Proofs.YtkjoilgpmngndaaGreatW.aA Go.Proofs.YtkjoilgpmngndaaGreatW.aJ
abbrev I:Bool:=true
abbrev O:Bool:=false
theorem sb0{α:Type}{l:List α}{i:Nat}{a:α}:l.toArray.setIfInBounds i a=(l.set i a).toArray:=by simp
theorem sb1{α:Type}{x a:α}{l:List α}:(x::l).set 0 a=a::l:=rfl
theorem sb2{α:Type}{x a:α}{l:List α}{n:Nat}:(x::l).set (n+1) a=x::l.set n a:=rfl
theorem sb3{α:Type}{x:α}{l:List α}:(x::l)[0]?=some x:=rfl
theorem sb4{α:Type}{x:α}{l:List α}{n:Nat}:(x::l)[n+1]?=l[n]?:=rfl
theorem bI{P:Program}{md:Region.Mode}{ops:Array Oper}{Q:Exit->Act->World->Prop}{S:World->Prop}{ds:List Nat}{fuel:Nat}{l:Array Bool}{a a':Act}{w:World}{oi:Oper}{v:Value}{T:Bool×List (List Nat×List Nat)}(i N:Nat)(l':Array Bool)
  (hT:aa (eu md ops=T)) (hi:ops[i]?=some oi:=by exact rfl) (hN:oi.dst=some N:=by exact rfl) (hc:Xf T l.toList l'.toList i=true:=by kernel_rfl) (hQ:∀c a w,Q (.panic c) (a.put oi.dst v) w->Q (.panic c) a w:=by exact fun _ _ _ h=>h)
  (hw:Region.wanted oi (yielded ops a.tmps)=true:=by rfl) (hy:∀w,(execOp a.eval oi).run P w= .ok (.value v) w:=by(intro w';go_simp;with_reducible rfl))
  (ha:a.put (some N) v=a':=by(simp only[Act.put,sb0,sb1,sb2,dL,ed];rfl))
  (h:bD P md ops Q S ds fuel l' a' w):bD P md ops Q S ds (fuel+1) l a w:=
 oO l' hi hN (dQ hT.out hc) hQ (Or.inl ⟨hw,hy⟩) ha h
theorem eP{P:Program}{md:Region.Mode}{ops:Array Oper}{Q:Exit->Act->World->Prop}{S:World->Prop}{ds:List Nat}{fuel:Nat}{l:Array Bool}{a a':Act}{w:World}{oi:Oper}{v:Value}{T:Bool×List (List Nat×List Nat)}{B:List Nat}(i N:Nat)(l':Array Bool)
  (hT:aa (eu md ops=T)) (hB:aa (bO T.2 B=true)) (hS:S w) (hi:ops[i]?=some oi:=by exact rfl) (hN:oi.dst=some N:=by exact rfl) (hc:Oe T B ds l.toList l'.toList i=true:=by kernel_rfl) (hQ:∀c a w,Q (.panic c) (a.put oi.dst v) w->Q (.panic c) a w:=by exact fun _ _ _ h=>h)
  (hw:Region.wanted oi (yielded ops a.tmps)=true:=by rfl) (hy:∀w,S w->(execOp a.eval oi).run P w= .ok (.value v) w)
  (ha:a.put (some N) v=a':=by(simp only[Act.put,sb0,sb1,sb2,dL,ed];rfl))
  (h:bD P md ops Q S ds fuel l' a' w):bD P md ops Q S ds (fuel+1) l a w:=
 Rf l' hi hN (Jd hT.out hB.out hc) hQ (Or.inl ⟨hw,hy⟩) hS ha h
end Go.Proofs.YtkjoilgpmngndaaGreat
