import Derived.BigRegion
import Derived.BigRegionIn
import Derived.Test.YtdekaocdmjndaaaGreatQ27
set_option linter.all false
namespace Go.Proofs.YtdekaocdmjndaaaGreat.Wk
open Go.RowKit Go.Shelf ah YtdekaocdmjndaaaGreatW.aj YtdekaocdmjndaaaGreatW.aH
attribute [local go_sem] Oper.semAt_some
def wO(T:Nat->Nat->Int)(i j:Nat)(v:Int):Nat->Nat->Int:=λa b=>if a=i/\b=j then v else T a b
structure Ai(w:World)(ga:Nat)(vW vR:Value)(T F:Nat->Nat->Int)(mb:Nat):Prop where
 blk:∃cs:Array Value,w.heap[ga]?=some (.cells cs 341 (0,0))/\cs.size=131/\cs[0]?=some vW/\cs[1]?=some vR/\cs[130]?=some (.map (some mb)) /\
  (∀i j,i<8->j<8->cs[2+i*8+j]?=some (.int .i64 (T i j))/\cs[66+i*8+j]?=some (.int .i64 (F i j)))
theorem Ai.move{w w':World}{ga:Nat}{vW vR:Value}{T F:Nat->Nat->Int}{mb:Nat}(h:Ai w ga vW vR T F mb)(e:w'.heap[ga]?=w.heap[ga]?):Ai w' ga vW vR T F mb:=by
 obtain⟨cs,h0,h1⟩:=h.blk
 exact⟨cs,e.trans h0,h1⟩
theorem Ai.lt{w:World}{ga:Nat}{vW vR:Value}{T F:Nat->Nat->Int}{mb:Nat}(h:Ai w ga vW vR T F mb):ga<w.heap.size:=by
 obtain⟨cs,h0,h1⟩:=h.blk
 exact ig h0
theorem Ai.time{w:World}{ga:Nat}{vW vR:Value}{T F:Nat->Nat->Int}{mb:Nat}(h:Ai w ga vW vR T F mb){i j:Nat}(hi:i<8)(hj:j<8):w.cell? ⟨ga,2+i*8+j,none⟩=some (.int .i64 (T i j)):=by
 obtain⟨cs,h0,h1,h2,h3,h4,h5⟩:=h.blk
 rw[av h0]
 exact(h5 i j hi hj).1
theorem Ai.first{w:World}{ga:Nat}{vW vR:Value}{T F:Nat->Nat->Int}{mb:Nat}(h:Ai w ga vW vR T F mb){i j:Nat}(hi:i<8)(hj:j<8):w.cell? ⟨ga,66+i*8+j,none⟩=some (.int .i64 (F i j)):=by
 obtain⟨cs,h0,h1,h2,h3,h4,h5⟩:=h.blk
 rw[av h0]
 exact(h5 i j hi hj).2
theorem Ai.map{w:World}{ga:Nat}{vW vR:Value}{T F:Nat->Nat->Int}{mb:Nat}(h:Ai w ga vW vR T F mb):w.cell? ⟨ga,0,none⟩=some vW/\w.cell? ⟨ga,1,none⟩=some vR/\w.cell? ⟨ga,130,none⟩=some (.map (some mb)):=by
 obtain⟨cs,h0,h1,h2,h3,h4,h5⟩:=h.blk
 rw[av h0,av h0,av h0]
 exact⟨h2,h3,h4⟩
theorem Ai.frozen{w:World}{ga:Nat}{vW vR:Value}{T F:Nat->Nat->Int}{mb:Nat}(h:Ai w ga vW vR T F mb)(o:Nat):w.frozen? ⟨ga,o,none⟩=false:=by
 obtain⟨cs,h0,h1⟩:=h.blk
 exact aA h0 o
theorem Ai.y5{w:World}{ga:Nat}{vW vR:Value}{T F:Nat->Nat->Int}{mb:Nat}(h:Ai w ga vW vR T F mb){i j:Nat}(hi:i<8)(hj:j<8)(v:Int):Ai (w.setCell ⟨ga,2+i*8+j,none⟩ (.int .i64 v)) ga vW vR (wO T i j v) F mb:=by
 obtain⟨cs,h0,h1,h2,h3,h4,h5⟩:=h.blk
 refine⟨cs.setIfInBounds (2+i*8+j) (.int .i64 v),fV h0 _ _,by simp[h1],?_,?_,?_,λa b ha hb=>⟨?_,?_⟩⟩
 .rw[Array.getElem?_setIfInBounds_ne (by omega)];exact h2
 .rw[Array.getElem?_setIfInBounds_ne (by omega)];exact h3
 .rw[Array.getElem?_setIfInBounds_ne (by omega)];exact h4
 .unfold wO
  by_cases e:a=i/\b=j
  .rw[if_pos e,e.1,e.2,Array.getElem?_setIfInBounds_self_of_lt (by omega)]
  .rw[if_neg e,Array.getElem?_setIfInBounds_ne (by
    intro e'
    exact e (by omega))]
   exact(h5 a b ha hb).1
 .rw[Array.getElem?_setIfInBounds_ne (by omega)]
  exact(h5 a b ha hb).2
theorem Ai.J3{w:World}{ga:Nat}{vW vR:Value}{T F:Nat->Nat->Int}{mb:Nat}(h:Ai w ga vW vR T F mb){i j:Nat}(hi:i<8)(hj:j<8)(v:Int):Ai (w.setCell ⟨ga,66+i*8+j,none⟩ (.int .i64 v)) ga vW vR T (wO F i j v) mb:=by
 obtain⟨cs,h0,h1,h2,h3,h4,h5⟩:=h.blk
 refine⟨cs.setIfInBounds (66+i*8+j) (.int .i64 v),fV h0 _ _,by simp[h1],?_,?_,?_,λa b ha hb=>⟨?_,?_⟩⟩
 .rw[Array.getElem?_setIfInBounds_ne (by omega)];exact h2
 .rw[Array.getElem?_setIfInBounds_ne (by omega)];exact h3
 .rw[Array.getElem?_setIfInBounds_ne (by omega)];exact h4
 .rw[Array.getElem?_setIfInBounds_ne (by omega)]
  exact(h5 a b ha hb).1
 .unfold wO
  by_cases e:a=i/\b=j
  .rw[if_pos e,e.1,e.2,Array.getElem?_setIfInBounds_self_of_lt (by omega)]
  .rw[if_neg e,Array.getElem?_setIfInBounds_ne (by
    intro e'
    exact e (by omega))]
   exact(h5 a b ha hb).2
def Bools(w:World)(g:Nat)(st:Nat->Bool):Prop:=∃cs:Array Value,w.heap[g]?=some (.cells cs 252 (0,0))/\cs.size=8/\∀i,i<8->cs[i]?=some (.bool (st i))
theorem Bools.move{w w':World}{g:Nat}{st:Nat->Bool}(h:Bools w g st)(e:w'.heap[g]?=w.heap[g]?):Bools w' g st:=by
 obtain⟨cs,h0,h1⟩:=h
 exact⟨cs,e.trans h0,h1⟩
theorem Bools.lt{w:World}{g:Nat}{st:Nat->Bool}(h:Bools w g st):g<w.heap.size:=by
 obtain⟨cs,h0,h1⟩:=h
 exact ig h0
theorem Bools.at_{w:World}{g:Nat}{st:Nat->Bool}(h:Bools w g st){i:Nat}(hi:i<8):w.cell? ⟨g,i,none⟩=some (.bool (st i)):=by
 obtain⟨cs,h0,h1,h2⟩:=h
 rw[av h0]
 exact h2 i hi
theorem Bools.frozen{w:World}{g:Nat}{st:Nat->Bool}(h:Bools w g st)(o:Nat):w.frozen? ⟨g,o,none⟩=false:=by
 obtain⟨cs,h0,h1⟩:=h
 exact aA h0 o
theorem Bools.set{w:World}{g:Nat}{st:Nat->Bool}(h:Bools w g st){i:Nat}(hi:i<8)(b:Bool):Bools (w.setCell ⟨g,i,none⟩ (.bool b)) g (upd st i b):=by
 obtain⟨cs,h0,h1,h2⟩:=h
 refine⟨cs.setIfInBounds i (.bool b),fV h0 _ _,by simp[h1],λj hj=>?_⟩
 unfold upd
 by_cases e:j=i
 .rw[if_pos e,e,Array.getElem?_setIfInBounds_self_of_lt (by omega)]
 .rw[if_neg e,Array.getElem?_setIfInBounds_ne (λx=>e x.symm)]
  exact h2 j hj
theorem aV.move{w w':World}{g:Nat}{cs:List Value}{t:TypeId}(h:aV w g cs t)(e:w'.heap[g]?=w.heap[g]?):aV w' g cs t:=e.trans h
theorem aV.set1{w:World}{g:Nat}{v:Value}{t:TypeId}(h:aV w g [v] t)(u:Value):aV (w.setCell ⟨g,0,none⟩ u) g [u] t:=by
 have:=fV h 0 u
 exact this
def Marks(lo:Nat)(W:World):List Deferred->Prop
 |[]=>True
 |d::ds=>(∃D,d={target:= .collected D,args:=#[]}/\lo<=D/\W.heap[D]?=some (.deferred (some []))/\∀d' ∈ ds,d'.target≠ .collected D)/\Marks lo W ds
def uM(F:Fence)(n:Nat)(P:Program)(fn:Func)(R:Ending->World->Prop):Exit->Act->World->Prop
 | .normal,a,w | .ret,a,w=>LeavesInM F n P fn a.tmps R a.defers .returning w
 |_,_,_=>False
theorem bV{P:Program}{F:Fence}{n:Nat}{f:FuncId}{fn:Func}{c:Code}{args:Array Value}{w:World}{R:Ending->World->Prop}
  (hf:P.funcs[f]?=some fn) (hb:fn.body=some c) (hF:F.fn f)
  (h:c.wpIn F n P (uM F n P fn R) {tmps:=args++Array.replicate (fn.ntmps-args.size) undef,defers:=[]} w) (hro:F.round=none:=by rfl):CallsIn F n P f args w R:=
 callsIn_of_wp_marks hf hb hF (wpIn_mono h (λe a w hq=>by cases e<;>first|exact hq|exact hq.elim)) hro
def dV(T:Nat->Nat->Int)(k:Nat)(c:Nat->Int):Nat->Nat->Int:=λn j=>if j=k then c n else T n j
theorem lW(T:Nat->Nat->Int)(k:Nat)(c:Nat->Int)(n:Nat)(v:Int):wO (dV T k c) n k v=dV T k (upd c n v):=by
 funext a b
 unfold wO dV upd
 by_cases h1:a=n<;>by_cases h2:b=k<;>simp[h1,h2]
theorem qd(T:Nat->Nat->Int)(k:Nat)(c:Nat->Int)(n:Nat):dV T k c n k=c n:=by simp[dV]
theorem yR(T:Nat->Nat->Int)(k:Nat)(c:Nat->Int)(h:∀n,T n k=c n):dV T k c=T:=by
 funext a b
 unfold dV
 by_cases e:b=k
 .rw[if_pos e,e,h]
 .rw[if_neg e]
structure AW(w wr:World)(gm mb ga gv:Nat)(vW vR:Value)(T F:Nat->Nat->Int):Prop where
 below:Below w.heap.size w wr
 m:aV wr gm [vW,vR] 155
 v:aV wr gv [.pointer (some ⟨ga,0,none⟩)] 268
 hm:wr.heap[mb]?=some (.map #[] 0)
 jO:Ai wr ga vW vR T F mb
 lo:w.heap.size<=gm
 l1:gm<mb
 l2:mb<ga
 l3:ga<gv
section
variable {w wr:World} {gm mb ga gv:Nat} {vW vR:Value} {T F:Nat->Nat->Int}
theorem AW.alloc(h:AW w wr gm mb ga gv vW vR T F)(o:Obj):AW w (wr.alloc o) gm mb ga gv vW vR T F:=
 ⟨ae h.below o,h.m.alloc o,h.v.alloc o,ay h.hm o,h.jO.move (Below.heap_alloc wr o ga h.jO.lt),h.lo,h.l1,h.l2,h.l3⟩
theorem AW.drewN(h:AW w wr gm mb ga gv vW vR T F)(n:Nat):AW w (wr.drewN n) gm mb ga gv vW vR T F:=⟨ag h.below n,h.m,h.v,h.hm,h.jO.move rfl,h.lo,h.l1,h.l2,h.l3⟩
theorem AW.drew(h:AW w wr gm mb ga gv vW vR T F):AW w wr.drew gm mb ga gv vW vR T F:=⟨aN h.below,h.m,h.v,h.hm,h.jO.move rfl,h.lo,h.l1,h.l2,h.l3⟩
theorem AW.Y8(h:AW w wr gm mb ga gv vW vR T F):gv<wr.heap.size:=h.v.lt
theorem AW.other(h:AW w wr gm mb ga gv vW vR T F){p:Addr}(hp:gv<p.block)(u:Value):AW w (wr.setCell p u) gm mb ga gv vW vR T F:=by
 have h0:=h.lo;have h1:=h.l1;have h2:=h.l2;have h3:=h.l3
 exact⟨h.below.setCell (by omega) u,h.m.move (Below.heap_setCell _ _ _ _ (by omega)),h.v.move (Below.heap_setCell _ _ _ _ (by omega)),(Below.heap_setCell _ _ _ _ (by omega)).trans h.hm,h.jO.move (Below.heap_setCell _ _ _ _ (by omega)),h.lo,h.l1,h.l2,h.l3⟩
theorem AW.y5(h:AW w wr gm mb ga gv vW vR T F){i j:Nat}(hi:i<8)(hj:j<8)(v:Int):AW w (wr.setCell ⟨ga,2+i*8+j,none⟩ (.int .i64 v)) gm mb ga gv vW vR (wO T i j v) F:=by
 have h0:=h.lo;have h1:=h.l1;have h2:=h.l2;have h3:=h.l3
 exact⟨h.below.setCell (by simp only;omega) _,h.m.move (Below.heap_setCell _ _ _ _ (by simp only;omega)),h.v.move (Below.heap_setCell _ _ _ _ (by simp only;omega)),(Below.heap_setCell _ _ _ _ (by simp only;omega)).trans h.hm,h.jO.y5 hi hj v,h.lo,h.l1,h.l2,h.l3⟩
theorem AW.J3(h:AW w wr gm mb ga gv vW vR T F){i j:Nat}(hi:i<8)(hj:j<8)(v:Int):AW w (wr.setCell ⟨ga,66+i*8+j,none⟩ (.int .i64 v)) gm mb ga gv vW vR T (wO F i j v):=by
 have h0:=h.lo;have h1:=h.l1;have h2:=h.l2;have h3:=h.l3
 exact⟨h.below.setCell (by simp only;omega) _,h.m.move (Below.heap_setCell _ _ _ _ (by simp only;omega)),h.v.move (Below.heap_setCell _ _ _ _ (by simp only;omega)),(Below.heap_setCell _ _ _ _ (by simp only;omega)).trans h.hm,h.jO.J3 hi hj v,h.lo,h.l1,h.l2,h.l3⟩
end
def TT(R:List dJ)(N k:Nat):Nat->Nat->Int:=λn j=>if j<k then(gW R N j N).c n else 0
def FF(R:List dJ)(N k:Nat):Nat->Nat->Int:=λn j=>if j<k then(gW R N j N).f n else 0
theorem RN(R:List dJ)(N k:Nat):dV (TT R N k) k (gW R N k N).c=TT R N (k+1):=by
 funext a b
 unfold dV TT
 by_cases e:b=k
 .subst e;simp
 .rw[if_neg e]
  by_cases h:b<k
  .rw[if_pos h,if_pos (by omega)]
  .rw[if_neg h,if_neg (by omega)]
theorem Sb(R:List dJ)(N k:Nat):dV (FF R N k) k (gW R N k N).f=FF R N (k+1):=by
 funext a b
 unfold dV FF
 by_cases e:b=k
 .subst e;simp
 .rw[if_neg e]
  by_cases h:b<k
  .rw[if_pos h,if_pos (by omega)]
  .rw[if_neg h,if_neg (by omega)]
theorem Um:Tryz.zeroCells341.size=131/\(∀i,i<128->Tryz.zeroCells341[2+i]?=some (.int .i64 0)):=by
 constructor
 .kernel_rfl
 .intro i hi
  have:∀i:Fin 128,(Tryz.zeroCells341[2+i.1]?.map λv=>match v with | .int .i64 0=>true|_=>false)=some true:=by decide +kernel
  have h:=this ⟨i,hi⟩
  simp only at h
  cases hv:Tryz.zeroCells341[2+i]? with
  |none=>rw[hv] at h;cases h
  |some v=>
   rw[hv] at h
   simp only[Option.map_some,Option.some.injEq] at h
   split at h
   .rfl
   .cases h
theorem Rz(W:World)(vW vR:Value)(mb:Nat)(R:List dJ)(N:Nat)(hv:vW.oneCell'=true):
  Ai (W.alloc (.cells (((Tryz.zeroCells341.setIfInBounds 0 vW).setIfInBounds 1 vR).setIfInBounds 130 (.map (some mb))) 341)) W.heap.size vW vR (TT R N 0) (FF R N 0) mb:=by
 obtain⟨z1,z2⟩:=Um
 refine⟨_,heap_alloc_new W _,by simp[z1],?_,?_,?_,λi j hi hj=>⟨?_,?_⟩⟩
 .rw[Array.getElem?_setIfInBounds_ne (by omega),Array.getElem?_setIfInBounds_ne (by omega),Array.getElem?_setIfInBounds_self_of_lt (by omega)]
 .rw[Array.getElem?_setIfInBounds_ne (by omega),Array.getElem?_setIfInBounds_self_of_lt (by simp[z1])]
 .rw[Array.getElem?_setIfInBounds_self_of_lt (by simp[z1])]
 .rw[Array.getElem?_setIfInBounds_ne (by omega),Array.getElem?_setIfInBounds_ne (by omega),Array.getElem?_setIfInBounds_ne (by omega),show 2+i*8+j=2+(i*8+j) from by omega,z2 _ (by omega)]
  simp[TT]
 .rw[Array.getElem?_setIfInBounds_ne (by omega),Array.getElem?_setIfInBounds_ne (by omega),Array.getElem?_setIfInBounds_ne (by omega),show 66+i*8+j=2+(64+i*8+j) from by omega,z2 _ (by omega)]
  simp[FF]
structure GW(w wr:World)(gm mb ga gv:Nat)(vW vR:Value)(T F:Nat->Nat->Int)(gg gs:Nat)(k:Nat)(st:Nat->Bool):Prop where
 aw:AW w wr gm mb ga gv vW vR T F
 goal:aV wr gg [.int .i64 (k:Int)] 3
 set:Bools wr gs st
 l4:gv<gg
 l5:gg<gs
section
variable {w wr:World} {gm mb ga gv:Nat} {vW vR:Value} {T F:Nat->Nat->Int} {gg gs k:Nat} {st:Nat->Bool}
theorem GW.alloc(h:GW w wr gm mb ga gv vW vR T F gg gs k st)(o:Obj):GW w (wr.alloc o) gm mb ga gv vW vR T F gg gs k st:=
 ⟨h.aw.alloc o,h.goal.alloc o,h.set.move (Below.heap_alloc wr o gs h.set.lt),h.l4,h.l5⟩
theorem GW.drewN(h:GW w wr gm mb ga gv vW vR T F gg gs k st)(n:Nat):GW w (wr.drewN n) gm mb ga gv vW vR T F gg gs k st:=⟨h.aw.drewN n,h.goal,h.set,h.l4,h.l5⟩
theorem GW.drew(h:GW w wr gm mb ga gv vW vR T F gg gs k st):GW w wr.drew gm mb ga gv vW vR T F gg gs k st:=⟨h.aw.drew,h.goal,h.set,h.l4,h.l5⟩
theorem GW.other(h:GW w wr gm mb ga gv vW vR T F gg gs k st){p:Addr}(hp:gs<p.block)(u:Value):GW w (wr.setCell p u) gm mb ga gv vW vR T F gg gs k st:=by
 have h4:=h.l4;have h5:=h.l5
 exact⟨h.aw.other (by omega) u,h.goal.move (Below.heap_setCell _ _ _ _ (by omega)),h.set.move (Below.heap_setCell _ _ _ _ (by omega)),h.l4,h.l5⟩
theorem GW.y5(h:GW w wr gm mb ga gv vW vR T F gg gs k st){i j:Nat}(hi:i<8)(hj:j<8)(v:Int):GW w (wr.setCell ⟨ga,2+i*8+j,none⟩ (.int .i64 v)) gm mb ga gv vW vR (wO T i j v) F gg gs k st:=by
 have h3:=h.aw.l3;have h4:=h.l4;have h5:=h.l5
 exact⟨h.aw.y5 hi hj v,h.goal.move (Below.heap_setCell _ _ _ _ (by simp only;omega)),h.set.move (Below.heap_setCell _ _ _ _ (by simp only;omega)),h.l4,h.l5⟩
theorem GW.J3(h:GW w wr gm mb ga gv vW vR T F gg gs k st){i j:Nat}(hi:i<8)(hj:j<8)(v:Int):GW w (wr.setCell ⟨ga,66+i*8+j,none⟩ (.int .i64 v)) gm mb ga gv vW vR T (wO F i j v) gg gs k st:=by
 have h3:=h.aw.l3;have h4:=h.l4;have h5:=h.l5
 exact⟨h.aw.J3 hi hj v,h.goal.move (Below.heap_setCell _ _ _ _ (by simp only;omega)),h.set.move (Below.heap_setCell _ _ _ _ (by simp only;omega)),h.l4,h.l5⟩
theorem GW.adP(h:GW w wr gm mb ga gv vW vR T F gg gs k st){i:Nat}(hi:i<8)(b:Bool):GW w (wr.setCell ⟨gs,i,none⟩ (.bool b)) gm mb ga gv vW vR T F gg gs k (upd st i b):=by
 have h4:=h.l4;have h5:=h.l5
 exact⟨h.aw.other (by simp only;omega) _,h.goal.move (Below.heap_setCell _ _ _ _ (by simp only;omega)),h.set.set hi b,h.l4,h.l5⟩
theorem GW.uY(h:GW w wr gm mb ga gv vW vR T F gg gs k st):wr.cell? ⟨gv,0,none⟩=some (.pointer (some ⟨ga,0,none⟩)):=by simpa using h.aw.v.cell 0
theorem GW.vO(h:GW w wr gm mb ga gv vW vR T F gg gs k st):wr.cell? ⟨gg,0,none⟩=some (.int .i64 (k:Int)):=by simpa using h.goal.cell 0
theorem GW.m0(h:GW w wr gm mb ga gv vW vR T F gg gs k st):wr.cell? ⟨gm,0,none⟩=some vW:=by simpa using h.aw.m.cell 0
theorem GW.m1(h:GW w wr gm mb ga gv vW vR T F gg gs k st):wr.cell? ⟨gm,1,none⟩=some vR:=by simpa using h.aw.m.cell 1
end
theorem K6(R:List dJ)(N k:Nat):dV (TT R N k) k (λn=>if n<0 then 1048576 else 0)=TT R N k:=yR _ _ _ (λn=>by simp[TT])
theorem La(R:List dJ)(N k i:Nat):wO (dV (TT R N k) k (λn=>if n<i then 1048576 else 0)) i k 1048576=dV (TT R N k) k (λn=>if n<i+1 then 1048576 else 0):=by
 rw[lW]
 congr 1
 funext n
 unfold upd
 by_cases h:n=i
 .rw[if_pos h,if_pos (by omega)]
 .rw[if_neg h]
  by_cases h':n<i
  .simp only[if_pos h',if_pos (show n<i+1 by omega)]
  .simp only[if_neg h',if_neg (show ¬n<i+1 by omega)]
theorem OE(R:List dJ)(N k:Nat):wO (dV (TT R N k) k (λn=>if n<N then 1048576 else 0)) k k 0=dV (TT R N k) k (gW R N k 0).c:=by
 rw[lW]
 congr 1
theorem Lb(R:List dJ)(N k:Nat):wO (FF R N k) k k (k:Int)=dV (FF R N k) k (gW R N k 0).f:=by
 have:FF R N k=dV (FF R N k) k (λ_=>0):=(yR _ _ _ (λn=>by simp[FF])).symm
 rw[this,lW]
 funext a b
 unfold dV
 by_cases e:b=k
 .rw[if_pos e,if_pos e];rfl
 .rw[if_neg e,if_neg e,if_neg e]
theorem Lm(W:World)(h:Tryz.prog.info? 4=Tryz.prog.info? 4):Bools (W.alloc (.cells #[.bool false,.bool false,.bool false,.bool false,.bool false,.bool false,.bool false,.bool false] 252)) W.heap.size (λ_=>false):=by
 refine⟨_,heap_alloc_new W _,rfl,λi hi=>?_⟩
 have:i=0\/i=1\/i=2\/i=3\/i=4\/i=5\/i=6\/i=7:=by omega
 rcases this with rfl|rfl|rfl|rfl|rfl|rfl|rfl|rfl<;>rfl
theorem Marks.move{lo:Nat}{W W':World}(hm:∀D:Nat,W.heap[D]?=some (Obj.deferred (some []))->W'.heap[D]?=some (Obj.deferred (some []))):∀{ds:List Deferred},Marks lo W ds->Marks lo W' ds
 |[],_=>trivial
 |_::_,⟨⟨D,h1,h2,h3,h4⟩,h5⟩=>⟨⟨D,h1,h2,hm D h3,h4⟩,Marks.move hm h5⟩
theorem Marks.alloc{lo:Nat}{W:World}{ds:List Deferred}(h:Marks lo W ds)(o:Obj):Marks lo (W.alloc o) ds:=Marks.move (λD hd=>ay hd o) h
theorem Marks.drewN{lo:Nat}{W:World}{ds:List Deferred}(h:Marks lo W ds)(n:Nat):Marks lo (W.drewN n) ds:=Marks.move (W:=W) (W':=W.drewN n) (λ_ hd=>hd) h
theorem Marks.drew{lo:Nat}{W:World}{ds:List Deferred}(h:Marks lo W ds):Marks lo W.drew ds:=Marks.move (W:=W) (W':=W.drew) (λ_ hd=>hd) h
theorem Marks.setCell{lo:Nat}{W:World}{ds:List Deferred}(h:Marks lo W ds)(p:Addr)(u:Value):Marks lo (W.setCell p u) ds:=by
 refine Marks.move (λD hd=>?_) h
 simp only[World.setCell,Array.getElem?_modify]
 by_cases e:p.block=D
 .rw[if_pos e,hd]
  rfl
 .rw[if_neg e]
  exact hd
def fC.Wn:Bool×List (List Nat×List Nat):=(true,[([],[]),([],[]),([],[]),([],[]),([],[]),([],[]),([],[]),([0],[0]),([7],[7]),([8,1],[1,8]),([9,2,0,1,2],[2,9]),([10,0,1,2],[10]),([3],[3]),([12],[12]),([13,4],[4,13]),([14,5,0,1,2,3,4,5,6,7,8,9,10,11],[5,14]),([15,6,11,0,1,2,3,4,5,6,7,8,9,10,11],[6,15])])
def fC.B11:List Nat:=[0,0,0,0,0,0,0,1,129,387,903,1927,8,4104,12312,32767,65535]
theorem fC.ME:eB .any (opsOf Tryz.f138 11)=fC.Wn:=by kernel_rfl
theorem fC.Dt:bI fC.Wn.2 fC.B11=true:=by kernel_rfl
def fC.T25:Bool×List (List Nat×List Nat):=(true,[([],[]),([],[]),([],[]),([0],[0]),([3],[3]),([4,1],[1,4]),([5,2],[2,5]),([6],[6]),([],[]),([7,8],[7,8]),([9,0,1,2,3,4,5,6,7,8,9],[9])])
def fC.B25:List Nat:=[0,0,0,1,9,27,63,127,0,511,1023]
theorem fC.XO:eB .any (opsOf Tryz.f138 25)=fC.T25:=by kernel_rfl
theorem fC.Wi:bI fC.T25.2 fC.B25=true:=by kernel_rfl
def fC.T26:Bool×List (List Nat×List Nat):=(true,[([],[]),([],[]),([],[]),([],[]),([1],[1]),([4],[4]),([5,2],[2,5]),([6,3],[3,6]),([7],[7]),([0,8],[0,8])])
def fC.B26:List Nat:=[0,0,0,0,2,18,54,126,254,511]
theorem fC.Su:eB .any (opsOf Tryz.f138 26)=fC.T26:=by kernel_rfl
theorem fC.OP:bI fC.T26.2 fC.B26=true:=by kernel_rfl
def fC.T27:Bool×List (List Nat×List Nat):=(true,[([],[]),([],[]),([],[]),([],[]),([],[]),([],[]),([],[]),([],[]),([0],[0]),([8],[8]),([9,1],[1,9]),([10,2,0,1,2,6],[2,10]),([11,6,0,1,2,6],[6,11]),([3],[3]),([13],[13]),([14,4],[4,14]),([15,5,0,1,2,3,4,5,6,7,8,9,10,11,12],[5,15]),([16,7,12,0,1,2,3,4,5,6,7,8,9,10,11,12],[7,16])])
def fC.B27:List Nat:=[0,0,0,0,0,0,0,0,1,257,771,1863,3911,8,8200,24600,65535,131071]
theorem fC.XN:eB .any (opsOf Tryz.f138 27)=fC.T27:=by kernel_rfl
theorem fC.Wh:bI fC.T27.2 fC.B27=true:=by kernel_rfl
end Go.Proofs.YtdekaocdmjndaaaGreat.Wk
namespace Go.Proofs.YtdekaocdmjndaaaGreat.Wk
open Go.RowKit Go.Shelf ah YtdekaocdmjndaaaGreatW.aj YtdekaocdmjndaaaGreatW.aH
theorem AW.kept{w wr W':World}{gm mb ga gv:Nat}{vW vR:Value}{T F:Nat->Nat->Int}(h:AW w wr gm mb ga gv vW vR T F){B:Nat}{row:Option Nat}(hB:gv<B)(hg:wr.grownBy W' row)(hr:∀r,row=some r->B<=r):AW w W' gm mb ga gv vW vR T F:=by
 have h0:=h.lo;have h1:=h.l1;have h2:=h.l2;have h3:=h.l3;have h4:=h.Y8
 have hk:∀k,k<=gv->W'.heap[k]?=wr.heap[k]?:=λk hk=>hg.block k (by omega) (λe=>by have:=hr k e.symm;omega)
 exact⟨h.below.grown hg h.below.size (λk e=>by have:=hr k e;omega),h.m.move (hk _ (by omega)),h.v.move (hk _ (by omega)),(hk _ (by omega)).trans h.hm,h.jO.move (hk _ (by omega)),h0,h1,h2,h3⟩
theorem GW.kept{w wr W':World}{gm mb ga gv:Nat}{vW vR:Value}{T F:Nat->Nat->Int}{gg gs k:Nat}{st:Nat->Bool}(h:GW w wr gm mb ga gv vW vR T F gg gs k st){B:Nat}{row:Option Nat}(hB:gs<B)(hg:wr.grownBy W' row)(hr:∀r,row=some r->B<=r):GW w W' gm mb ga gv vW vR T F gg gs k st:=by
 have h4:=h.l4;have h5:=h.l5;have h6:=h.set.lt
 have hk:∀k,k<=gs->W'.heap[k]?=wr.heap[k]?:=λk hk=>hg.block k (by omega) (λe=>by have:=hr k e.symm;omega)
 exact⟨h.aw.kept (B:=B) (by omega) hg hr,h.goal.move (hk _ (by omega)),h.set.move (hk _ (by omega)),h4,h5⟩
theorem aV.kept{wr W':World}{g:Nat}{cs:List Value}{t:TypeId}(h:aV wr g cs t){B:Nat}{row:Option Nat}(hB:g<B)(hg:wr.grownBy W' row)(hr:∀r,row=some r->B<=r):aV W' g cs t:=
 h.move (hg.block g h.lt (λe=>by have:=hr g e.symm;omega))
def gQ(a b:World):Prop:=∀D:Nat,a.heap[D]?=some (Obj.deferred (some []))->b.heap[D]?=some (Obj.deferred (some []))
theorem gQ.refl(a:World):gQ a a:=λ_ h=>h
theorem gQ.setCell{a b:World}(h:gQ a b)(p:Addr)(u:Value):gQ a (b.setCell p u):=λD hd=>(KeepsOthers.setCell b p u).same D _ (h D hd) rfl
theorem gQ.drew{a b:World}(h:gQ a b):gQ a b.drew:=h
theorem gQ.kept{a b c:World}(h:gQ a b){B:Nat}{row:Option Nat}(hB:a.heap.size<=B)(hg:b.grownBy c row)(hr:∀r,row=some r->B<=r):gQ a c:=λD hd=>by
 have h1:D<a.heap.size:=(Array.getElem?_eq_some_iff.1 hd).1
 have h2:D<b.heap.size:=(Array.getElem?_eq_some_iff.1 (h D hd)).1
 exact(hg.block D h2 (λe=>by have:=hr D e.symm;omega)).trans (h D hd)
theorem Marks.cons{lo:Nat}{a b:World}{ds:List Deferred}(h:Marks lo a ds)(hm:gQ a b){D:Nat}(hD:a.heap.size<=D)(hlo:lo<=a.heap.size)(yh:b.heap[D]?=some (.deferred (some []))):Marks lo b ({target:= .collected D,args:=#[]}::ds):=by
 refine⟨⟨D,rfl,by omega,yh,?_⟩,Marks.move hm h⟩
 clear yh hm hlo
 induction ds with
 |nil=>exact λd hd=>by cases hd
 |cons d ds ih=>
  obtain⟨⟨D',rfl,h2,h3,h4⟩,h5⟩:=h
  have h6:D'<a.heap.size:=(Array.getElem?_eq_some_iff.1 h3).1
  intro d' hd'
  rcases List.mem_cons.1 hd' with rfl|hd'
  .simp only[ne_eq,Target.collected.injEq]
   omega
  .exact ih h5 d' hd'
theorem cO(W:World){D k:Nat}(o:Obj)(h:k≠D):(W.putObj D o).heap[k]?=W.heap[k]?:=World.putObj_heap_other h
theorem Marks.put{lo:Nat}{W:World}{D:Nat}(o:Obj):∀{ds:List Deferred},Marks lo W ds->(∀d' ∈ ds,d'.target≠ .collected D)->Marks lo (W.putObj D o) ds
 |[],_,_=>trivial
 |d::ds,⟨⟨D',h1,h2,h3,h4⟩,h5⟩,hd=>by
  refine⟨⟨D',h1,h2,?_,h4⟩,Marks.put o h5 (λd' hd'=>hd d' (List.mem_cons_of_mem _ hd'))⟩
  rw[cO W o (by rintro rfl;exact hd d List.mem_cons_self (by rw[h1]))]
  exact h3
theorem Marks.leaves{lo:Nat}{F:Fence}{n:Nat}{P:Program}{fn:Func}{tmps:Array Value}{R:Ending->World->Prop}{Inv:World->Prop}(hInv:∀(W:World) (D:Nat),lo<=D->W.heap[D]?=some (.deferred (some []))->Inv W->Inv (W.putObj D (.deferred none)))
  (hend:∀W,Inv W->LeavesIn F n P fn tmps R [] .returning W):∀(ds:List Deferred) (W:World),Marks lo W ds->Inv W->LeavesInM F n P fn tmps R ds .returning W
 |[],W,_,hi=>hend W hi
 |d::ds,W,⟨⟨D,h1,h2,h3,h4⟩,h5⟩,hi=>⟨by simp,.inl ⟨D,_,by rw[h1],run_takeDeferred h3,Marks.leaves hInv hend ds _ (h5.put _ h4) (hInv W D h2 h3 hi)⟩⟩
theorem AW.put{w wr:World}{gm mb ga gv:Nat}{vW vR:Value}{T F:Nat->Nat->Int}(h:AW w wr gm mb ga gv vW vR T F){D:Nat}(hlo:w.heap.size<=D)(hD:wr.heap[D]?=some (.deferred (some [])))(o:Obj):AW w (wr.putObj D o) gm mb ga gv vW vR T F:=by
 have hne:∀{k:Nat} {ob:Obj},wr.heap[k]?=some ob->ob≠ .deferred (some [])->(wr.putObj D o).heap[k]?=wr.heap[k]?:=λ{k ob} hk ho=>cO _ _ (by rintro rfl;rw[hk] at hD;exact ho (Option.some.inj hD))
 obtain⟨cs,h0,_⟩:=h.jO.blk
 exact⟨h.below.grown (grownBy_putObj' wr D o) h.below.size (λk e=>by cases e;exact hlo),h.m.move (hne h.m (by simp)),h.v.move (hne h.v (by simp)),(hne h.hm (by simp)).trans h.hm,h.jO.move (hne h0 (by simp)),h.lo,h.l1,h.l2,h.l3⟩
theorem Gj{p n:Nat}{s:(Nat->Int)×(Nat->Int)}{g:Int}(h:s.1 p+g<s.1 n):oh p s ((n:Int),g)=(upd s.1 n (s.1 p+g),upd s.2 n (p:Int)):=by
 unfold oh
 rw[Int.toNat_natCast,if_pos h]
theorem J9{p n:Nat}{s:(Nat->Int)×(Nat->Int)}{g:Int}(h:¬s.1 p+g<s.1 n):oh p s ((n:Int),g)=s:=by
 unfold oh
 rw[Int.toNat_natCast,if_neg h]
def Ip(N:Nat)(x:Int×Int):Prop:=0<=x.1/\x.1<N/\1<=x.2/\x.2<=50
theorem Qy{N:Nat}{n:Int}{R:List dJ}(h:∀r ∈ R,o6 N r):∀r ∈ R,∀x,DJ n r=some x->Ip N x:=λr hr x hx=>
 let ⟨h1,h2,_,h4,h5⟩:=Ns (h r hr) hx
 ⟨h1,h2,h4,h5⟩
def after{N:Nat}(p:Nat)(c f:Nat->Int)(xs:List {x // Ip N x}):(Nat->Int)×(Nat->Int):=(xs.map (·.1)).foldl (oh p) (c,f)
theorem Ic{N:Nat}(p:Nat)(c f:Nat->Int)(xs:List {x // Ip N x})(x:{x // Ip N x}):after p c f (xs++[x])=oh p (after p c f xs) x.1:=by
 unfold after
 rw[List.map_append,List.foldl_append]
 rfl
theorem Bp{N:Nat}(p:Nat){c f:Nat->Int}(h:Bounded c)(xs:List {x // Ip N x}):Bounded (after p c f xs).1:=by
 unfold after
 refine tT _ _ h (λx hx=>?_)
 obtain⟨y,_,rfl⟩:=List.mem_map.1 hx
 exact y.2.2.2.1
theorem D9{A0:Option Addr}{c0:Nat}{Wk:List fG}{A1:Option Addr}{c1:Nat}{R:List dJ}{w:World}(h:IsMap w A0 c0 Wk A1 c1 R)(h0:0<R.length):∀ad,A1=some ad->ad.block<w.heap.size:=by
 intro ad e
 have hb:=h.br
 obtain⟨ad',e',h1,_⟩:=yI h.roads ((0:Nat):Int) (by omega) (by omega)
 rw[e] at e'
 obtain rfl:=Option.some.inj e'
 have hbk:∀(d:Addr) (i:Nat),(d.add i).block=d.block:=λd i=>by unfold Addr.add;split<;>rfl
 have:=World.block_lt_of_cell? _ _ h1
 rwa [hbk] at this
theorem Qa(t:Array Value)(i j:Tmp)(a b:Value):(#[i,j].zip #[a,b]).foldl (λt (p,v)=>t.setIfInBounds p v) t=(t.setIfInBounds i a).setIfInBounds j b:=by simp
theorem zf{F:Fence}{n:Nat}{P:Program}{α:Type}{g:Operand}{ps:Array Tmp}{assign body:Code}{Q:Exit->Act->World->Prop}{a:Act}{w:World}
  (hro:F.round=none) (h1:1<=n) {gf:Nat} {lb:Array Value} (hg:a.eval g= .func (.func gf) #[] lb) (hFg:F.fn gf) (eg:∀args w,(callFunc gf args).run P w= .ok (.enter gf args) w)
  {encs:α->Array Value} {Kp:World->World->Prop} {S Sp:List α->Prop} {N:Nat} (hseq:SeqStopsK F (n-1) P gf lb encs Kp S Sp N w)
  (hKt:∀{A B C:World},Kp A B->Kp B C->Kp A C) (hKb:∀(W:World) (l:Nat) (o o':Obj),w.heap.size<=l->W.heap[l]?=some o->o.isCells=false->o.isWalk=false->Kp W (W.putObj l o')) (hps:∀x,(encs x).size=ps.size)
  (fz f:Array Value->α->Array Value) (hz:∀t x,(ps.zip (encs x)).foldl (λt (p,v)=>t.setIfInBounds p v) t=fz t x) (I:List α->World->Prop) (hI:OwnFrom w.heap.size I) (h0:I [] w)
  (hassign:∀(l:Nat) (x:α) (W:World) (K:Act->World->Prop),K {tmps:=f a.tmps x,defers:=[]} W ->
   assign.wpIn (F.inRound l) (n-1-1) P (Exit.then K (λ_ _ _=>False)) {tmps:=fz a.tmps x,defers:=[]} W)
  (hbody:∀(l:Nat) (pre:List α) (x:α) (W:World),I pre W->pre.length<N->body.wpIn (F.inRound l) (n-1-1) P (ownPostK Kp I (λ_ _ _=>False) (pre++[x]) W) {tmps:=f a.tmps x,defers:=[]} W)
  (hdone:∀(D:Nat) (xs:List α) (W:World),w.heap.size<=D->S xs->I xs W->W.heap[D]?=some (.deferred (some []))->Q .normal {a with defers:={target:= .collected D,args:=#[]}::a.defers} W):
  (Code.rangeFunc g ps assign body).wpIn F n P Q a w:=
 wpIn_rangeFunc_ownF hro h1 hg hFg eg hseq (λh k=>hKt h k) hKb (Below.refl _ _) hps I (λ_ _ _=>False) hI (λ_ _ _ _ _ h=>h.elim) h0 (λx=>{tmps:=f a.tmps x,defers:=[]}) (λl x W K hK=>by rw[hz];exact hassign l x W K hK) hbody hdone (λ_ _ _ _ _ _ h=>h.elim)
open Go.RowKit ah YtdekaocdmjndaaaGreatW.aj Go.Instr
def jd(a s:Int):Value:= .agg #[.int .i64 a,.int .i64 s]
def iY(x:Int×Int):Value:= .agg #[.int .i64 x.1,.int .i64 x.2]
theorem um:Maps.Keyed Tryz.prog 349:= .of_law (deep_law (m:=2) (by decide) (by kernel_rfl) (by kernel_rfl) (by kernel_rfl))
theorem JY:∀a:Fin 8,∀s:Fin 256,(keyOf Tryz.prog 349 (.agg #[.int .i64 (a.1:Int),.int .i64 (s.1:Int)])).isSome=true:=by decide +kernel
theorem r9{a s:Nat}(ha:a<8)(hs:s<256):∃l,keyOf Tryz.prog 349 (jd a s)=some l:=Option.isSome_iff_exists.1 (JY ⟨a,ha⟩ ⟨s,hs⟩)
def wH(w:World)(mb:Nat)(T:Nat->Nat->Int):Prop:=∃es clock,w.heap[mb]?=some (.map es clock)/\∀e ∈ es.toList,∃a s:Nat,a<8/\s<256/\e.key=jd a s/\e.val=iY (rest T a s)
theorem wH.move{w w':World}{mb:Nat}{T:Nat->Nat->Int}(h:wH w mb T)(e:w'.heap[mb]?=w.heap[mb]?):wH w' mb T:=by
 obtain⟨es,clock,h0,h1⟩:=h
 exact⟨es,clock,e.trans h0,h1⟩
theorem wH.lt{w:World}{mb:Nat}{T:Nat->Nat->Int}(h:wH w mb T):mb<w.heap.size:=by
 obtain⟨es,clock,h0,h1⟩:=h
 exact(Array.getElem?_eq_some_iff.1 h0).1
theorem wH.new{w:World}{mb:Nat}{T:Nat->Nat->Int}(h:w.heap[mb]?=some (.map #[] 0)):wH w mb T:=⟨_,_,h,λe he=>by simp at he⟩
theorem JX{a s b t:Nat}(h:jd a s=jd b t):a=b/\s=t:=by
 unfold jd at h
 simp only[Value.agg.injEq,Array.mk.injEq,List.cons.injEq,Value.int.injEq,true_and,and_true,Int.natCast_inj] at h
 exact h
theorem Nt:Tryz.prog.underlying 338=some (.map 349 346):=by kernel_rfl
theorem adV(w:World):(zeroValue 346).run Tryz.prog w= .ok (iY (0,0)) w:=Tryz.zeroValue346 w
theorem wH.lookup{w:World}{mb:Nat}{T:Nat->Nat->Int}(h:wH w mb T){a s:Nat}(ha:a<8)(hs:s<256):
  ∃v b,(b=true->v=iY (rest T a s))/\(b=false->v=iY (0,0))/\∀w':World,w'.heap[mb]?=w.heap[mb]? ->
   (Instr.lookup 338 (.map (some mb)) (jd a s) true).run Tryz.prog w'= .ok (.tuple #[v,.bool b]) w':=by
 obtain⟨es,clock,h0,h1⟩:=h
 obtain⟨l,hl⟩:=r9 ha hs
 have hk:∀e ∈ es.toList,∃l,keyOf Tryz.prog 349 e.key=some l:=λe he=>by
  obtain⟨b,t,hb,ht,h2,h3⟩:=h1 e he
  rw[h2]
  exact r9 hb ht
 by_cases hex:∃e ∈ es.toList,e.key=jd a s
 .refine⟨iY (rest T a s),true,λ_=>rfl,λe=>by(cases e),λw' hw'=>?_⟩
  rw[h0] at hw'
  have hg:(getObj mb).run Tryz.prog w'= .ok (.map es clock) w':=by simp[getObj,Sem.run,hw']
  unfold Instr.lookup
  simp only[Sem.run_bind,run_underlying Nt,Result.andThen_ok,hg,um.check w' es.isEmpty hl,Sem.run_pure]
  rcases um.find w' hl es.toList hk with⟨hf,hn⟩|⟨j,e,hf,hj,he⟩
  .obtain⟨e,he,he2⟩:=hex
   exact absurd he2 (hn e he)
  .rw[hf]
   obtain⟨b,t,hb,ht,h2,h3⟩:=h1 e (List.mem_of_getElem? hj)
   rw[h2] at he
   obtain⟨rfl,rfl⟩:=JX he
   simp only[Result.andThen_ok,Sem.run_bind,Sem.run_pure,if_true,h3]
 .refine⟨iY (0,0),false,λe=>by(cases e),λ_=>rfl,λw' hw'=>?_⟩
  rw[h0] at hw'
  have hg:(getObj mb).run Tryz.prog w'= .ok (.map es clock) w':=by simp[getObj,Sem.run,hw']
  unfold Instr.lookup
  simp only[Sem.run_bind,run_underlying Nt,Result.andThen_ok,hg,um.check w' es.isEmpty hl,Sem.run_pure]
  rcases um.find w' hl es.toList hk with⟨hf,hn⟩|⟨j,e,hf,hj,he⟩
  .rw[hf]
   simp only[Result.andThen_ok,Sem.run_bind,adV,Sem.run_pure,if_true]
  .exact absurd ⟨e,List.mem_of_getElem? hj,he⟩ hex
theorem wH.update{w:World}{mb:Nat}{T:Nat->Nat->Int}(h:wH w mb T){a s:Nat}(ha:a<8)(hs:s<256):
  ∃o,(Instr.mapUpdate 338 (.map (some mb)) (jd a s) (iY (rest T a s))).run Tryz.prog w= .ok () (w.putObj mb o)/\wH (w.putObj mb o) mb T:=by
 have hlt:=h.lt
 obtain⟨es,clock,h0,h1⟩:=h
 obtain⟨l,hl⟩:=r9 ha hs
 have hk:∀e ∈ es.toList,∃l,keyOf Tryz.prog 349 e.key=some l:=λe he=>by
  obtain⟨b,t,hb,ht,h2,h3⟩:=h1 e he
  rw[h2]
  exact r9 hb ht
 have hg:(getObj mb).run Tryz.prog w= .ok (.map es clock) w:=by simp[getObj,Sem.run,h0]
 have hset:∀o,(setObj mb o).run Tryz.prog w= .ok () (w.putObj mb o):=λo=>by simp[setObj,Sem.run,World.putObj,h0]
 unfold Instr.mapUpdate
 simp only[Sem.run_bind,run_underlying Nt,Result.andThen_ok,hg,um.check w false hl,Sem.run_pure]
 rcases um.find w hl es.toList hk with⟨hf,hn⟩|⟨j,e,hf,hj,he⟩
 .rw[hf]
  refine⟨.map (es.push {key:=jd a s,val:=iY (rest T a s),born:=clock}) (clock+1),?_,?_⟩
  .simp only[Result.andThen_ok,hset]
  .refine⟨_,_,World.putObj_heap_same hlt,λe he=>?_⟩
   rw[Array.toList_push,List.mem_append,List.mem_singleton] at he
   rcases he with he|rfl
   .exact h1 e he
   .exact⟨a,s,ha,hs,rfl,rfl⟩
 .rw[hf]
  have hj':es[j]?=some e:=by rw[<- Array.getElem?_toList];exact hj
  refine⟨.map (es.modify j λe=>{e with key:=jd a s,val:=iY (rest T a s)}) clock,?_,?_⟩
  .simp only[Result.andThen_ok,Sem.run_bind,hj',Option.map_some,Option.getD_some,he,um.stays w hl,hset]
  .refine⟨_,_,World.putObj_heap_same hlt,λe' he'=>?_⟩
   obtain⟨i,hi⟩:=List.getElem?_of_mem he'
   rw[Array.getElem?_toList,Array.getElem?_modify] at hi
   by_cases e:j=i
   .subst e
    rw[if_pos rfl,hj'] at hi
    obtain rfl:=Option.some.inj hi
    exact⟨a,s,ha,hs,rfl,rfl⟩
   .rw[if_neg e] at hi
    exact h1 e' (by rw[<- Array.getElem?_toList] at hi;exact List.mem_of_getElem? hi)
theorem aV.set2{w:World}{g:Nat}{a b:Value}{t:TypeId}(h:aV w g [a,b] t)(u v:Value):aV ((w.setCell ⟨g,0,none⟩ u).setCell ⟨g,1,none⟩ v) g [u,v] t:=by
 have:=fV (fV h 0 u) 1 v
 exact this
structure nX(w:World)(ga:Nat)(vW vR:Value)(T F:Nat->Nat->Int)(mb:Nat):Prop where
 jO:Ai w ga vW vR T F mb
 memo:wH w mb T
 ne:ga≠mb
theorem nX.keep{w w':World}{ga:Nat}{vW vR:Value}{T F:Nat->Nat->Int}{mb:Nat}(h:nX w ga vW vR T F mb)(k:Below w.heap.size w w'):nX w' ga vW vR T F mb:=
 ⟨h.jO.move (k.block ga h.jO.lt),h.memo.move (k.block mb h.memo.lt),h.ne⟩
theorem nX.alloc{w:World}{ga:Nat}{vW vR:Value}{T F:Nat->Nat->Int}{mb:Nat}(h:nX w ga vW vR T F mb)(o:Obj):nX (w.alloc o) ga vW vR T F mb:=h.keep (ae (Below.refl _ _) o)
theorem nX.drew{w:World}{ga:Nat}{vW vR:Value}{T F:Nat->Nat->Int}{mb:Nat}(h:nX w ga vW vR T F mb):nX w.drew ga vW vR T F mb:=⟨h.jO.move rfl,h.memo.move rfl,h.ne⟩
theorem nX.drewN{w:World}{ga:Nat}{vW vR:Value}{T F:Nat->Nat->Int}{mb:Nat}(h:nX w ga vW vR T F mb)(n:Nat):nX (w.drewN n) ga vW vR T F mb:=⟨h.jO.move rfl,h.memo.move rfl,h.ne⟩
theorem nX.other{w:World}{ga:Nat}{vW vR:Value}{T F:Nat->Nat->Int}{mb:Nat}(h:nX w ga vW vR T F mb){p:Addr}(h1:p.block≠ga)(h2:p.block≠mb)(u:Value):nX (w.setCell p u) ga vW vR T F mb:=
 ⟨h.jO.move (Below.heap_setCell _ _ _ _ h1.symm),h.memo.move (Below.heap_setCell _ _ _ _ h2.symm),h.ne⟩
open Go.RowKit ah YtdekaocdmjndaaaGreatW.aj YtdekaocdmjndaaaGreatW.aj.Kd
def kX(w:World)(lo:Nat)(A:Option Addr)(xs:List Int):Prop:=∀i,i<xs.length->∃g,A=some ⟨g,0,none⟩/\lo<=g/\g<w.heap.size/\w.cell? ⟨g,i,none⟩=some (.int .i64 (xs.getD i 0))
theorem wZ{w:World}{base:Nat}{ok:Nat->Prop}{v:Value}{xs:List Int}(h:(Kd.int .i64).R 3 w base ok v xs):∃A c,v= .slice A xs.length c/\xs.length<=c/\kX w base A xs:=by
 obtain⟨A,c,rfl,hl,hC⟩:=dB h
 refine⟨A,c,rfl,hl,λi hi=>?_⟩
 obtain⟨ad,c',e⟩:=Kd.FC h (by omega)
 simp only[Value.slice.injEq] at e
 obtain⟨rfl,_,rfl⟩:=e
 obtain⟨g,rfl⟩:=Il h
 have hb:=(bL h).1 g (by simp[Value.ownBlock])
 obtain⟨cs,h1,h2,h3⟩:=Wv h 0 (i:Int) (by omega) (by omega)
 simp only[Int.toNat_natCast] at h2 h3
 refine⟨g,rfl,hb.2.1,hb.2.2.1,?_⟩
 have h4:cs=[.int .i64 (xs.getD i 0)]:=h2
 subst h4
 have:=h3 0 _ rfl
 rw[Ie,show(Kd.int IntKind.i64).sz=1 from rfl] at this
 simpa using this
theorem kX.keep{w w':World}{lo:Nat}{A:Option Addr}{xs:List Int}{n:Nat}{S:Nat->Prop}(h:kX w lo A xs)(k:aY n S w w')(hn:w.heap.size<=n)(hS:∀g,S g->g<lo):kX w' lo A xs:=λi hi=>by
 obtain⟨g,h1,h2,h3,h4⟩:=h i hi
 exact⟨g,h1,h2,Nat.lt_of_lt_of_le h3 k.size,(k.cell (p:=⟨g,i,none⟩) (by simp only;omega) (λhs=>by have:=hS g hs;omega)).trans h4⟩
theorem kX.setCell{w:World}{lo:Nat}{A:Option Addr}{xs:List Int}(h:kX w lo A xs){p:Addr}(hp:p.block<lo)(u:Value):kX (w.setCell p u) lo A xs:=λi hi=>by
 obtain⟨g,h1,h2,h3,h4⟩:=h i hi
 refine⟨g,h1,h2,by simpa[World.setCell] using h3,?_⟩
 rw[<- h4]
 exact World.cell?_of_block (w:=w) (Below.heap_setCell _ _ _ _ (by simp only;omega))
theorem kX.drew{w:World}{lo:Nat}{A:Option Addr}{xs:List Int}(h:kX w lo A xs):kX w.drew lo A xs:=h
theorem kX.drewN{w:World}{lo:Nat}{A:Option Addr}{xs:List Int}(h:kX w lo A xs)(n:Nat):kX (w.drewN n) lo A xs:=h
end Go.Proofs.YtdekaocdmjndaaaGreat.Wk
