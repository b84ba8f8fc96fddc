import Derived.ArgAppend
import Derived.Below
import Derived.BigQuiet
import Derived.Deep.AppendLies
import Derived.Deep.CutBlock
import Derived.Deep.DeepCutAuto
import Derived.Deep.Draws
import Derived.Deep.LoopGhost
import Derived.Deep.OwnRows
import Derived.Deep.QuietTactic
import Derived.Deep.RegionHeld3
import Derived.KernelRfl
import Derived.Laws.BitsLemmas
import Derived.Laws.BytesArg
import Derived.Laws.IdiomCopy
import Derived.Laws.MakeOwn
import Derived.Laws.OwnMore
import Derived.Laws.Rows
import Derived.Laws.Slices
import Derived.Laws.StructEq
import Derived.Lib.AppendStr
import Derived.Lib.ConvBytes
import Derived.Maps.AppendAt
import Derived.OrdersHeld
import Derived.OwnWalk
import Derived.RowKit
import Derived.RowKit3
import Derived.Tactics
import Derived.WalkKit
import Derived.WideLaws
import Derived.Test.YtkjoilgpmngndaaGreatProg
import Derived.Test.YtkjoilgpmngndaaGreatQ1
set_option linter.all false
namespace Go.Proofs.YtkjoilgpmngndaaGreatW.aA
open Go.RowKit
namespace Kd
section
variable {α:Type} {n:Nat} {d:Kd α} {hs:0<d.sz} {w:World} {base:Nat} {ok:Nat->Prop} {xs:List α} {cs:List Value}
end
section
variable {α:Type} {n:Nat} {enc:α->Value} {h1:∀x,(enc x).oneCell'=true} {hs:0<(scalar enc h1).sz} {w:World} {base:Nat} {ok:Nat->Prop} {xs:List α} {cs:List Value}
end
end Kd
end Go.Proofs.YtkjoilgpmngndaaGreatW.aA
namespace Go.Proofs.YtkjoilgpmngndaaGreatW.aA
open Go.RowKit
section
variable {P:Program}
end
namespace Kd
section
variable {P:Program} {ops:Array Oper} {rest:List Oper} {o:Oper} {a:Act} {Q:Exit->Act->World->Prop} {Kc:Act->World->Prop} {α:Type}
end
section
variable {α:Type} {d:Kd α} {e:Nat} {w:World} {base:Nat} {ok:Nat->Prop} {v:Value} {xs:List α}
end
section
variable {P:Program} {ops:Array Oper} {rest:List Oper} {o:Oper} {a:Act} {Q:Exit->Act->World->Prop} {Kc:Act->World->Prop} {α:Type}
end
end Kd
end Go.Proofs.YtkjoilgpmngndaaGreatW.aA
namespace Go.Proofs.YtkjoilgpmngndaaGreatW.aA
open Go.RowKit
namespace Kd
structure Heap{α:Type}(d:Kd α):Prop where
 K:∀{w w1:World} {x:α} {cs:List Value},(∀k,k<w.heap.size->w1.heap[k]?=w.heap[k]?)->d.K w x cs->d.K w1 x cs
theorem Qw{w w1:World}(hb:∀k,k<w.heap.size->w1.heap[k]?=w.heap[k]?){a:Addr}{v:Value}(h:w.cell? a=some v):w1.cell? a=some v:=by
 have:=hb a.block (World.block_lt_of_cell? w a h)
 simpa[World.cell?,this] using h
theorem Heap.C{α:Type}{d:Kd α}(hd:Heap d){w w1:World}{A:Option Addr}{n:Nat}{xs:List α}(hb:∀k,k<w.heap.size->w1.heap[k]?=w.heap[k]?)(h:d.C w A n xs):d.C w1 A n xs:=
 ⟨h.1,h.2.1,fun hn=>by
  obtain⟨ad,e,hc⟩:=h.2.2 hn
  refine⟨ad,e,fun j p hj=>?_⟩
  obtain⟨c,hs,hr,hcell⟩:=hc j p hj
  exact⟨c,hs,hd.K hb hr,fun i u hu=>Qw hb (hcell i u hu)⟩⟩
section
variable {α:Type} {d:Kd α} {e base g n c:Nat} {ok:Nat->Prop} {w w0 W:World} {A:Option Addr} {xs:List α}
end
end Kd
end Go.Proofs.YtkjoilgpmngndaaGreatW.aA
namespace Go.Proofs.YtkjoilgpmngndaaGreatW.aA
open Go.RowKit
def Kept(w W:World)(S:Nat->Prop):Prop:=w.heap.size<=W.heap.size/\∀i,i<w.heap.size->¬S i->W.heap[i]?=w.heap[i]?
section
variable {w W W2:World} {S S2 S':Nat->Prop}
theorem Kept.refl(w:World)(S:Nat->Prop):Kept w w S:=⟨Nat.le_refl _,fun _ _ _=>rfl⟩
theorem Kept.of_below(h:Below w.heap.size w W)(S:Nat->Prop):Kept w W S:=⟨h.size,fun i hi _=>h.block i hi⟩
theorem Kept.mono(h:Kept w W S)(hs:∀k,S k->S' k):Kept w W S':=⟨h.1,fun i hi hn=>h.2 i hi (fun hk=>hn (hs i hk))⟩
theorem Kept.XI(h:Kept w W S)(k:Kept W W2 S2)(hs:∀k,S2 k->S k\/w.heap.size<=k):Kept w W2 S:=
 ⟨Nat.le_trans h.1 k.1,fun i hi hn=>(k.2 i (Nat.lt_of_lt_of_le hi h.1) (fun h2=>(hs i h2).elim hn (fun h3=>by omega))).trans (h.2 i hi hn)⟩
theorem Kept.below(h:Kept w W S)(hb:Below W.heap.size W W2):Kept w W2 S:=h.XI (Kept.of_below hb (fun _=>False)) (fun _ hk=>hk.elim)
theorem Kept.alloc(h:Kept w W S)(o:Obj):Kept w (W.alloc o) S:=h.below (ae (Below.refl _ _) o)
theorem Kept.drew(h:Kept w W S):Kept w W.drew S:=h
theorem Kept.drewN(h:Kept w W S)(m:Nat):Kept w (W.drewN m) S:=h
theorem Kept.setCell(h:Kept w W S){p:Addr}(hp:S p.block\/w.heap.size<=p.block)(u:Value):Kept w (W.setCell p u) S:=
 h.XI (S2:=fun k=>k=p.block) ⟨by simp[World.setCell],fun i _ hn=>Below.heap_setCell W p u i hn⟩ (fun k hk=>by rw[hk];exact hp)
theorem Kept.keep{g:Nat}(h:iJ w W g none)(k:Kept W W2 S2)(hs:∀k,S2 k->w.heap.size<=k):iJ w W2 g none:=
 ⟨Nat.le_trans h.1 k.1,fun i hi hg hr=>(k.2 i (Nat.lt_of_lt_of_le hi h.1) (fun h2=>by have:=hs i h2;omega)).trans (h.2 i hi hg hr)⟩
end
namespace Kd
section
variable {α:Type} {d:Kd α} {e base n c:Nat} {ok oki S S2:Nat->Prop} {w w0 W W1 W2:World} {v:Value} {A:Option Addr} {xs:List α} {i:Int} {cs:List Value}
end
end Kd
end Go.Proofs.YtkjoilgpmngndaaGreatW.aA
namespace Go.Proofs.YtkjoilgpmngndaaGreatW.aA
open Go.RowKit
def uV(P:World->Prop)(W:World)(ok:Nat->Prop):Prop:=∀W':World,(∀k,ok k->k<W.heap.size->W'.heap[k]?=W.heap[k]?)->P W'
theorem V9{W W1:World}{k:Nat}(h:W1.heap[k]?=W.heap[k]?)(hlt:k<W.heap.size):k<W1.heap.size:=by
 rw[Array.getElem?_eq_getElem hlt] at h
 exact(Array.getElem?_eq_some_iff.1 h).1
namespace uV
variable {P Q:World->Prop} {W W1:World} {ok ok':Nat->Prop}
theorem now(h:uV P W ok):P W:=h W (fun _ _ _=>rfl)
theorem mono(h:uV P W ok)(hok:∀k,ok k->ok' k):uV P W ok':=fun W' hW=>h W' (fun k hk hlt=>hW k (hok k hk) hlt)
theorem bound(h:uV P W ok):uV P W (fun k=>ok k/\k<W.heap.size):=fun W' hW=>h W' (fun k hk hlt=>hW k ⟨hk,hlt⟩ hlt)
theorem step(h:uV P W ok)(hm:∀k,ok k->k<W.heap.size->W1.heap[k]?=W.heap[k]?):uV P W1 ok:=fun W' hW=>h W' (fun k hk hlt=>(hW k hk (V9 (hm k hk hlt) hlt)).trans (hm k hk hlt))
theorem imp(h:uV P W ok)(hi:∀W',P W'->Q W'):uV Q W ok:=fun W' hW=>hi W' (h W' hW)
theorem old(h:uV P W ok)(hb:Below W.heap.size W W1):uV P W1 (fun k=>ok k/\k<W.heap.size):=(h.bound).step (fun k _ hlt=>hb.block k hlt)
end uV
namespace Kd
def F{α:Type}(d:Kd α)(W:World)(ok:Nat->Prop)(A:Option Addr)(n:Nat)(xs:List α):Prop:=uV (fun W=>d.C W A n xs) W ok
def FK{α:Type}(d:Kd α)(W:World)(ok:Nat->Prop)(x:α)(c:List Value):Prop:=uV (fun W=>d.K W x c) W ok
section
variable {α β:Type} {d:Kd α} {e base n n' cc g N:Nat} {ok ok' okp S:Nat->Prop} {w w0 w1 W W1:World} {A A':Option Addr} {u v v1:Value} {xs:List α} {xs':List β} {d':Kd β} {x:α} {c:List Value}
theorem afE(d:Kd α)(W:World)(ok:Nat->Prop):F d W ok none ([]:List α).length []:=fun W' _=>O3 d W'
theorem Xz(h:d.M W base ok x c):FK d W ok x c:=fun _ hW=>d.gT (TS h hW)
end
end Kd
end Go.Proofs.YtkjoilgpmngndaaGreatW.aA
namespace Go.Proofs.YtkjoilgpmngndaaGreatW.aA
open Go.RowKit
namespace Kd
def chunks(sz:Nat)(n:Nat)(inner:List Value):List (List Value):=(List.range n).map fun j=>(inner.drop (j*sz)).take sz
theorem kE(sz n:Nat)(inner:List Value):(chunks sz n inner).length=n:=by simp[chunks]
theorem Qt{sz n:Nat}{inner:List Value}{j:Nat}(hj:j<n):(chunks sz n inner)[j]?=some ((inner.drop (j*sz)).take sz):=by simp[chunks,hj]
theorem Bc{sz n:Nat}{inner:List Value}{j:Nat}{c:List Value}(h:(chunks sz n inner)[j]?=some c):c=(inner.drop (j*sz)).take sz:=by
 have hj:j<n:=by have:=(List.getElem?_eq_some_iff.1 h).1;rwa [kE] at this
 rw[Qt hj] at h
 injection h with h
 exact h.symm
theorem Ru{α:Type}{Rr:α->List Value->Prop}{sz:Nat}{xs:List α}{inner:List Value}(h:dS Rr sz xs inner)(hR:∀x c,Rr x c->c.length=sz/\∀u ∈ c,u.oneCell'=true):dS (fun x cs=>cs=x/\cs.length=sz/\∀u ∈ cs,u.oneCell'=true) sz (chunks sz xs.length inner) inner:=by
 refine⟨by rw[kE];exact h.1,fun j p hj=>?_⟩
 have hjl:j<xs.length:=by have:=(List.getElem?_eq_some_iff.1 hj).1;rwa [kE] at this
 have hp:=Bc hj
 exact⟨hp.symm,hR _ _ (h.2 j _ (List.getElem?_eq_getElem hjl))⟩
section
variable {α:Type} {d:Kd α} {e base n cc g:Nat} {ok ok' okp S:Nat->Prop} {w w1 W W1:World} {A:Option Addr} {u v v1:Value} {xs:List α} {x:α} {c:List Value}
def N{α:Type}(d:Kd α)(e:Nat)(w:World)(base:Nat)(ok:Nat->Prop)(v:Value)(xs:List α):Prop:=
 (∀k,v.ownBlock=some k->ok k)/\∃rows:List (List Value),rows.length=xs.length/\(raw d.sz).R e w base (fun k=>some k=v.ownBlock) v rows/\∀(j:Nat) (x:α) (c:List Value),xs[j]?=some x->rows[j]?=some c->FK d w (fun k=>ok k/\some k≠v.ownBlock) x c
theorem R_N(h:d.R e w base ok v xs):N d e w base ok v xs:=by
 obtain⟨h0,inner,ho,hr⟩:=h
 refine⟨h0,chunks d.sz xs.length inner,kE _ _ _,⟨fun k hk=>hk.symm,inner,by rw[kE];exact ho,Ru hr (fun x c hp=>⟨d.lN (d.gT hp),d.kT (d.gT hp)⟩)⟩,fun j x c hx hc=>?_⟩
 rw[Bc hc]
 exact Xz (hr.2 j x hx)
theorem YA(d:Kd α)(e:Nat)(w:World)(base:Nat)(ok:Nat->Prop):N d e w base ok (.slice none 0 0) []:=R_N (jL _ _ _ _ _)
end
end Kd
end Go.Proofs.YtkjoilgpmngndaaGreatW.aA
namespace Go.Proofs.YtkjoilgpmngndaaGreatW.aA
open Go.RowKit
namespace Kd
section
variable {α:Type} {d:Kd α} {W:World} {g n:Nat} {S ok:Nat->Prop} {A:Option Addr} {ad:Addr} {xs:List α}
end
end Kd
end Go.Proofs.YtkjoilgpmngndaaGreatW.aA
namespace Go.Proofs.YtkjoilgpmngndaaGreatW.aA
open Go.RowKit
section
variable {w w' u:World} {m B g:Nat} {o:Obj} {row:Option Nat} {S:Nat->Prop} {a:Addr} {v:Value}
end
namespace Kd
section
variable {α:Type} {d:Kd α} {e base n m:Nat} {ok:Nat->Prop} {w w':World} {v:Value} {A:Option Addr} {xs:List α}
end
end Kd
end Go.Proofs.YtkjoilgpmngndaaGreatW.aA
namespace Go.Proofs.YtkjoilgpmngndaaGreatW.aA
open Go.RowKit
section
variable {P:Program} {d:Nat} {xs ys:Array Value} {f:Field} {fs:List Field} {a b:Value} {r s:Bool} {w:World}
theorem Sz (hn:(f.name== "_")=false) (ha:(part f.type xs f.offset).run P w= .ok a w) (hb:(part f.type ys f.offset).run P w= .ok b w) (he:(Op.equalIn d f.type a b).run P w= .ok r w):(Op.eqFields d xs ys [f]).run P w= .ok r w:=by
 have hn':f.name≠ "_" :=by simpa using hn
 simp only[Op.eqFields,if_pos hn',Sem.run_bind,ha,hb,he,Result.andThen_ok]
 cases r<;>simp
theorem SA (hn:(f.name== "_")=false) (ha:(part f.type xs f.offset).run P w= .ok a w) (hb:(part f.type ys f.offset).run P w= .ok b w) (he:(Op.equalIn d f.type a b).run P w= .ok r w) (hr:(Op.eqFields d xs ys fs).run P w= .ok s w):(Op.eqFields d xs ys (f::fs)).run P w= .ok (r&&s) w:=by
 have hn':f.name≠ "_" :=by simpa using hn
 rw[Op.eqFields]
 simp only[if_pos hn',Sem.run_bind,ha,hb,he,Result.andThen_ok]
 cases r
 .simp
 .simpa using hr
theorem aaD{t:TypeId}{fs:Array Field}(hu:P.underlying t=some (.struct fs))(hp:P.stoodInHeld t=false)(h:(Op.eqFields d xs ys fs.toList).run P w= .ok r w):(Op.equalIn (d+1) t (.agg xs) (.agg ys)).run P w= .ok r w:=by
 have hf:P.fieldsOf t=fs:=by simp[Program.fieldsOf,hu]
 rw[run_equalIn_struct (P:=P) w d t xs ys (by rw[hf];exact hu) hp,hf]
 exact h
end
end Go.Proofs.YtkjoilgpmngndaaGreatW.aA
namespace Go.Proofs.YtkjoilgpmngndaaGreatW.aA
theorem dS.one{α:Type}{R:α->List Value->Prop}{ps:List α}{cs:List Value}{p:α}{v:Value}(hp:R p [v])(h:dS R 1 ps cs):dS R 1 (p::ps) (v::cs):=by
 refine⟨by simp[h.1],fun j q hq=>?_⟩
 cases j with
 |zero=>
  simp only[List.getElem?_cons_zero,Option.some.injEq] at hq
  subst hq
  simpa using hp
 |succ j=>
  simp only[List.getElem?_cons_succ] at hq
  have h1:=h.2 j q hq
  simpa[Nat.mul_one] using h1
theorem dS.front{α:Type}{R:α->List Value->Prop}{size:Nat}{ps:List α}{cs c all:List Value}{p:α}(hp:R p c)(hc:c.length=size)(h:dS R size ps cs)(ha:c++cs=all):dS R size (p::ps) all:=by
 subst ha
 refine⟨by rw[List.length_append,hc,h.1,List.length_cons,Nat.succ_mul,Nat.add_comm],fun j q hq=>?_⟩
 cases j with
 |zero=>
  simp only[List.getElem?_cons_zero,Option.some.injEq] at hq
  subst hq
  rw[Nat.zero_mul,List.drop_zero,List.take_append_of_le_length (by omega),List.take_of_length_le (by omega)]
  exact hp
 |succ j=>
  simp only[List.getElem?_cons_succ] at hq
  have h1:=h.2 j q hq
  rw[Nat.succ_mul,List.drop_append,List.drop_of_length_le (by rw[hc];exact Nat.le_add_left _ _),List.nil_append,hc,Nat.add_sub_cancel]
  exact h1
theorem dS.c2{α:Type}{R:α->List Value->Prop}{ps:List α}{cs:List Value}{p:α}{va vb:Value}(hp:R p [va,vb])(h:dS R 2 ps cs):dS R 2 (p::ps) (va::vb::cs):=dS.front hp rfl h rfl
theorem dS.c3{α:Type}{R:α->List Value->Prop}{ps:List α}{cs:List Value}{p:α}{va vb vc:Value}(hp:R p [va,vb,vc])(h:dS R 3 ps cs):dS R 3 (p::ps) (va::vb::vc::cs):=dS.front hp rfl h rfl
theorem dS.c4{α:Type}{R:α->List Value->Prop}{ps:List α}{cs:List Value}{p:α}{va vb vc vd:Value}(hp:R p [va,vb,vc,vd])(h:dS R 4 ps cs):dS R 4 (p::ps) (va::vb::vc::vd::cs):=dS.front hp rfl h rfl
theorem dS.c5{α:Type}{R:α->List Value->Prop}{ps:List α}{cs:List Value}{p:α}{va vb vc vd ve:Value}(hp:R p [va,vb,vc,vd,ve])(h:dS R 5 ps cs):dS R 5 (p::ps) (va::vb::vc::vd::ve::cs):=dS.front hp rfl h rfl
theorem dS.c6{α:Type}{R:α->List Value->Prop}{ps:List α}{cs:List Value}{p:α}{va vb vc vd ve vf:Value}(hp:R p [va,vb,vc,vd,ve,vf])(h:dS R 6 ps cs):dS R 6 (p::ps) (va::vb::vc::vd::ve::vf::cs):=dS.front hp rfl h rfl
theorem dS.c7{α:Type}{R:α->List Value->Prop}{ps:List α}{cs:List Value}{p:α}{va vb vc vd ve vf vg:Value}(hp:R p [va,vb,vc,vd,ve,vf,vg])(h:dS R 7 ps cs):dS R 7 (p::ps) (va::vb::vc::vd::ve::vf::vg::cs):=dS.front hp rfl h rfl
theorem dS.c8{α:Type}{R:α->List Value->Prop}{ps:List α}{cs:List Value}{p:α}{va vb vc vd ve vf vg vh:Value}(hp:R p [va,vb,vc,vd,ve,vf,vg,vh])(h:dS R 8 ps cs):dS R 8 (p::ps) (va::vb::vc::vd::ve::vf::vg::vh::cs):=dS.front hp rfl h rfl
theorem dS.c9{α:Type}{R:α->List Value->Prop}{ps:List α}{cs:List Value}{p:α}{va vb vc vd ve vf vg vh vi:Value}(hp:R p [va,vb,vc,vd,ve,vf,vg,vh,vi])(h:dS R 9 ps cs):dS R 9 (p::ps) (va::vb::vc::vd::ve::vf::vg::vh::vi::cs):=dS.front hp rfl h rfl
theorem dS.c10{α:Type}{R:α->List Value->Prop}{ps:List α}{cs:List Value}{p:α}{va vb vc vd ve vf vg vh vi vj:Value}(hp:R p [va,vb,vc,vd,ve,vf,vg,vh,vi,vj])(h:dS R 10 ps cs):dS R 10 (p::ps) (va::vb::vc::vd::ve::vf::vg::vh::vi::vj::cs):=dS.front hp rfl h rfl
end Go.Proofs.YtkjoilgpmngndaaGreatW.aA
namespace Go.Proofs.YtkjoilgpmngndaaGreatW.aJ
section
variable {P:Program} {ops:Array Oper} {Q:Exit->Act->World->Prop} {md:Region.Mode} {T:Bool×List (List Nat×List Nat)} {B:List Nat} {O:List Nat} {b:Nat->Bool} {i j n:Nat}
theorem put_comm{a:Act}{s t:Tmp}{u v:Value}(h:s≠t):(a.put (some s) u).put (some t) v=(a.put (some t) v).put (some s) u:=by
 simp only[Act.put]
 rw[Array.setIfInBounds_comm _ _ h]
end
end Go.Proofs.YtkjoilgpmngndaaGreatW.aJ
namespace Go.Proofs.YtkjoilgpmngndaaGreatW.aA
open Go.RowKit
theorem Kd.KT{α:Type}{d:Kd α}{e base:Nat}{ok:Nat->Prop}{w:World}{v:Value}{xs:List α}(h:d.R e w base ok v xs)(hn:0<xs.length):∃(ad:Addr) (c:Nat),v= .slice (some ad) xs.length c:=by
 obtain⟨A,c,rfl⟩:=Kd.pq h
 have h2:=(Kd.iQ h).2.2
 obtain⟨ad,he,_⟩:=h2.2.2 hn
 subst he
 exact⟨ad,c,rfl⟩
end Go.Proofs.YtkjoilgpmngndaaGreatW.aA
namespace Go.Proofs.YtkjoilgpmngndaaGreatW.aJ
section
variable {ops:Array Oper} {a:Act} {o og:Oper} {g:Nat} {t:Tmp} {u:Bool}
end
end Go.Proofs.YtkjoilgpmngndaaGreatW.aJ
namespace Go.Proofs.YtkjoilgpmngndaaGreatW.aA
open Go.RowKit
section
variable {P:Program} {ops:Array Oper} {rest:List Oper} {o:Oper} {a:Act} {Q:Exit->Act->World->Prop} {W:World}
theorem eQ(hw:Region.wanted o (yielded ops a.tmps)=true)(h:wpList P ops Q ({o with guard:=none}::rest) a W):wpList P ops Q (o::rest) a W:=by
 have h1:Region.wanted {o with guard:=none} (yielded ops a.tmps)=true:=rfl
 unfold wpList at h ⊢
 rw[if_pos h1] at h
 rw[if_pos hw]
 exact h
end
end Go.Proofs.YtkjoilgpmngndaaGreatW.aA
namespace Go.Proofs.YtkjoilgpmngndaaGreatW.aA
open Go.RowKit
namespace Kd
section
variable {α:Type} {d:Kd α} {e base n cap g:Nat} {ok ok' okp:Nat->Prop} {w w1 W:World} {v v1:Value} {xs ys:List α}
end
section
variable {P:Program} {ops:Array Oper} {rest:List Oper} {o:Oper} {a:Act} {Q:Exit->Act->World->Prop} {Kc:Act->World->Prop} {α:Type}
end
end Kd
end Go.Proofs.YtkjoilgpmngndaaGreatW.aA
namespace Go.Proofs.YtkjoilgpmngndaaGreatW.dn
open Go.RowKit Go.Proofs.YtkjoilgpmngndaaGreatW.aA
namespace Kd
open Go.Proofs.YtkjoilgpmngndaaGreatW.aA.Kd
end Kd
namespace Kd
open Go.Proofs.YtkjoilgpmngndaaGreatW.aA.Kd
section
variable {α:Type} {d:Kd α} {e base g N:Nat} {ok:Nat->Prop} {W w1:World} {u v:Value} {xs:List α}
end
end Kd
theorem mR(k k':IntKind)(x y:Int):Builtin.max2 (.int k x) (.int k' y)=pure (.int k (if x<y then y else x)):=by simp only[Builtin.max2,gt_iff_lt]
theorem nV(k k':IntKind)(x y:Int):Builtin.min2 (.int k x) (.int k' y)=pure (.int k (if y<x then y else x)):=by simp only[Builtin.min2]
theorem oQ(ats:Array TypeId)(ty:TypeId)(a b:Value):Builtin.max_ ats ty #[a,b]=(Builtin.max2 a b >>= fun s=>pure s):=by simp only[Builtin.max_,List.foldlM_cons,List.foldlM_nil]
theorem qA(ats:Array TypeId)(ty:TypeId)(a b:Value):Builtin.min_ ats ty #[a,b]=(Builtin.min2 a b >>= fun s=>pure s):=by simp only[Builtin.min_,List.foldlM_cons,List.foldlM_nil]
theorem ma(ats:Array TypeId)(ty:TypeId)(a b c:Value):Builtin.max_ ats ty #[a,b,c]=(Builtin.max2 a b >>= fun s=>Builtin.max2 s c >>= fun s=>pure s):=by simp only[Builtin.max_,List.foldlM_cons,List.foldlM_nil]
theorem l9(ats:Array TypeId)(ty:TypeId)(a b c:Value):Builtin.min_ ats ty #[a,b,c]=(Builtin.min2 a b >>= fun s=>Builtin.min2 s c >>= fun s=>pure s):=by simp only[Builtin.min_,List.foldlM_cons,List.foldlM_nil]
theorem nW(ats:Array TypeId)(ty:TypeId)(a b c d:Value):Builtin.max_ ats ty #[a,b,c,d]=(Builtin.max2 a b >>= fun s=>Builtin.max2 s c >>= fun s=>Builtin.max2 s d >>= fun s=>pure s):=by simp only[Builtin.max_,List.foldlM_cons,List.foldlM_nil]
theorem nU(ats:Array TypeId)(ty:TypeId)(a b c d:Value):Builtin.min_ ats ty #[a,b,c,d]=(Builtin.min2 a b >>= fun s=>Builtin.min2 s c >>= fun s=>Builtin.min2 s d >>= fun s=>pure s):=by simp only[Builtin.min_,List.foldlM_cons,List.foldlM_nil]
end Go.Proofs.YtkjoilgpmngndaaGreatW.dn
namespace Go.Proofs.YtkjoilgpmngndaaGreatW.aA
open Go.RowKit
section
variable {P:Program} {ops:Array Oper} {rest:List Oper} {o:Oper} {a:Act} {Q:Exit->Act->World->Prop} {W:World}
theorem bZ{f:FuncId}{as2:Array Operand}{ts:Array TypeId}(_ho:o.op= .call {callee:= .value (.func f),args:=as2,argTypes:=ts})(h:wpList P ops Q (o::rest) a W):wpList P ops Q (o::rest) a W:=h
theorem cO{b:Builtin}{xs:Array Operand}{ts:Array TypeId}(_ho:o.op= .call {callee:= .builtin b,args:=xs,argTypes:=ts})(h:wpList P ops Q (o::rest) a W):wpList P ops Q (o::rest) a W:=h
end
def mx(a b:Int):Int:=if a<b then b else a
def shr(k:IntKind)(x y:Int):Int:=x/2^min y.toNat k.bits
theorem Pq{k:IntKind}{x y j:Int}(h:shr k x y=j)(hy:y<=k.bits):x/2^y.toNat=j:=by rw[<- h];unfold shr;rw[Nat.min_eq_left (by omega)]
namespace Kd
section
variable {α:Type} {d:Kd α} {e base:Nat} {ok:Nat->Prop} {W w1:World} {v:Value} {xs:List α}
theorem TP(h:d.R e W base ok v xs)(hE:d.E=[]){row:Option Nat}(hg:W.grownBy w1 row)(hne:∀k,row=some k->some k≠v.ownBlock):d.R e w1 base ok v xs:=
 cK (xy (zC hE h) hg (fun k hk e_=>hne k e_.symm hk)) (fun k hk=>h.1 k hk.symm)
end
section
variable {α:Type} {d:Kd α} {e base g n cap:Nat} {ok oki okp:Nat->Prop} {W:World} {xs:List α} {i:Int} {c:List Value}
end
section
variable {α:Type} {d:Kd α} {e base b b' g N:Nat} {ok ok1:Nat->Prop} {W W2 w1:World} {u v:Value} {xs ys:List α} {S:Nat->Prop}
end
end Kd
end Go.Proofs.YtkjoilgpmngndaaGreatW.aA
namespace Go.Proofs.YtkjoilgpmngndaaGreatW.aA
open Go.RowKit
namespace Kd
def V{α:Type}(d:Kd α)(_e:Nat)(W:World)(anQ:Nat)(ok:Nat->Prop)(v:Value)(xs:List α):Prop:=∃A c,v= .slice A xs.length c/\xs.length<=c/\F d W ok A xs.length xs
section
variable {α β:Type} {d:Kd α} {e base base' n m c g N' lo hi:Nat} {ok ok' S:Nat->Prop} {w W w1:World} {A:Option Addr} {ad:Addr} {u v v1:Value} {xs:List α}
theorem Yv(d:Kd α)(e:Nat)(W:World)(base:Nat)(ok:Nat->Prop):V d e W base ok (.slice none 0 0) []:=⟨none,0,rfl,Nat.le_refl _,afE d W ok⟩
end
end Kd
end Go.Proofs.YtkjoilgpmngndaaGreatW.aA
namespace Go.Proofs.YtkjoilgpmngndaaGreat.av
open Go.RowKit Go.Proofs.YtkjoilgpmngndaaGreatW.aA Go.Proofs.YtkjoilgpmngndaaGreatW.aJ Go.Proofs.YtkjoilgpmngndaaGreatW.dn
attribute [local go_sem] mR nV oQ qA ma l9 nW nU
def ad6:Option Int->Value
 |none=> .nilIface
 |some c=> .iface 0 (.int .i64 c)
theorem aW:ad6 none= .nilIface:=rfl
theorem aV(c:Int):ad6 (some c)= .iface 0 (.int .i64 c):=rfl
theorem info3:(Tryz.prog.info? 3).map (fun i=>(i.zero,i.size,i.bytes))=some (some (.int .i64 0),1,8):=by kernel_rfl
structure S28 where
 f0:Int
 f1:Int
def z28:S28:=⟨(0:Int),(0:Int)⟩
def k28:Kd S28:=Kd.Vd (Kd.pair (Kd.int .i64) (Kd.int .i64)) (fun x:S28=>(x.f0,x.f1))
theorem JX{w:World}{x:S28}{cs:List Value}(h:k28.K w x cs):cs=[.int .i64 x.f0,.int .i64 x.f1]:=by
 obtain⟨_,_,rfl,rfl,rfl⟩:=h
 exact rfl
theorem R6(w:World)(x:S28):k28.K w x [.int .i64 x.f0,.int .i64 x.f1]:=⟨[.int .i64 x.f0],[.int .i64 x.f1],rfl,rfl,rfl⟩
theorem Va(w:World)(base:Nat)(ok:Nat->Prop)(x:S28):k28.M w base ok x [.int .i64 x.f0,.int .i64 x.f1]:=⟨[.int .i64 x.f0],[.int .i64 x.f1],rfl,rfl,rfl⟩
structure ql where
 f0:Int
 f1:Int
 f2:Int
 f3:S28
def z36:ql:=⟨(0:Int),(0:Int),(0:Int),z28⟩
def Dc:Kd ql:=Kd.Vd (Kd.pair (Kd.int .i64) (Kd.pair (Kd.int .i64) (Kd.pair (Kd.int .i64) k28))) (fun x:ql=>(x.f0,x.f1,x.f2,x.f3))
theorem R5{w:World}{x:ql}{cs:List Value}(h:Dc.K w x cs):cs=[.int .i64 x.f0,.int .i64 x.f1,.int .i64 x.f2,.int .i64 x.f3.f0,.int .i64 x.f3.f1]:=by
 obtain⟨_,_,rfl,rfl,⟨_,_,rfl,rfl,⟨_,_,rfl,rfl,s3⟩⟩⟩:=h
 obtain rfl:=JX s3
 exact rfl
theorem ZE(w:World)(x:ql):Dc.K w x [.int .i64 x.f0,.int .i64 x.f1,.int .i64 x.f2,.int .i64 x.f3.f0,.int .i64 x.f3.f1]:=⟨[.int .i64 x.f0],[.int .i64 x.f1,.int .i64 x.f2,.int .i64 x.f3.f0,.int .i64 x.f3.f1],rfl,rfl,⟨[.int .i64 x.f1],[.int .i64 x.f2,.int .i64 x.f3.f0,.int .i64 x.f3.f1],rfl,rfl,⟨[.int .i64 x.f2],[.int .i64 x.f3.f0,.int .i64 x.f3.f1],rfl,rfl,(R6 w x.f3)⟩⟩⟩
theorem U9(w:World)(base:Nat)(ok:Nat->Prop)(x:ql):Dc.M w base ok x [.int .i64 x.f0,.int .i64 x.f1,.int .i64 x.f2,.int .i64 x.f3.f0,.int .i64 x.f3.f1]:=⟨[.int .i64 x.f0],[.int .i64 x.f1,.int .i64 x.f2,.int .i64 x.f3.f0,.int .i64 x.f3.f1],rfl,rfl,⟨[.int .i64 x.f1],[.int .i64 x.f2,.int .i64 x.f3.f0,.int .i64 x.f3.f1],rfl,rfl,⟨[.int .i64 x.f2],[.int .i64 x.f3.f0,.int .i64 x.f3.f1],rfl,rfl,(Va w base ok x.f3)⟩⟩⟩
def bf(xs:List ql)(i:Int):ql:=xs.getD i.toNat z36
theorem ou{w:World}{A:Option Addr}{n:Nat}{xs:List ql}(h:Kd.C Dc w A n xs)(i:Int)(h0:0<=i)(h1:i<n):∃ad,A=some ad/\w.cell? (ad.add (i.toNat*5))=some (.int .i64 (bf xs i).f0)/\w.cell? ⟨(ad.add (i.toNat*5)).block,(ad.add (i.toNat*5)).off+1,none⟩=some (.int .i64 (bf xs i).f1)/\w.cell? ⟨(ad.add (i.toNat*5)).block,(ad.add (i.toNat*5)).off+2,none⟩=some (.int .i64 (bf xs i).f2)/\w.cell? ⟨(ad.add (i.toNat*5)).block,(ad.add (i.toNat*5)).off+3,none⟩=some (.int .i64 (bf xs i).f3.f0)/\w.cell? ⟨(ad.add (i.toNat*5)).block,(ad.add (i.toNat*5)).off+4,none⟩=some (.int .i64 (bf xs i).f3.f1):=by
 obtain⟨ad,c,e,_,hK,hc0⟩:=Kd.xG h z36 i h0 h1
 have hc:∀j u,c[j]?=some u->w.cell? (ad.add (i.toNat*5+j))=some u:=hc0
 obtain rfl:=R5 hK
 exact⟨ad,e,hc 0 _ rfl,by rw[<- fG _ _ 1 (by omega)];exact hc 1 _ rfl,by rw[<- fG _ _ 2 (by omega)];exact hc 2 _ rfl,by rw[<- fG _ _ 3 (by omega)];exact hc 3 _ rfl,by rw[<- fG _ _ 4 (by omega)];exact hc 4 _ rfl⟩
structure kW where
 f0:Int
 f1:Int
def z38:kW:=⟨(0:Int),(0:Int)⟩
def Cu:Kd kW:=Kd.Vd (Kd.pair (Kd.int .i64) (Kd.int .i64)) (fun x:kW=>(x.f0,x.f1))
theorem R4{w:World}{x:kW}{cs:List Value}(h:Cu.K w x cs):cs=[.int .i64 x.f0,.int .i64 x.f1]:=by
 obtain⟨_,_,rfl,rfl,rfl⟩:=h
 exact rfl
theorem ZC(w:World)(x:kW):Cu.K w x [.int .i64 x.f0,.int .i64 x.f1]:=⟨[.int .i64 x.f0],[.int .i64 x.f1],rfl,rfl,rfl⟩
theorem Oo(w:World)(base:Nat)(ok:Nat->Prop)(x:kW):Cu.M w base ok x [.int .i64 x.f0,.int .i64 x.f1]:=⟨[.int .i64 x.f0],[.int .i64 x.f1],rfl,rfl,rfl⟩
def aZ(xs:List kW)(i:Int):kW:=xs.getD i.toNat z38
theorem yB{w:World}{A:Option Addr}{n:Nat}{xs:List kW}(h:Kd.C Cu w A n xs)(i:Int)(h0:0<=i)(h1:i<n):∃ad,A=some ad/\w.cell? (ad.add (i.toNat*2))=some (.int .i64 (aZ xs i).f0)/\w.cell? ⟨(ad.add (i.toNat*2)).block,(ad.add (i.toNat*2)).off+1,none⟩=some (.int .i64 (aZ xs i).f1):=by
 obtain⟨ad,c,e,_,hK,hc0⟩:=Kd.xG h z38 i h0 h1
 have hc:∀j u,c[j]?=some u->w.cell? (ad.add (i.toNat*2+j))=some u:=hc0
 obtain rfl:=R4 hK
 exact⟨ad,e,hc 0 _ rfl,by rw[<- fG _ _ 1 (by omega)];exact hc 1 _ rfl⟩
def sZ(xs:List (List Int))(i:Int):(List Int):=xs.getD i.toNat ([]:List Int)
theorem KI{w:World}{A:Option Addr}{n:Nat}{xs:List (List Int)}(h:Kd.C (Kd.slice 3 (Kd.int .i64)) w A n xs)(i:Int)(h0:0<=i)(h1:i<n):∃ad A0 c0,A=some ad/\w.cell? (ad.add i.toNat)=some (.slice A0 (sZ xs i).length c0)/\(sZ xs i).length<=c0/\(Kd.int .i64).C w A0 (sZ xs i).length (sZ xs i):=by
 obtain⟨ad,c,e,_,hK,hc0⟩:=Kd.xG h ([]:List Int) i h0 h1
 have hc:∀j u,c[j]?=some u->w.cell? (ad.add (i.toNat*1+j))=some u:=hc0
 obtain⟨A0,c0,rfl,l0,g0⟩:=hK
 exact⟨ad,A0,c0,e,by have hq:=hc 0 _ rfl;rwa [Nat.mul_one,Nat.add_zero] at hq,l0,g0⟩
structure dJ where
 f0:Int
 f1:Int
 f2:Int
def UI:dJ:=⟨(0:Int),(0:Int),(0:Int)⟩
def AL:Kd dJ:=Kd.Vd (Kd.pair (Kd.int .i64) (Kd.pair (Kd.int .i64) (Kd.int .i64))) (fun x:dJ=>(x.f0,x.f1,x.f2))
theorem PZ{w:World}{x:dJ}{cs:List Value}(h:AL.K w x cs):cs=[.int .i64 x.f0,.int .i64 x.f1,.int .i64 x.f2]:=by
 obtain⟨_,_,rfl,rfl,⟨_,_,rfl,rfl,rfl⟩⟩:=h
 exact rfl
def sJ(xs:List dJ)(i:Int):dJ:=xs.getD i.toNat UI
theorem OP{w:World}{A:Option Addr}{n:Nat}{xs:List dJ}(h:Kd.C AL w A n xs)(i:Int)(h0:0<=i)(h1:i<n):∃ad,A=some ad/\w.cell? (ad.add (i.toNat*3))=some (.int .i64 (sJ xs i).f0)/\w.cell? ⟨(ad.add (i.toNat*3)).block,(ad.add (i.toNat*3)).off+1,none⟩=some (.int .i64 (sJ xs i).f1)/\w.cell? ⟨(ad.add (i.toNat*3)).block,(ad.add (i.toNat*3)).off+2,none⟩=some (.int .i64 (sJ xs i).f2):=by
 obtain⟨ad,c,e,_,hK,hc0⟩:=Kd.xG h UI i h0 h1
 have hc:∀j u,c[j]?=some u->w.cell? (ad.add (i.toNat*3+j))=some u:=hc0
 obtain rfl:=PZ hK
 exact⟨ad,e,hc 0 _ rfl,by rw[<- fG _ _ 1 (by omega)];exact hc 1 _ rfl,by rw[<- fG _ _ 2 (by omega)];exact hc 2 _ rfl⟩
structure sO where
 f0:Int
 f1:Int
def z52:sO:=⟨(0:Int),(0:Int)⟩
def MN:Kd sO:=Kd.Vd (Kd.pair (Kd.int .i64) (Kd.int .i64)) (fun x:sO=>(x.f0,x.f1))
theorem JW{w:World}{x:sO}{cs:List Value}(h:MN.K w x cs):cs=[.int .i64 x.f0,.int .i64 x.f1]:=by
 obtain⟨_,_,rfl,rfl,rfl⟩:=h
 exact rfl
theorem ZB(w:World)(x:sO):MN.K w x [.int .i64 x.f0,.int .i64 x.f1]:=⟨[.int .i64 x.f0],[.int .i64 x.f1],rfl,rfl,rfl⟩
theorem DV(w:World)(base:Nat)(ok:Nat->Prop)(x:sO):MN.M w base ok x [.int .i64 x.f0,.int .i64 x.f1]:=⟨[.int .i64 x.f0],[.int .i64 x.f1],rfl,rfl,rfl⟩
def dK(xs:List sO)(i:Int):sO:=xs.getD i.toNat z52
theorem rW{w:World}{A:Option Addr}{n:Nat}{xs:List sO}(h:Kd.C MN w A n xs)(i:Int)(h0:0<=i)(h1:i<n):∃ad,A=some ad/\w.cell? (ad.add (i.toNat*2))=some (.int .i64 (dK xs i).f0)/\w.cell? ⟨(ad.add (i.toNat*2)).block,(ad.add (i.toNat*2)).off+1,none⟩=some (.int .i64 (dK xs i).f1):=by
 obtain⟨ad,c,e,_,hK,hc0⟩:=Kd.xG h z52 i h0 h1
 have hc:∀j u,c[j]?=some u->w.cell? (ad.add (i.toNat*2+j))=some u:=hc0
 obtain rfl:=JW hK
 exact⟨ad,e,hc 0 _ rfl,by rw[<- fG _ _ 1 (by omega)];exact hc 1 _ rfl⟩
end Go.Proofs.YtkjoilgpmngndaaGreat.av
namespace Go.Proofs.YtkjoilgpmngndaaGreat.av
open Go.RowKit Go.Proofs.YtkjoilgpmngndaaGreatW.aA Go.Proofs.YtkjoilgpmngndaaGreatW.aJ Go.Proofs.YtkjoilgpmngndaaGreatW.dn
attribute [local go_sem] mR nV oQ qA ma l9 nW nU
theorem ad7(d:Nat)(w:World)(x0 y0:Int)(x1 y1:Int):
  (Op.equalIn (d+2) 52 (.agg #[.int .i64 x0,.int .i64 x1]) (.agg #[.int .i64 y0,.int .i64 y1])).run Tryz.prog w= .ok (x0==y0&&(x1==y1)) w:=by
 refine aaD Tryz.underlying52 (by kernel_rfl) ?_
 refine SA (by rfl) (by go_simp;rfl) (by go_simp;rfl) (by go_simp) ?_
 exact Sz (by rfl) (by go_simp;rfl) (by go_simp;rfl) (by go_simp)
end Go.Proofs.YtkjoilgpmngndaaGreat.av
namespace Go.Proofs.YtkjoilgpmngndaaGreat.av
open Go.RowKit Go.Proofs.YtkjoilgpmngndaaGreatW.aA Go.Proofs.YtkjoilgpmngndaaGreatW.aJ Go.Proofs.YtkjoilgpmngndaaGreatW.dn
attribute [local go_sem] mR nV oQ qA ma l9 nW nU
def iM.f(bA:List Int)(bz:Int)(aM:List (ql))(bC:List (kW)):Option (Bool):=if(bA.length:Int)<=7 then(if(aM.length:Int)<=11 then(some (decide ((bC.length:Int)<=24))) else(some false)) else(some false)
set_option maxHeartbeats 8000000 in
set_option maxRecDepth 100000 in
theorem iM.calls(dC:Option Addr)(dB:Nat)(bA:List Int)(bz:Int)(fw:Option Addr)(dm:Nat)(aM:List (ql))(eT:Option Addr)(dH:Nat)(bC:List (kW))(r:Bool)(w:World)(yN:Kd.C (Kd.int .i64) w dC bA.length bA)(yP:bA.length<=dB)(yM:Kd.C Dc w fw aM.length aM)(yO:aM.length<=dm)(Ki:Kd.C Cu w eT bC.length bC)(Ko:bC.length<=dH)(h:iM.f bA bz aM bC=some r):
  Calls Tryz.prog 5 #[.agg #[.slice dC bA.length dB,.int .i64 bz,.slice fw aM.length dm,.slice eT bC.length dH]] w fun e w'=>e= .returned (.bool r)/\Below w.heap.size w w':=by
 have ai6:=Tryz.underlying26
 have KY:=aa.mk yN
 have YM:=aa.mk yP
 clear yN yP
 have rY:=aa.mk yM
 have YL:=aa.mk yO
 clear yM yO
 have KV:=aa.mk Ki
 have afs:=aa.mk Ko
 clear Ki Ko
 have HB:=aa.mk (Below.refl w.heap.size w)
 have H:(if(bA.length:Int)<=7 then(if(aM.length:Int)<=11 then(some (decide ((bC.length:Int)<=24))) else(some false)) else(some false))=some r:=h
 clear h
 by_cases c2:(bA.length:Int)<=7
 .rw[if_pos c2] at H
  have Ir:decide ((bA.length:Int)<=7)=true:=decide_eq_true c2
  have aaW:decide (bA.length<=7)=true:=decide_eq_true (by omega)
  clear c2
  by_cases c3:(aM.length:Int)<=11
  .rw[if_pos c3] at H
   have qN:decide ((aM.length:Int)<=11)=true:=decide_eq_true c3
   have CJ:decide (aM.length<=11)=true:=decide_eq_true (by omega)
   clear c3
   obtain rfl:=Option.some.inj H
   go_enter Tryz.func5,Tryz.ntmps5
   go_wp2_with (first|((with_reducible refine bY (N:=1) rfl ?_);(try(refine eQ (by rfl) ?_;dsimp only));refine cZ ?hg (N:=1) ?hd (cs:=#[.slice dC bA.length dB,.int .i64 bz,.slice fw aM.length dm,.slice eT bC.length dH]) (t:=26) ?hr ?_;(case hd=>rfl);(case hg=>rfl);(case hr=>first|(go_simp;done)|(go_simp;rfl));intro kR hg w4 dM hb;have iF:=aa.mk (bT (by repeat(first|(with_reducible first|exact HB.out|apply ae|apply ah|apply au)|exact HB.out)) hb);have iE:=aa.mk (dM);have jg:=aa.mk ((by rw[hg];exact(aT (by repeat(first|(with_reducible first|exact HB.out|apply ae|apply ah|apply au)|exact HB.out))):w.heap.size<=kR));have jH:=aa.mk ((by rw[hg];exact(aT (by repeat(first|(with_reducible first|exact HB.out|apply ae|apply ah|apply au)|exact HB.out))):w.heap.size<=kR));clear HB;have HB:=iF;have jq:=iE;have YR:=jg;have K8:=jH;clear iF iE jg jH;clear hb dM hg;have qJ:w4.cell? ⟨kR,0,none⟩=some (.slice dC bA.length dB):=(ak jq.out 0).trans rfl;have qI:w4.cell? ⟨kR,1,none⟩=some (.int .i64 bz):=(ak jq.out 1).trans rfl;have uN:w4.cell? ⟨kR,2,none⟩=some (.slice fw aM.length dm):=(ak jq.out 2).trans rfl;have uM:w4.cell? ⟨kR,3,none⟩=some (.slice eT bC.length dH):=(ak jq.out 3).trans rfl;have qF:=ag jq.out 0;have qE:=ag jq.out 1;have uI:=ag jq.out 2;have uH:=ag jq.out 3))
   go_ret
   exact⟨by first|rfl|(simp[aW,aV]<;>rfl)|(simp[*,aW,aV]<;>rfl),by repeat(first|(with_reducible first|exact HB.out|apply ae|apply ah|apply au|refine aH ?_ K8.out)|exact HB.out)⟩
  .rw[if_neg c3] at H
   have qN:decide ((aM.length:Int)<=11)=false:=decide_eq_false c3
   have CJ:decide (aM.length<=11)=false:=decide_eq_false (by omega)
   clear c3
   obtain rfl:=Option.some.inj H
   go_enter Tryz.func5,Tryz.ntmps5
   go_wp2_with (first|((with_reducible refine bY (N:=1) rfl ?_);(try(refine eQ (by rfl) ?_;dsimp only));refine cZ ?hg (N:=1) ?hd (cs:=#[.slice dC bA.length dB,.int .i64 bz,.slice fw aM.length dm,.slice eT bC.length dH]) (t:=26) ?hr ?_;(case hd=>rfl);(case hg=>rfl);(case hr=>first|(go_simp;done)|(go_simp;rfl));intro kR hg w6 dM hb;have iF:=aa.mk (bT (by repeat(first|(with_reducible first|exact HB.out|apply ae|apply ah|apply au)|exact HB.out)) hb);have iE:=aa.mk (dM);have jg:=aa.mk ((by rw[hg];exact(aT (by repeat(first|(with_reducible first|exact HB.out|apply ae|apply ah|apply au)|exact HB.out))):w.heap.size<=kR));have jH:=aa.mk ((by rw[hg];exact(aT (by repeat(first|(with_reducible first|exact HB.out|apply ae|apply ah|apply au)|exact HB.out))):w.heap.size<=kR));clear HB;have HB:=iF;have jq:=iE;have YR:=jg;have K8:=jH;clear iF iE jg jH;clear hb dM hg;have qH:w6.cell? ⟨kR,0,none⟩=some (.slice dC bA.length dB):=(ak jq.out 0).trans rfl;have qG:w6.cell? ⟨kR,1,none⟩=some (.int .i64 bz):=(ak jq.out 1).trans rfl;have rO:w6.cell? ⟨kR,2,none⟩=some (.slice fw aM.length dm):=(ak jq.out 2).trans rfl;have uL:w6.cell? ⟨kR,3,none⟩=some (.slice eT bC.length dH):=(ak jq.out 3).trans rfl;have qD:=ag jq.out 0;have qC:=ag jq.out 1;have rJ:=ag jq.out 2;have uG:=ag jq.out 3))
   go_ret
   exact⟨by first|rfl|(simp[aW,aV]<;>rfl)|(simp[*,aW,aV]<;>rfl),by repeat(first|(with_reducible first|exact HB.out|apply ae|apply ah|apply au|refine aH ?_ K8.out)|exact HB.out)⟩
 .rw[if_neg c2] at H
  have Ir:decide ((bA.length:Int)<=7)=false:=decide_eq_false c2
  have aaW:decide (bA.length<=7)=false:=decide_eq_false (by omega)
  clear c2
  obtain rfl:=Option.some.inj H
  go_enter Tryz.func5,Tryz.ntmps5
  go_wp2_with (first|((with_reducible refine bY (N:=1) rfl ?_);(try(refine eQ (by rfl) ?_;dsimp only));refine cZ ?hg (N:=1) ?hd (cs:=#[.slice dC bA.length dB,.int .i64 bz,.slice fw aM.length dm,.slice eT bC.length dH]) (t:=26) ?hr ?_;(case hd=>rfl);(case hg=>rfl);(case hr=>first|(go_simp;done)|(go_simp;rfl));intro kR hg w8 dM hb;have iF:=aa.mk (bT (by repeat(first|(with_reducible first|exact HB.out|apply ae|apply ah|apply au)|exact HB.out)) hb);have iE:=aa.mk (dM);have jg:=aa.mk ((by rw[hg];exact(aT (by repeat(first|(with_reducible first|exact HB.out|apply ae|apply ah|apply au)|exact HB.out))):w.heap.size<=kR));have jH:=aa.mk ((by rw[hg];exact(aT (by repeat(first|(with_reducible first|exact HB.out|apply ae|apply ah|apply au)|exact HB.out))):w.heap.size<=kR));clear HB;have HB:=iF;have jq:=iE;have YR:=jg;have K8:=jH;clear iF iE jg jH;clear hb dM hg;have aag:w8.cell? ⟨kR,0,none⟩=some (.slice dC bA.length dB):=(ak jq.out 0).trans rfl;have aaf:w8.cell? ⟨kR,1,none⟩=some (.int .i64 bz):=(ak jq.out 1).trans rfl;have ajK:w8.cell? ⟨kR,2,none⟩=some (.slice fw aM.length dm):=(ak jq.out 2).trans rfl;have ajJ:w8.cell? ⟨kR,3,none⟩=some (.slice eT bC.length dH):=(ak jq.out 3).trans rfl;have Z4:=ag jq.out 0;have ZZ:=ag jq.out 1;have ajD:=ag jq.out 2;have ajC:=ag jq.out 3))
  go_ret
  exact⟨by first|rfl|(simp[aW,aV]<;>rfl)|(simp[*,aW,aV]<;>rfl),by repeat(first|(with_reducible first|exact HB.out|apply ae|apply ah|apply au|refine aH ?_ K8.out)|exact HB.out)⟩
def aD.f(a0:Int)(a1:Int)(a2:Int):Option (Bool):=if a0>=a1 then(some (decide (a0<=a2))) else(some false)
set_option maxHeartbeats 8000000 in
set_option maxRecDepth 100000 in
theorem aD.calls(a0:Int)(a1:Int)(a2:Int)(r:Bool)(w:World)(h:aD.f a0 a1 a2=some r):
  Calls Tryz.prog 35 #[.int .i64 a0,.int .i64 a1,.int .i64 a2] w fun e w'=>e= .returned (.bool r)/\aU w w':=by
 have H:(if a0>=a1 then(some (decide (a0<=a2))) else(some false))=some r:=h
 clear h
 by_cases c4:a0>=a1
 .rw[if_pos c4] at H
  have lH:decide (a1<=a0)=true:=decide_eq_true c4
  clear c4
  obtain rfl:=Option.some.inj H
  go_enter Tryz.func35,Tryz.ntmps35
  go_wp2
  go_ret
  exact⟨by first|rfl|(simp;done)|(simp[*];done),by repeat(first|exact aU.refl _|apply aU.step)⟩
 .rw[if_neg c4] at H
  have lH:decide (a1<=a0)=false:=decide_eq_false c4
  clear c4
  obtain rfl:=Option.some.inj H
  go_enter Tryz.func35,Tryz.ntmps35
  go_wp2
  go_ret
  exact⟨by first|rfl|(simp;done)|(simp[*];done),by repeat(first|exact aU.refl _|apply aU.step)⟩
end Go.Proofs.YtkjoilgpmngndaaGreat.av
