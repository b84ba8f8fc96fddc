import Derived.Laws.StructEq
import Derived.Test.YtdekaocdmjndaaaGreatProg
import Derived.Test.YtdekaocdmjndaaaGreatQ1
set_option linter.all false
namespace Go.Proofs.YtdekaocdmjndaaaGreatW.aj
open Go.RowKit
namespace Kd
def tag{α:Type}(f:Nat->Nat)(d:Kd α):Kd (α×Nat) where
 sz:=d.sz
 E:=d.E
 K:=λw x cs=>d.K w x.1 cs
 M:=λw base ok x cs=>d.M w base (λk=>ok k/\f k=x.2) x.1 cs
 ky:=λh=>d.ky h
 kv:=λh=>d.kv h
 iO:=λhb h=>d.iO hb h
 fI:=λh=>d.fI h
 eO:=λhok h=>d.eO (λk hk=>⟨hok k hk.1,hk.2⟩) h
 fu:=λh=>d.eO (λ_ hk=>⟨⟨hk.1.1,hk.2⟩,hk.1.2⟩) (d.fu h)
 ik:=λhm h=>d.ik (λk hk=>hm k hk.1) h
 iN:=λhb h=>d.iN hb h
def raw(sz:Nat):Kd (List Value) where
 sz:=sz
 E:=[]
 K:=λ_ x cs=>cs=x/\cs.length=sz/\∀u ∈ cs,u.oneCell'=true
 M:=λ_ _ _ x cs=>cs=x/\cs.length=sz/\∀u ∈ cs,u.oneCell'=true
 ky:=λh=>h.2.1
 kv:=λh=>h.2.2
 iO:=λ_ h=>h
 fI:=λh=>h
 eO:=λ_ h=>h
 fu:=λh=>h
 ik:=λ_ h=>h
 iN:=λ_ h=>h
def S{α:Type}(d:Kd α)(e:Nat)(w:World)(base:Nat)(ok:Nat->Prop)(v:Value)(xs:List α):Prop:=∃f,(tag f d).R e w base ok v xs.zipIdx
section
variable {α β:Type} {d:Kd α} {d':Kd β} {e e':Nat} {w w1 W:World} {base b:Nat} {ok ok' okv oku:Nat->Prop} {u v:Value} {xs:List α} {ys:List β}
theorem Il{ad:Addr}{n cap:Nat}(h:d.R e w base ok (.slice (some ad) n cap) xs):∃g,ad=⟨g,0,none⟩:=by
 obtain⟨_,inner,ho,hr⟩:=h
 rcases ho.2 with⟨hv,_⟩|⟨g,cap',cur,hv,_⟩
 .cases hv
 .injection hv with ha _ _
  injection ha with ha
  exact⟨g,ha⟩
theorem Wv{ad:Addr}{n cap:Nat}(h:d.R e W base ok (.slice (some ad) n cap) xs)(z:α)(i:Int)(h0:0<=i)(h1:i<n):
  ∃c,c.length=d.sz/\d.M W base (λk=>ok k/\some k≠(Value.slice (some ad) n cap).ownBlock) (xs.getD i.toNat z) c/\∀j u,c[j]?=some u->W.cell? (ad.add (i.toNat*d.sz+j))=some u:=by
 obtain⟨g,rfl⟩:=Il h
 obtain⟨c,hcl,hM,hcc,_⟩:=Im h z i h0 h1
 refine⟨c,hcl,d.eO (λk hk=>⟨hk.1,λhe=>hk.2 (by simpa[Value.ownBlock] using he)⟩) hM,λj u hu=>?_⟩
 rw[Ie,Nat.zero_add]
 exact hcc j u hu
theorem wG(hE:d.E=[])(h:d.R e w base ok v xs):d.R e w base (λk=>some k=v.ownBlock) v xs:=by
 obtain⟨h0,inner,ho,hr⟩:=h
 refine⟨λk hk=>hk.symm,inner,ho,hr.qU (λp c hp=>d.eO (λk hk=>?_) (d.fu hp))⟩
 obtain⟨_,_,_,q,hq,_⟩:=hk
 rw[hE] at hq
 cases hq
theorem Jv(d:Kd α)(e:Nat)(w:World)(base:Nat)(ok:Nat->Prop):S d e w base ok (.slice none 0 0) []:=⟨λ_=>0,iH _ _ _ _ _⟩
end
section
variable {α β:Type} {d:Kd α} {d':Kd β} {e e' g:Nat} {w w1 W:World} {base b:Nat} {ok ok' okv oku:Nat->Prop} {u v:Value} {xs:List α} {ys:List β}
end
section
open Classical in
variable {P:Program} {ops:Array Oper} {rest:List Oper} {o:Oper} {a:Act} {Q:Exit->Act->World->Prop} {Kc:Act->World->Prop} {α:Type}
end
def gap{α:Type}(f:Nat->Nat)(d:Kd α)(i:Nat)(c:List Value):Kd (α×Nat) where
 sz:=d.sz
 E:=d.E
 K:=λw x cs=>(x.2=i->cs=c/\cs.length=d.sz/\∀u ∈ cs,u.oneCell'=true)/\(x.2≠i->d.K w x.1 cs)
 M:=λw base ok x cs=>(x.2=i->cs=c/\cs.length=d.sz/\∀u ∈ cs,u.oneCell'=true)/\(x.2≠i->d.M w base (λk=>ok k/\f k=x.2) x.1 cs)
 ky:=λ{w x cs} h=>by
  by_cases hx:x.2=i
  .exact(h.1 hx).2.1
  .exact d.ky (h.2 hx)
 kv:=λ{w x cs} h=>by
  by_cases hx:x.2=i
  .exact(h.1 hx).2.2
  .exact d.kv (h.2 hx)
 iO:=λhb h=>⟨h.1,λhx=>d.iO hb (h.2 hx)⟩
 fI:=λh=>⟨h.1,λhx=>d.fI (h.2 hx)⟩
 eO:=λhok h=>⟨h.1,λhx=>d.eO (λk hk=>⟨hok k hk.1,hk.2⟩) (h.2 hx)⟩
 fu:=λh=>⟨h.1,λhx=>d.eO (λ_ hk=>⟨⟨hk.1.1,hk.2⟩,hk.1.2⟩) (d.fu (h.2 hx))⟩
 ik:=λhm h=>⟨h.1,λhx=>d.ik (λk hk=>hm k hk.1) (h.2 hx)⟩
 iN:=λhb h=>⟨h.1,λhx=>d.iN hb (h.2 hx)⟩
def H{α:Type}(d:Kd α)(e:Nat)(w:World)(base:Nat)(ok:Nat->Prop)(v:Value)(xs:List α)(i:Int)(XZ:Nat->Prop)(c:List Value):Prop:=
 (∀k,XZ k->ok k)/\∃f,(gap f d i.toNat c).R e w base (λk=>ok k/\¬XZ k) v xs.zipIdx
section
variable {α β:Type} {d:Kd α} {e e' g n cap:Nat} {w w1 W:World} {base:Nat} {ok ok' XZ okp:Nat->Prop} {u v:Value} {xs:List α} {i:Int} {c:List Value}
open Classical in
end
section
variable {P:Program} {ops:Array Oper} {rest:List Oper} {o:Oper} {a:Act} {Q:Exit->Act->World->Prop} {α:Type}
end
end Kd
namespace Kd
section
variable {α:Type} {n:Nat} {d:Kd α} {hs:0<d.sz} {w:World} {base:Nat} {ok:Nat->Prop} {xs:List α} {cs:List Value}
end
section
variable {α:Type} {n:Nat} {enc:α->Value} {h1:∀x,(enc x).oneCell'=true} {hs:0<(scalar enc h1).sz} {w:World} {base:Nat} {ok:Nat->Prop} {xs:List α} {cs:List Value}
end
end Kd
section
variable {P:Program}
end
namespace Kd
section
variable {P:Program} {ops:Array Oper} {rest:List Oper} {o:Oper} {a:Act} {Q:Exit->Act->World->Prop} {Kc:Act->World->Prop} {α:Type}
end
section
variable {α:Type} {d:Kd α} {e:Nat} {w:World} {base:Nat} {ok:Nat->Prop} {v:Value} {xs:List α}
end
section
variable {P:Program} {ops:Array Oper} {rest:List Oper} {o:Oper} {a:Act} {Q:Exit->Act->World->Prop} {Kc:Act->World->Prop} {α:Type}
end
end Kd
namespace Kd
structure Heap{α:Type}(d:Kd α):Prop where
 K:∀{w w1:World} {x:α} {cs:List Value},(∀k,k<w.heap.size->w1.heap[k]?=w.heap[k]?)->d.K w x cs->d.K w1 x cs
theorem Lj{w w1:World}(hb:∀k,k<w.heap.size->w1.heap[k]?=w.heap[k]?){a:Addr}{v:Value}(h:w.cell? a=some v):w1.cell? a=some v:=by
 have:=hb a.block (World.block_lt_of_cell? w a h)
 simpa[World.cell?,this] using h
theorem Heap.C{α:Type}{d:Kd α}(hd:Heap d){w w1:World}{A:Option Addr}{n:Nat}{xs:List α}(hb:∀k,k<w.heap.size->w1.heap[k]?=w.heap[k]?)(h:d.C w A n xs):d.C w1 A n xs:=
 ⟨h.1,h.2.1,λhn=>by
  obtain⟨ad,e,hc⟩:=h.2.2 hn
  refine⟨ad,e,λj p hj=>?_⟩
  obtain⟨c,hs,hr,hcell⟩:=hc j p hj
  exact⟨c,hs,hd.K hb hr,λi u hu=>Lj hb (hcell i u hu)⟩⟩
section
variable {α:Type} {d:Kd α} {e base g n c:Nat} {ok:Nat->Prop} {w w0 W:World} {A:Option Addr} {xs:List α}
end
end Kd
def Kept(w W:World)(S:Nat->Prop):Prop:=w.heap.size<=W.heap.size/\∀i,i<w.heap.size->¬S i->W.heap[i]?=w.heap[i]?
section
variable {w W W2:World} {S S2 S':Nat->Prop}
theorem Kept.refl(w:World)(S:Nat->Prop):Kept w w S:=⟨Nat.le_refl _,λ_ _ _=>rfl⟩
theorem Kept.of_below(h:Below w.heap.size w W)(S:Nat->Prop):Kept w W S:=⟨h.size,λi hi _=>h.block i hi⟩
theorem Kept.mono(h:Kept w W S)(hs:∀k,S k->S' k):Kept w W S':=⟨h.1,λi hi hn=>h.2 i hi (λhk=>hn (hs i hk))⟩
theorem Kept.Mw(h:Kept w W S)(k:Kept W W2 S2)(hs:∀k,S2 k->S k\/w.heap.size<=k):Kept w W2 S:=
 ⟨Nat.le_trans h.1 k.1,λi hi hn=>(k.2 i (Nat.lt_of_lt_of_le hi h.1) (λh2=>(hs i h2).elim hn (λh3=>by omega))).trans (h.2 i hi hn)⟩
theorem Kept.vF{row:Option Nat}(hg:W.grownBy W2 row)(h:Kept w W S)(hr:∀k,row=some k->S k\/w.heap.size<=k):Kept w W2 S:=
 h.Mw (S2:=λk=>row=some k) ⟨hg.size,λi hi hn=>hg.block i hi (λhe=>hn he.symm)⟩ hr
theorem Kept.below(h:Kept w W S)(hb:Below W.heap.size W W2):Kept w W2 S:=h.Mw (Kept.of_below hb (λ_=>False)) (λ_ hk=>hk.elim)
theorem Kept.alloc(h:Kept w W S)(o:Obj):Kept w (W.alloc o) S:=h.below (ae (Below.refl _ _) o)
theorem Kept.drew(h:Kept w W S):Kept w W.drew S:=h
theorem Kept.drewN(h:Kept w W S)(m:Nat):Kept w (W.drewN m) S:=h
theorem Kept.setCell(h:Kept w W S){p:Addr}(hp:S p.block\/w.heap.size<=p.block)(u:Value):Kept w (W.setCell p u) S:=
 h.Mw (S2:=λk=>k=p.block) ⟨by simp[World.setCell],λi _ hn=>Below.heap_setCell W p u i hn⟩ (λk hk=>by rw[hk];exact hp)
theorem Kept.keep{g:Nat}(h:fZ w W g none)(k:Kept W W2 S2)(hs:∀k,S2 k->w.heap.size<=k):fZ w W2 g none:=
 ⟨Nat.le_trans h.1 k.1,λi hi hg hr=>(k.2 i (Nat.lt_of_lt_of_le hi h.1) (λh2=>by have:=hs i h2;omega)).trans (h.2 i hi hg hr)⟩
end
namespace Kd
section
variable {α:Type} {d:Kd α} {e base n c:Nat} {ok XZ S S2:Nat->Prop} {w w0 W W1 W2:World} {v:Value} {A:Option Addr} {xs:List α} {i:Int} {cs:List Value}
end
end Kd
def uR(P:World->Prop)(W:World)(ok:Nat->Prop):Prop:=∀W':World,(∀k,ok k->k<W.heap.size->W'.heap[k]?=W.heap[k]?)->P W'
theorem Q8{W W1:World}{k:Nat}(h:W1.heap[k]?=W.heap[k]?)(hlt:k<W.heap.size):k<W1.heap.size:=by
 rw[Array.getElem?_eq_getElem hlt] at h
 exact(Array.getElem?_eq_some_iff.1 h).1
namespace uR
variable {P Q:World->Prop} {W W1:World} {ok ok':Nat->Prop}
theorem now(h:uR P W ok):P W:=h W (λ_ _ _=>rfl)
theorem mono(h:uR P W ok)(hok:∀k,ok k->ok' k):uR P W ok':=λW' hW=>h W' (λk hk hlt=>hW k (hok k hk) hlt)
theorem bound(h:uR P W ok):uR P W (λk=>ok k/\k<W.heap.size):=λW' hW=>h W' (λk hk hlt=>hW k ⟨hk,hlt⟩ hlt)
theorem step(h:uR P W ok)(hm:∀k,ok k->k<W.heap.size->W1.heap[k]?=W.heap[k]?):uR P W1 ok:=λW' hW=>h W' (λk hk hlt=>(hW k hk (Q8 (hm k hk hlt) hlt)).trans (hm k hk hlt))
theorem imp(h:uR P W ok)(hi:∀W',P W'->Q W'):uR Q W ok:=λW' hW=>hi W' (h W' hW)
theorem old(h:uR P W ok)(hb:Below W.heap.size W W1):uR P W1 (λk=>ok k/\k<W.heap.size):=(h.bound).step (λk _ hlt=>hb.block k hlt)
end uR
namespace Kd
def F{α:Type}(d:Kd α)(W:World)(ok:Nat->Prop)(A:Option Addr)(n:Nat)(xs:List α):Prop:=uR (λW=>d.C W A n xs) W ok
def FK{α:Type}(d:Kd α)(W:World)(ok:Nat->Prop)(x:α)(c:List Value):Prop:=uR (λW=>d.K W x c) W ok
section
variable {α β:Type} {d:Kd α} {e base n n' cc g N:Nat} {ok ok' okp S:Nat->Prop} {w w0 w1 W W1:World} {A A':Option Addr} {u v v1:Value} {xs:List α} {xs':List β} {d':Kd β} {x:α} {c:List Value}
theorem aa9(d:Kd α)(W:World)(ok:Nat->Prop):F d W ok none ([]:List α).length []:=λW' _=>FT d W'
theorem Sa(h:d.M W base ok x c):FK d W ok x c:=λ_ hW=>d.fI (Pg h hW)
end
end Kd
namespace Kd
def chunks(sz:Nat)(n:Nat)(inner:List Value):List (List Value):=(List.range n).map λj=>(inner.drop (j*sz)).take sz
theorem jT(sz n:Nat)(inner:List Value):(chunks sz n inner).length=n:=by simp[chunks]
theorem Lh{sz n:Nat}{inner:List Value}{j:Nat}(hj:j<n):(chunks sz n inner)[j]?=some ((inner.drop (j*sz)).take sz):=by simp[chunks,hj]
theorem zN{sz n:Nat}{inner:List Value}{j:Nat}{c:List Value}(h:(chunks sz n inner)[j]?=some c):c=(inner.drop (j*sz)).take sz:=by
 have hj:j<n:=by have:=(List.getElem?_eq_some_iff.1 h).1;rwa [jT] at this
 rw[Lh hj] at h
 injection h with h
 exact h.symm
theorem MQ{α:Type}{Rr:α->List Value->Prop}{sz:Nat}{xs:List α}{inner:List Value}(h:dH Rr sz xs inner)(hR:∀x c,Rr x c->c.length=sz/\∀u ∈ c,u.oneCell'=true):dH (λx cs=>cs=x/\cs.length=sz/\∀u ∈ cs,u.oneCell'=true) sz (chunks sz xs.length inner) inner:=by
 refine⟨by rw[jT];exact h.1,λj p hj=>?_⟩
 have hjl:j<xs.length:=by have:=(List.getElem?_eq_some_iff.1 hj).1;rwa [jT] at this
 have hp:=zN hj
 exact⟨hp.symm,hR _ _ (h.2 j _ (List.getElem?_eq_getElem hjl))⟩
section
variable {α:Type} {d:Kd α} {e base n cc g:Nat} {ok ok' okp S:Nat->Prop} {w w1 W W1:World} {A:Option Addr} {u v v1:Value} {xs:List α} {x:α} {c:List Value}
def N{α:Type}(d:Kd α)(e:Nat)(w:World)(base:Nat)(ok:Nat->Prop)(v:Value)(xs:List α):Prop:=
 (∀k,v.ownBlock=some k->ok k)/\∃rows:List (List Value),rows.length=xs.length/\(raw d.sz).R e w base (λk=>some k=v.ownBlock) v rows/\∀(j:Nat) (x:α) (c:List Value),xs[j]?=some x->rows[j]?=some c->FK d w (λk=>ok k/\some k≠v.ownBlock) x c
theorem R_N(h:d.R e w base ok v xs):N d e w base ok v xs:=by
 obtain⟨h0,inner,ho,hr⟩:=h
 refine⟨h0,chunks d.sz xs.length inner,jT _ _ _,⟨λk hk=>hk.symm,inner,by rw[jT];exact ho,MQ hr (λx c hp=>⟨d.ky (d.fI hp),d.kv (d.fI hp)⟩)⟩,λj x c hx hc=>?_⟩
 rw[zN hc]
 exact Sa (hr.2 j x hx)
theorem JC(d:Kd α)(e:Nat)(w:World)(base:Nat)(ok:Nat->Prop):N d e w base ok (.slice none 0 0) []:=R_N (iH _ _ _ _ _)
end
end Kd
namespace Kd
section
variable {α:Type} {d:Kd α} {W:World} {g n:Nat} {S ok:Nat->Prop} {A:Option Addr} {ad:Addr} {xs:List α}
end
end Kd
section
variable {w w' u:World} {m B g:Nat} {o:Obj} {row:Option Nat} {S:Nat->Prop} {a:Addr} {v:Value}
end
namespace Kd
section
variable {α:Type} {d:Kd α} {e base n m:Nat} {ok:Nat->Prop} {w w':World} {v:Value} {A:Option Addr} {xs:List α}
end
end Kd
section
variable {P:Program} {d:Nat} {xs ys:Array Value} {f:Field} {fs:List Field} {a b:Value} {r s:Bool} {w:World}
theorem Ow (hn:(f.name== "_")=false) (ha:(part f.type xs f.offset).run P w= .ok a w) (hb:(part f.type ys f.offset).run P w= .ok b w) (he:(Op.equalIn d f.type a b).run P w= .ok r w):(Op.eqFields d xs ys [f]).run P w= .ok r w:=by
 have hn':f.name≠ "_" :=by simpa using hn
 simp only[Op.eqFields,if_pos hn',Sem.run_bind,ha,hb,he,Result.andThen_ok]
 cases r<;>simp
theorem Ox (hn:(f.name== "_")=false) (ha:(part f.type xs f.offset).run P w= .ok a w) (hb:(part f.type ys f.offset).run P w= .ok b w) (he:(Op.equalIn d f.type a b).run P w= .ok r w) (hr:(Op.eqFields d xs ys fs).run P w= .ok s w):(Op.eqFields d xs ys (f::fs)).run P w= .ok (r&&s) w:=by
 have hn':f.name≠ "_" :=by simpa using hn
 rw[Op.eqFields]
 simp only[if_pos hn',Sem.run_bind,ha,hb,he,Result.andThen_ok]
 cases r
 .simp
 .simpa using hr
theorem VW{t:TypeId}{fs:Array Field}(hu:P.underlying t=some (.struct fs))(hp:P.stoodInHeld t=false)(h:(Op.eqFields d xs ys fs.toList).run P w= .ok r w):(Op.equalIn (d+1) t (.agg xs) (.agg ys)).run P w= .ok r w:=by
 have hf:P.fieldsOf t=fs:=by simp[Program.fieldsOf,hu]
 rw[run_equalIn_struct (P:=P) w d t xs ys (by rw[hf];exact hu) hp,hf]
 exact h
end
end Go.Proofs.YtdekaocdmjndaaaGreatW.aj
namespace Go.Proofs.YtdekaocdmjndaaaGreatW.aj
theorem dH.one{α:Type}{R:α->List Value->Prop}{ps:List α}{cs:List Value}{p:α}{v:Value}(hp:R p [v])(h:dH R 1 ps cs):dH R 1 (p::ps) (v::cs):=by
 refine⟨by simp[h.1],λj q hq=>?_⟩
 cases j with
 |zero=>
  simp only[List.getElem?_cons_zero,Option.some.injEq] at hq
  subst hq
  simpa using hp
 |succ j=>
  simp only[List.getElem?_cons_succ] at hq
  have h1:=h.2 j q hq
  simpa[Nat.mul_one] using h1
theorem dH.front{α:Type}{R:α->List Value->Prop}{size:Nat}{ps:List α}{cs c all:List Value}{p:α}(hp:R p c)(hc:c.length=size)(h:dH R size ps cs)(ha:c++cs=all):dH R size (p::ps) all:=by
 subst ha
 refine⟨by rw[List.length_append,hc,h.1,List.length_cons,Nat.succ_mul,Nat.add_comm],λj q hq=>?_⟩
 cases j with
 |zero=>
  simp only[List.getElem?_cons_zero,Option.some.injEq] at hq
  subst hq
  rw[Nat.zero_mul,List.drop_zero,List.take_append_of_le_length (by omega),List.take_of_length_le (by omega)]
  exact hp
 |succ j=>
  simp only[List.getElem?_cons_succ] at hq
  have h1:=h.2 j q hq
  rw[Nat.succ_mul,List.drop_append,List.drop_of_length_le (by rw[hc];exact Nat.le_add_left _ _),List.nil_append,hc,Nat.add_sub_cancel]
  exact h1
theorem dH.c2{α:Type}{R:α->List Value->Prop}{ps:List α}{cs:List Value}{p:α}{va vb:Value}(hp:R p [va,vb])(h:dH R 2 ps cs):dH R 2 (p::ps) (va::vb::cs):=dH.front hp rfl h rfl
theorem dH.c3{α:Type}{R:α->List Value->Prop}{ps:List α}{cs:List Value}{p:α}{va vb vc:Value}(hp:R p [va,vb,vc])(h:dH R 3 ps cs):dH R 3 (p::ps) (va::vb::vc::cs):=dH.front hp rfl h rfl
theorem dH.c4{α:Type}{R:α->List Value->Prop}{ps:List α}{cs:List Value}{p:α}{va vb vc vd:Value}(hp:R p [va,vb,vc,vd])(h:dH R 4 ps cs):dH R 4 (p::ps) (va::vb::vc::vd::cs):=dH.front hp rfl h rfl
theorem dH.c5{α:Type}{R:α->List Value->Prop}{ps:List α}{cs:List Value}{p:α}{va vb vc vd ve:Value}(hp:R p [va,vb,vc,vd,ve])(h:dH R 5 ps cs):dH R 5 (p::ps) (va::vb::vc::vd::ve::cs):=dH.front hp rfl h rfl
theorem dH.c6{α:Type}{R:α->List Value->Prop}{ps:List α}{cs:List Value}{p:α}{va vb vc vd ve vf:Value}(hp:R p [va,vb,vc,vd,ve,vf])(h:dH R 6 ps cs):dH R 6 (p::ps) (va::vb::vc::vd::ve::vf::cs):=dH.front hp rfl h rfl
theorem dH.c7{α:Type}{R:α->List Value->Prop}{ps:List α}{cs:List Value}{p:α}{va vb vc vd ve vf vg:Value}(hp:R p [va,vb,vc,vd,ve,vf,vg])(h:dH R 7 ps cs):dH R 7 (p::ps) (va::vb::vc::vd::ve::vf::vg::cs):=dH.front hp rfl h rfl
theorem dH.c8{α:Type}{R:α->List Value->Prop}{ps:List α}{cs:List Value}{p:α}{va vb vc vd ve vf vg vh:Value}(hp:R p [va,vb,vc,vd,ve,vf,vg,vh])(h:dH R 8 ps cs):dH R 8 (p::ps) (va::vb::vc::vd::ve::vf::vg::vh::cs):=dH.front hp rfl h rfl
theorem dH.c9{α:Type}{R:α->List Value->Prop}{ps:List α}{cs:List Value}{p:α}{va vb vc vd ve vf vg vh vi:Value}(hp:R p [va,vb,vc,vd,ve,vf,vg,vh,vi])(h:dH R 9 ps cs):dH R 9 (p::ps) (va::vb::vc::vd::ve::vf::vg::vh::vi::cs):=dH.front hp rfl h rfl
theorem dH.c10{α:Type}{R:α->List Value->Prop}{ps:List α}{cs:List Value}{p:α}{va vb vc vd ve vf vg vh vi vj:Value}(hp:R p [va,vb,vc,vd,ve,vf,vg,vh,vi,vj])(h:dH R 10 ps cs):dH R 10 (p::ps) (va::vb::vc::vd::ve::vf::vg::vh::vi::vj::cs):=dH.front hp rfl h rfl
end Go.Proofs.YtdekaocdmjndaaaGreatW.aj
namespace Go.Proofs.YtdekaocdmjndaaaGreatW.aH
section
variable {P:Program} {ops:Array Oper} {Q:Exit->Act->World->Prop} {md:Region.Mode} {T:Bool×List (List Nat×List Nat)} {B:List Nat} {O:List Nat} {b:Nat->Bool} {i j n:Nat}
theorem put_comm{a:Act}{s t:Tmp}{u v:Value}(h:s≠t):(a.put (some s) u).put (some t) v=(a.put (some t) v).put (some s) u:=by
 simp only[Act.put]
 rw[Array.setIfInBounds_comm _ _ h]
end
end Go.Proofs.YtdekaocdmjndaaaGreatW.aH
namespace Go.Proofs.YtdekaocdmjndaaaGreatW.aj
open Go.RowKit
theorem Kd.FC{α:Type}{d:Kd α}{e base:Nat}{ok:Nat->Prop}{w:World}{v:Value}{xs:List α}(h:d.R e w base ok v xs)(hn:0<xs.length):∃(ad:Addr) (c:Nat),v= .slice (some ad) xs.length c:=by
 obtain⟨A,c,rfl⟩:=Kd.di h
 have h2:=(Kd.eZ h).2.2
 obtain⟨ad,he,_⟩:=h2.2.2 hn
 subst he
 exact⟨ad,c,rfl⟩
end Go.Proofs.YtdekaocdmjndaaaGreatW.aj
namespace Go.Proofs.YtdekaocdmjndaaaGreatW.aH
section
variable {ops:Array Oper} {a:Act} {o og:Oper} {g:Nat} {t:Tmp} {u:Bool}
end
end Go.Proofs.YtdekaocdmjndaaaGreatW.aH
namespace Go.Proofs.YtdekaocdmjndaaaGreatW.aj
open Go.RowKit
section
variable {P:Program} {ops:Array Oper} {rest:List Oper} {o:Oper} {a:Act} {Q:Exit->Act->World->Prop} {W:World}
theorem qA(hw:Region.wanted o (yielded ops a.tmps)=true)(h:wpList P ops Q ({o with guard:=none}::rest) a W):wpList P ops Q (o::rest) a W:=by
 have h1:Region.wanted {o with guard:=none} (yielded ops a.tmps)=true:=rfl
 unfold wpList at h ⊢
 rw[if_pos h1] at h
 rw[if_pos hw]
 exact h
end
namespace Kd
section
variable {α:Type} {d:Kd α} {e base n cap g:Nat} {ok ok' okp:Nat->Prop} {w w1 W:World} {v v1:Value} {xs ys:List α}
end
section
variable {P:Program} {ops:Array Oper} {rest:List Oper} {o:Oper} {a:Act} {Q:Exit->Act->World->Prop} {Kc:Act->World->Prop} {α:Type}
end
end Kd
end Go.Proofs.YtdekaocdmjndaaaGreatW.aj
namespace Go.Proofs.YtdekaocdmjndaaaGreatW.eu
open Go.RowKit YtdekaocdmjndaaaGreatW.aj
namespace Kd
open YtdekaocdmjndaaaGreatW.aj.Kd
end Kd
namespace Kd
open YtdekaocdmjndaaaGreatW.aj.Kd
section
variable {α:Type} {d:Kd α} {e base g N:Nat} {ok:Nat->Prop} {W w1:World} {u v:Value} {xs:List α}
end
end Kd
theorem nA(k k':IntKind)(x y:Int):Builtin.max2 (.int k x) (.int k' y)=pure (.int k (if x<y then y else x)):=by simp only[Builtin.max2,gt_iff_lt]
theorem pF(k k':IntKind)(x y:Int):Builtin.min2 (.int k x) (.int k' y)=pure (.int k (if y<x then y else x)):=by simp only[Builtin.min2]
theorem qw(ats:Array TypeId)(ty:TypeId)(a b:Value):Builtin.max_ ats ty #[a,b]=(Builtin.max2 a b >>= λs=>pure s):=by simp only[Builtin.max_,List.foldlM_cons,List.foldlM_nil]
theorem sI(ats:Array TypeId)(ty:TypeId)(a b:Value):Builtin.min_ ats ty #[a,b]=(Builtin.min2 a b >>= λs=>pure s):=by simp only[Builtin.min_,List.foldlM_cons,List.foldlM_nil]
theorem mU(ats:Array TypeId)(ty:TypeId)(a b c:Value):Builtin.max_ ats ty #[a,b,c]=(Builtin.max2 a b >>= λs=>Builtin.max2 s c >>= λs=>pure s):=by simp only[Builtin.max_,List.foldlM_cons,List.foldlM_nil]
theorem mR(ats:Array TypeId)(ty:TypeId)(a b c:Value):Builtin.min_ ats ty #[a,b,c]=(Builtin.min2 a b >>= λs=>Builtin.min2 s c >>= λs=>pure s):=by simp only[Builtin.min_,List.foldlM_cons,List.foldlM_nil]
theorem pI(ats:Array TypeId)(ty:TypeId)(a b c d:Value):Builtin.max_ ats ty #[a,b,c,d]=(Builtin.max2 a b >>= λs=>Builtin.max2 s c >>= λs=>Builtin.max2 s d >>= λs=>pure s):=by simp only[Builtin.max_,List.foldlM_cons,List.foldlM_nil]
theorem pE(ats:Array TypeId)(ty:TypeId)(a b c d:Value):Builtin.min_ ats ty #[a,b,c,d]=(Builtin.min2 a b >>= λs=>Builtin.min2 s c >>= λs=>Builtin.min2 s d >>= λs=>pure s):=by simp only[Builtin.min_,List.foldlM_cons,List.foldlM_nil]
end Go.Proofs.YtdekaocdmjndaaaGreatW.eu
namespace Go.Proofs.YtdekaocdmjndaaaGreatW.aj
open Go.RowKit
section
variable {P:Program} {ops:Array Oper} {rest:List Oper} {o:Oper} {a:Act} {Q:Exit->Act->World->Prop} {W:World}
theorem iE{f:FuncId}{aof:Array Operand}{ts:Array TypeId}(_ho:o.op= .call {callee:= .value (.func f),args:=aof,argTypes:=ts})(h:wpList P ops Q (o::rest) a W):wpList P ops Q (o::rest) a W:=h
theorem dN{b:Builtin}{xs:Array Operand}{ts:Array TypeId}(_ho:o.op= .call {callee:= .builtin b,args:=xs,argTypes:=ts})(h:wpList P ops Q (o::rest) a W):wpList P ops Q (o::rest) a W:=h
end
def mx(a b:Int):Int:=if a<b then b else a
def shr(k:IntKind)(x y:Int):Int:=x/2^min y.toNat k.bits
theorem JZ{k:IntKind}{x y j:Int}(h:shr k x y=j)(hy:y<=k.bits):x/2^y.toNat=j:=by rw[<- h];unfold shr;rw[Nat.min_eq_left (by omega)]
namespace Kd
section
variable {α:Type} {d:Kd α} {e base:Nat} {ok:Nat->Prop} {W w1:World} {v:Value} {xs:List α}
theorem Pb(h:d.R e W base ok v xs)(hE:d.E=[]){row:Option Nat}(hg:W.grownBy w1 row)(hne:∀k,row=some k->some k≠v.ownBlock):d.R e w1 base ok v xs:=
 bM (qH (wG hE h) hg (λk hk e_=>hne k e_.symm hk)) (λk hk=>h.1 k hk.symm)
end
section
variable {α:Type} {d:Kd α} {e base g n cap:Nat} {ok XZ okp:Nat->Prop} {W:World} {xs:List α} {i:Int} {c:List Value}
end
section
variable {α:Type} {d:Kd α} {e base b b' g N:Nat} {ok ok1:Nat->Prop} {W W2 w1:World} {u v:Value} {xs ys:List α} {S:Nat->Prop}
end
end Kd
end Go.Proofs.YtdekaocdmjndaaaGreatW.aj
namespace Go.Proofs.YtdekaocdmjndaaaGreatW.aj
open Go.RowKit
namespace Kd
def V{α:Type}(d:Kd α)(_e:Nat)(W:World)(aiY:Nat)(ok:Nat->Prop)(v:Value)(xs:List α):Prop:=∃A c,v= .slice A xs.length c/\xs.length<=c/\F d W ok A xs.length xs
section
variable {α β:Type} {d:Kd α} {e base base' n m c g N' lo hi:Nat} {ok ok' S:Nat->Prop} {w W w1:World} {A:Option Addr} {ad:Addr} {u v v1:Value} {xs:List α}
theorem Js(d:Kd α)(e:Nat)(W:World)(base:Nat)(ok:Nat->Prop):V d e W base ok (.slice none 0 0) []:=⟨none,0,rfl,Nat.le_refl _,aa9 d W ok⟩
end
end Kd
end Go.Proofs.YtdekaocdmjndaaaGreatW.aj
namespace Go.Proofs.YtdekaocdmjndaaaGreat.ah
open Go.RowKit YtdekaocdmjndaaaGreatW.aj YtdekaocdmjndaaaGreatW.aH YtdekaocdmjndaaaGreatW.eu
attribute [local go_sem] nA pF qw sI mU mR pI pE
def Zq:Option Int->Value
 |none=> .nilIface
 |some c=> .iface 0 (.int .i64 c)
theorem bn:Zq none= .nilIface:=rfl
theorem bg(c:Int):Zq (some c)= .iface 0 (.int .i64 c):=rfl
theorem info3:(Tryz.prog.info? 3).map (λi=>(i.zero,i.size,i.bytes))=some (some (.int .i64 0),1,8):=by kernel_rfl
theorem NJ:(Tryz.prog.info? 63).map (λi=>(i.zero,i.size,i.bytes))=some (some (.agg #[(.int .i64 0),(.int .i64 0)]),2,16):=by kernel_rfl
theorem QI:(Tryz.prog.info? 188).map (λi=>(i.zero,i.size,i.bytes))=some (some (.agg #[(.int .i64 0),(.int .i64 0),(.int .i64 0),(.int .i64 0)]),4,32):=by kernel_rfl
theorem QH:(Tryz.prog.info? 191).map (λi=>(i.zero,i.size,i.bytes))=some (some (.agg #[(.int .i64 0),(.int .i64 0),(.int .i64 0)]),3,24):=by kernel_rfl
def tO(xs:List (List Int))(i:Int):(List Int):=xs.getD i.toNat ([]:List Int)
theorem Fv{w:World}{A:Option Addr}{n:Nat}{xs:List (List Int)}(h:Kd.C (Kd.slice 3 (Kd.int .i64)) w A n xs)(i:Int)(h0:0<=i)(h1:i<n):∃ad A0 c0,A=some ad/\w.cell? (ad.add i.toNat)=some (.slice A0 (tO xs i).length c0)/\(tO xs i).length<=c0/\(Kd.int .i64).C w A0 (tO xs i).length (tO xs i):=by
 obtain⟨ad,c,e,_,hK,hc0⟩:=Kd.qP h ([]:List Int) i h0 h1
 have hc:∀j u,c[j]?=some u->w.cell? (ad.add (i.toNat*1+j))=some u:=hc0
 obtain⟨A0,c0,rfl,l0,g0⟩:=hK
 exact⟨ad,A0,c0,e,by have hq:=hc 0 _ rfl;rwa [Nat.mul_one,Nat.add_zero] at hq,l0,g0⟩
structure dh where
 f0:Int
 f1:Int
 f2:Int
def Qg:dh:=⟨(0:Int),(0:Int),(0:Int)⟩
def zt:Kd dh:=Kd.NG (Kd.pair (Kd.int .i64) (Kd.pair (Kd.int .i64) (Kd.int .i64))) (λx:dh=>(x.f0,x.f1,x.f2))
theorem KF{w:World}{x:dh}{cs:List Value}(h:zt.K w x cs):cs=[.int .i64 x.f0,.int .i64 x.f1,.int .i64 x.f2]:=by
 obtain⟨_,_,rfl,rfl,⟨_,_,rfl,rfl,rfl⟩⟩:=h
 exact rfl
def sD(xs:List dh)(i:Int):dh:=xs.getD i.toNat Qg
theorem Jo{w:World}{A:Option Addr}{n:Nat}{xs:List dh}(h:Kd.C zt w A n xs)(i:Int)(h0:0<=i)(h1:i<n):∃ad,A=some ad/\w.cell? (ad.add (i.toNat*3))=some (.int .i64 (sD xs i).f0)/\w.cell? ⟨(ad.add (i.toNat*3)).block,(ad.add (i.toNat*3)).off+1,none⟩=some (.int .i64 (sD xs i).f1)/\w.cell? ⟨(ad.add (i.toNat*3)).block,(ad.add (i.toNat*3)).off+2,none⟩=some (.int .i64 (sD xs i).f2):=by
 obtain⟨ad,c,e,_,hK,hc0⟩:=Kd.qP h Qg i h0 h1
 have hc:∀j u,c[j]?=some u->w.cell? (ad.add (i.toNat*3+j))=some u:=hc0
 obtain rfl:=KF hK
 exact⟨ad,e,hc 0 _ rfl,by rw[<- dz _ _ 1 (by omega)];exact hc 1 _ rfl,by rw[<- dz _ _ 2 (by omega)];exact hc 2 _ rfl⟩
structure uP where
 f0:Int
 f1:Int
 f2:Int
 f3:Int
def XE:uP:=⟨(0:Int),(0:Int),(0:Int),(0:Int)⟩
def rD:Kd uP:=Kd.NG (Kd.pair (Kd.int .i64) (Kd.pair (Kd.int .i64) (Kd.pair (Kd.int .i64) (Kd.int .i64)))) (λx:uP=>(x.f0,x.f1,x.f2,x.f3))
theorem KD{w:World}{x:uP}{cs:List Value}(h:rD.K w x cs):cs=[.int .i64 x.f0,.int .i64 x.f1,.int .i64 x.f2,.int .i64 x.f3]:=by
 obtain⟨_,_,rfl,rfl,⟨_,_,rfl,rfl,⟨_,_,rfl,rfl,rfl⟩⟩⟩:=h
 exact rfl
theorem QD(w:World)(x:uP):rD.K w x [.int .i64 x.f0,.int .i64 x.f1,.int .i64 x.f2,.int .i64 x.f3]:=⟨[.int .i64 x.f0],[.int .i64 x.f1,.int .i64 x.f2,.int .i64 x.f3],rfl,rfl,⟨[.int .i64 x.f1],[.int .i64 x.f2,.int .i64 x.f3],rfl,rfl,⟨[.int .i64 x.f2],[.int .i64 x.f3],rfl,rfl,rfl⟩⟩⟩
def fq(xs:List uP)(i:Int):uP:=xs.getD i.toNat XE
theorem RD{w:World}{A:Option Addr}{n:Nat}{xs:List uP}(h:Kd.C rD w A n xs)(i:Int)(h0:0<=i)(h1:i<n):∃ad,A=some ad/\w.cell? (ad.add (i.toNat*4))=some (.int .i64 (fq xs i).f0)/\w.cell? ⟨(ad.add (i.toNat*4)).block,(ad.add (i.toNat*4)).off+1,none⟩=some (.int .i64 (fq xs i).f1)/\w.cell? ⟨(ad.add (i.toNat*4)).block,(ad.add (i.toNat*4)).off+2,none⟩=some (.int .i64 (fq xs i).f2)/\w.cell? ⟨(ad.add (i.toNat*4)).block,(ad.add (i.toNat*4)).off+3,none⟩=some (.int .i64 (fq xs i).f3):=by
 obtain⟨ad,c,e,_,hK,hc0⟩:=Kd.qP h XE i h0 h1
 have hc:∀j u,c[j]?=some u->w.cell? (ad.add (i.toNat*4+j))=some u:=hc0
 obtain rfl:=KD hK
 exact⟨ad,e,hc 0 _ rfl,by rw[<- dz _ _ 1 (by omega)];exact hc 1 _ rfl,by rw[<- dz _ _ 2 (by omega)];exact hc 2 _ rfl,by rw[<- dz _ _ 3 (by omega)];exact hc 3 _ rfl⟩
structure FW where
 f0:Int
 f1:Int
 f2:Int
def z62:FW:=⟨(0:Int),(0:Int),(0:Int)⟩
def AX:Kd FW:=Kd.NG (Kd.pair (Kd.int .i64) (Kd.pair (Kd.int .i64) (Kd.int .i64))) (λx:FW=>(x.f0,x.f1,x.f2))
theorem NC{w:World}{x:FW}{cs:List Value}(h:AX.K w x cs):cs=[.int .i64 x.f0,.int .i64 x.f1,.int .i64 x.f2]:=by
 obtain⟨_,_,rfl,rfl,⟨_,_,rfl,rfl,rfl⟩⟩:=h
 exact rfl
theorem U0(w:World)(x:FW):AX.K w x [.int .i64 x.f0,.int .i64 x.f1,.int .i64 x.f2]:=⟨[.int .i64 x.f0],[.int .i64 x.f1,.int .i64 x.f2],rfl,rfl,⟨[.int .i64 x.f1],[.int .i64 x.f2],rfl,rfl,rfl⟩⟩
theorem QC(w:World)(base:Nat)(ok:Nat->Prop)(x:FW):AX.M w base ok x [.int .i64 x.f0,.int .i64 x.f1,.int .i64 x.f2]:=⟨[.int .i64 x.f0],[.int .i64 x.f1,.int .i64 x.f2],rfl,rfl,⟨[.int .i64 x.f1],[.int .i64 x.f2],rfl,rfl,rfl⟩⟩
def dD(xs:List FW)(i:Int):FW:=xs.getD i.toNat z62
theorem OU{w:World}{A:Option Addr}{n:Nat}{xs:List FW}(h:Kd.C AX w A n xs)(i:Int)(h0:0<=i)(h1:i<n):∃ad,A=some ad/\w.cell? (ad.add (i.toNat*3))=some (.int .i64 (dD xs i).f0)/\w.cell? ⟨(ad.add (i.toNat*3)).block,(ad.add (i.toNat*3)).off+1,none⟩=some (.int .i64 (dD xs i).f1)/\w.cell? ⟨(ad.add (i.toNat*3)).block,(ad.add (i.toNat*3)).off+2,none⟩=some (.int .i64 (dD xs i).f2):=by
 obtain⟨ad,c,e,_,hK,hc0⟩:=Kd.qP h z62 i h0 h1
 have hc:∀j u,c[j]?=some u->w.cell? (ad.add (i.toNat*3+j))=some u:=hc0
 obtain rfl:=NC hK
 exact⟨ad,e,hc 0 _ rfl,by rw[<- dz _ _ 1 (by omega)];exact hc 1 _ rfl,by rw[<- dz _ _ 2 (by omega)];exact hc 2 _ rfl⟩
structure iK where
 f0:Int
 f1:Int
 f2:Int
 f3:Int
def Qf:iK:=⟨(0:Int),(0:Int),(0:Int),(0:Int)⟩
def wY:Kd iK:=Kd.NG (Kd.pair (Kd.int .i64) (Kd.pair (Kd.int .i64) (Kd.pair (Kd.int .i64) (Kd.int .i64)))) (λx:iK=>(x.f0,x.f1,x.f2,x.f3))
theorem KE{w:World}{x:iK}{cs:List Value}(h:wY.K w x cs):cs=[.int .i64 x.f0,.int .i64 x.f1,.int .i64 x.f2,.int .i64 x.f3]:=by
 obtain⟨_,_,rfl,rfl,⟨_,_,rfl,rfl,⟨_,_,rfl,rfl,rfl⟩⟩⟩:=h
 exact rfl
theorem NF(w:World)(base:Nat)(ok:Nat->Prop)(x:iK):wY.M w base ok x [.int .i64 x.f0,.int .i64 x.f1,.int .i64 x.f2,.int .i64 x.f3]:=⟨[.int .i64 x.f0],[.int .i64 x.f1,.int .i64 x.f2,.int .i64 x.f3],rfl,rfl,⟨[.int .i64 x.f1],[.int .i64 x.f2,.int .i64 x.f3],rfl,rfl,⟨[.int .i64 x.f2],[.int .i64 x.f3],rfl,rfl,rfl⟩⟩⟩
def qj(xs:List iK)(i:Int):iK:=xs.getD i.toNat Qf
theorem Jn{w:World}{A:Option Addr}{n:Nat}{xs:List iK}(h:Kd.C wY w A n xs)(i:Int)(h0:0<=i)(h1:i<n):∃ad,A=some ad/\w.cell? (ad.add (i.toNat*4))=some (.int .i64 (qj xs i).f0)/\w.cell? ⟨(ad.add (i.toNat*4)).block,(ad.add (i.toNat*4)).off+1,none⟩=some (.int .i64 (qj xs i).f1)/\w.cell? ⟨(ad.add (i.toNat*4)).block,(ad.add (i.toNat*4)).off+2,none⟩=some (.int .i64 (qj xs i).f2)/\w.cell? ⟨(ad.add (i.toNat*4)).block,(ad.add (i.toNat*4)).off+3,none⟩=some (.int .i64 (qj xs i).f3):=by
 obtain⟨ad,c,e,_,hK,hc0⟩:=Kd.qP h Qf i h0 h1
 have hc:∀j u,c[j]?=some u->w.cell? (ad.add (i.toNat*4+j))=some u:=hc0
 obtain rfl:=KE hK
 exact⟨ad,e,hc 0 _ rfl,by rw[<- dz _ _ 1 (by omega)];exact hc 1 _ rfl,by rw[<- dz _ _ 2 (by omega)];exact hc 2 _ rfl,by rw[<- dz _ _ 3 (by omega)];exact hc 3 _ rfl⟩
structure jh where
 f0:Int
 f1:Int
 f2:Int
def Qd:jh:=⟨(0:Int),(0:Int),(0:Int)⟩
def yf:Kd jh:=Kd.NG (Kd.pair (Kd.int .i64) (Kd.pair (Kd.int .i64) (Kd.int .i64))) (λx:jh=>(x.f0,x.f1,x.f2))
theorem KA{w:World}{x:jh}{cs:List Value}(h:yf.K w x cs):cs=[.int .i64 x.f0,.int .i64 x.f1,.int .i64 x.f2]:=by
 obtain⟨_,_,rfl,rfl,⟨_,_,rfl,rfl,rfl⟩⟩:=h
 exact rfl
theorem ND(w:World)(base:Nat)(ok:Nat->Prop)(x:jh):yf.M w base ok x [.int .i64 x.f0,.int .i64 x.f1,.int .i64 x.f2]:=⟨[.int .i64 x.f0],[.int .i64 x.f1,.int .i64 x.f2],rfl,rfl,⟨[.int .i64 x.f1],[.int .i64 x.f2],rfl,rfl,rfl⟩⟩
def qi(xs:List jh)(i:Int):jh:=xs.getD i.toNat Qd
theorem Jm{w:World}{A:Option Addr}{n:Nat}{xs:List jh}(h:Kd.C yf w A n xs)(i:Int)(h0:0<=i)(h1:i<n):∃ad,A=some ad/\w.cell? (ad.add (i.toNat*3))=some (.int .i64 (qi xs i).f0)/\w.cell? ⟨(ad.add (i.toNat*3)).block,(ad.add (i.toNat*3)).off+1,none⟩=some (.int .i64 (qi xs i).f1)/\w.cell? ⟨(ad.add (i.toNat*3)).block,(ad.add (i.toNat*3)).off+2,none⟩=some (.int .i64 (qi xs i).f2):=by
 obtain⟨ad,c,e,_,hK,hc0⟩:=Kd.qP h Qd i h0 h1
 have hc:∀j u,c[j]?=some u->w.cell? (ad.add (i.toNat*3+j))=some u:=hc0
 obtain rfl:=KA hK
 exact⟨ad,e,hc 0 _ rfl,by rw[<- dz _ _ 1 (by omega)];exact hc 1 _ rfl,by rw[<- dz _ _ 2 (by omega)];exact hc 2 _ rfl⟩
structure mh where
 f0:Int
 f1:Int
def z63:mh:=⟨(0:Int),(0:Int)⟩
def nQ:Kd mh:=Kd.NG (Kd.pair (Kd.int .i64) (Kd.int .i64)) (λx:mh=>(x.f0,x.f1))
theorem NB{w:World}{x:mh}{cs:List Value}(h:nQ.K w x cs):cs=[.int .i64 x.f0,.int .i64 x.f1]:=by
 obtain⟨_,_,rfl,rfl,rfl⟩:=h
 exact rfl
theorem BS{w:World}{base:Nat}{ok:Nat->Prop}{x:mh}{cs:List Value}(h:nQ.M w base ok x cs):cs=[.int .i64 x.f0,.int .i64 x.f1]:=by
 obtain⟨_,_,rfl,rfl,rfl⟩:=h
 exact rfl
theorem vH(w:World)(base:Nat)(ok:Nat->Prop)(x:mh):nQ.M w base ok x [.int .i64 x.f0,.int .i64 x.f1]:=⟨[.int .i64 x.f0],[.int .i64 x.f1],rfl,rfl,rfl⟩
def bS(xs:List mh)(i:Int):mh:=xs.getD i.toNat z63
theorem kW{w:World}{A:Option Addr}{n:Nat}{xs:List mh}(h:Kd.C nQ w A n xs)(i:Int)(h0:0<=i)(h1:i<n):∃ad,A=some ad/\w.cell? (ad.add (i.toNat*2))=some (.int .i64 (bS xs i).f0)/\w.cell? ⟨(ad.add (i.toNat*2)).block,(ad.add (i.toNat*2)).off+1,none⟩=some (.int .i64 (bS xs i).f1):=by
 obtain⟨ad,c,e,_,hK,hc0⟩:=Kd.qP h z63 i h0 h1
 have hc:∀j u,c[j]?=some u->w.cell? (ad.add (i.toNat*2+j))=some u:=hc0
 obtain rfl:=NB hK
 exact⟨ad,e,hc 0 _ rfl,by rw[<- dz _ _ 1 (by omega)];exact hc 1 _ rfl⟩
end Go.Proofs.YtdekaocdmjndaaaGreat.ah
namespace Go.Proofs.YtdekaocdmjndaaaGreat.ah
open Go.RowKit YtdekaocdmjndaaaGreatW.aj YtdekaocdmjndaaaGreatW.aH YtdekaocdmjndaaaGreatW.eu
attribute [local go_sem] nA pF qw sI mU mR pI pE
theorem Zr(d:Nat)(w:World)(x0 y0:Int)(x1 y1:Int):
  (Op.equalIn (d+2) 63 (.agg #[.int .i64 x0,.int .i64 x1]) (.agg #[.int .i64 y0,.int .i64 y1])).run Tryz.prog w= .ok (x0==y0&&(x1==y1)) w:=by
 refine VW Tryz.underlying63 (by kernel_rfl) ?_
 refine Ox (by rfl) (by go_simp;rfl) (by go_simp;rfl) (by go_simp) ?_
 exact Ow (by rfl) (by go_simp;rfl) (by go_simp;rfl) (by go_simp)
end Go.Proofs.YtdekaocdmjndaaaGreat.ah
