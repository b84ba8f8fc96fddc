import Derived.Laws.StructEq
import Derived.Test.YtkjoilgpmngndaaGreatProg
import Derived.Test.YtkjoilgpmngndaaGreatQ1
set_option linter.all false
namespace Go.Proofs.YtkjoilgpmngndaaGreatW.aj
open Go.RowKit
def wQ(P:World->Prop)(W:World)(ok:Nat->Prop):Prop:=∀W':World,(∀k,ok k->k<W.heap.size->W'.heap[k]?=W.heap[k]?)->P W'
theorem UG{W W1:World}{k:Nat}(h:W1.heap[k]?=W.heap[k]?)(hlt:k<W.heap.size):k<W1.heap.size:=by
 rw[Array.getElem?_eq_getElem hlt] at h
 exact(Array.getElem?_eq_some_iff.1 h).1
namespace wQ
variable {P Q:World->Prop} {W W1:World} {ok ok':Nat->Prop}
theorem now(h:wQ P W ok):P W:=h W (λ_ _ _=>rfl)
theorem mono(h:wQ P W ok)(hok:∀k,ok k->ok' k):wQ P W ok':=λW' hW=>h W' (λk hk hlt=>hW k (hok k hk) hlt)
theorem bound(h:wQ P W ok):wQ P W (λk=>ok k/\k<W.heap.size):=λW' hW=>h W' (λk hk hlt=>hW k ⟨hk,hlt⟩ hlt)
theorem step(h:wQ P W ok)(hm:∀k,ok k->k<W.heap.size->W1.heap[k]?=W.heap[k]?):wQ P W1 ok:=λW' hW=>h W' (λk hk hlt=>(hW k hk (UG (hm k hk hlt) hlt)).trans (hm k hk hlt))
theorem imp(h:wQ P W ok)(hi:∀W',P W'->Q W'):wQ Q W ok:=λW' hW=>hi W' (h W' hW)
theorem old(h:wQ P W ok)(hb:Below W.heap.size W W1):wQ P W1 (λk=>ok k/\k<W.heap.size):=(h.bound).step (λk _ hlt=>hb.block k hlt)
end wQ
namespace Kd
def F{α:Type}(d:Kd α)(W:World)(ok:Nat->Prop)(A:Option Addr)(n:Nat)(xs:List α):Prop:=wQ (λW=>d.C W A n xs) W ok
def FK{α:Type}(d:Kd α)(W:World)(ok:Nat->Prop)(x:α)(c:List Value):Prop:=wQ (λW=>d.K W x c) W ok
section
variable {α β:Type} {d:Kd α} {e base n n' cc g N:Nat} {ok ok' okp S:Nat->Prop} {w w0 w1 W W1:World} {A A':Option Addr} {u v v1:Value} {xs:List α} {xs':List β} {d':Kd β} {x:α} {c:List Value}
theorem aes(d:Kd α)(W:World)(ok:Nat->Prop):F d W ok none ([]:List α).length []:=λW' _=>NA d W'
theorem VK(h:d.M W base ok x c):FK d W ok x c:=λ_ hW=>d.gU (Sq h hW)
end
end Kd
namespace Kd
def chunks(sz:Nat)(n:Nat)(inner:List Value):List (List Value):=(List.range n).map λj=>(inner.drop (j*sz)).take sz
theorem lh(sz n:Nat)(inner:List Value):(chunks sz n inner).length=n:=by simp[chunks]
theorem Pg{sz n:Nat}{inner:List Value}{j:Nat}(hj:j<n):(chunks sz n inner)[j]?=some ((inner.drop (j*sz)).take sz):=by simp[chunks,hj]
theorem Cj{sz n:Nat}{inner:List Value}{j:Nat}{c:List Value}(h:(chunks sz n inner)[j]?=some c):c=(inner.drop (j*sz)).take sz:=by
 have hj:j<n:=by have:=(List.getElem?_eq_some_iff.1 h).1;rwa [lh] at this
 rw[Pg hj] at h
 injection h with h
 exact h.symm
theorem Qs{α:Type}{Rr:α->List Value->Prop}{sz:Nat}{xs:List α}{inner:List Value}(h:eG Rr sz xs inner)(hR:∀x c,Rr x c->c.length=sz/\∀u ∈ c,u.oneCell'=true):eG (λx cs=>cs=x/\cs.length=sz/\∀u ∈ cs,u.oneCell'=true) sz (chunks sz xs.length inner) inner:=by
 refine⟨by rw[lh];exact h.1,λj p hj=>?_⟩
 have hjl:j<xs.length:=by have:=(List.getElem?_eq_some_iff.1 hj).1;rwa [lh] at this
 have hp:=Cj hj
 exact⟨hp.symm,hR _ _ (h.2 j _ (List.getElem?_eq_getElem hjl))⟩
section
variable {α:Type} {d:Kd α} {e base n cc g:Nat} {ok ok' okp S:Nat->Prop} {w w1 W W1:World} {A:Option Addr} {u v v1:Value} {xs:List α} {x:α} {c:List Value}
def N{α:Type}(d:Kd α)(e:Nat)(w:World)(base:Nat)(ok:Nat->Prop)(v:Value)(xs:List α):Prop:=
 (∀k,v.ownBlock=some k->ok k)/\∃rows:List (List Value),rows.length=xs.length/\(raw d.sz).R e w base (λk=>some k=v.ownBlock) v rows/\∀(j:Nat) (x:α) (c:List Value),xs[j]?=some x->rows[j]?=some c->FK d w (λk=>ok k/\some k≠v.ownBlock) x c
theorem R_N(h:d.R e w base ok v xs):N d e w base ok v xs:=by
 obtain⟨h0,inner,ho,hr⟩:=h
 refine⟨h0,chunks d.sz xs.length inner,lh _ _ _,⟨λk hk=>hk.symm,inner,by rw[lh];exact ho,Qs hr (λx c hp=>⟨d.kR (d.gU hp),d.kQ (d.gU hp)⟩)⟩,λj x c hx hc=>?_⟩
 rw[Cj hc]
 exact VK (hr.2 j x hx)
theorem Np(d:Kd α)(e:Nat)(w:World)(base:Nat)(ok:Nat->Prop):N d e w base ok (.slice none 0 0) []:=R_N (iK _ _ _ _ _)
end
end Kd
namespace Kd
section
variable {α:Type} {d:Kd α} {W:World} {g n:Nat} {S ok:Nat->Prop} {A:Option Addr} {ad:Addr} {xs:List α}
end
end Kd
section
variable {w w' u:World} {m B g:Nat} {o:Obj} {row:Option Nat} {S:Nat->Prop} {a:Addr} {v:Value}
end
namespace Kd
section
variable {α:Type} {d:Kd α} {e base n m:Nat} {ok:Nat->Prop} {w w':World} {v:Value} {A:Option Addr} {xs:List α}
theorem LH{S:Nat->Prop}(hd:∀{W W':World} {x:α} {cs:List Value},d.K W x cs->d.K W' x cs)(h:d.C w A n xs)(hf:∀ad,A=some ad->0<n->¬S ad.block):∀W',Kept w W' S->d.C W' A n xs:=by
 intro W' hk
 refine⟨h.1,h.2.1,λhn=>?_⟩
 obtain⟨ad,he,hc⟩:=h.2.2 hn
 refine⟨ad,he,λj p hj=>?_⟩
 obtain⟨cs,h1,h2,h3⟩:=hc j p hj
 exact⟨cs,h1,hd h2,λi u hu=>cell_kept (h3 i u hu) hk (by rw[add_block];exact hf ad he hn)⟩
end
end Kd
section
variable {P:Program} {d:Nat} {xs ys:Array Value} {f:Field} {fs:List Field} {a b:Value} {r s:Bool} {w:World}
end
end Go.Proofs.YtkjoilgpmngndaaGreatW.aj
namespace Go.Proofs.YtkjoilgpmngndaaGreatW.aj
theorem eG.one{α:Type}{R:α->List Value->Prop}{ps:List α}{cs:List Value}{p:α}{v:Value}(hp:R p [v])(h:eG R 1 ps cs):eG R 1 (p::ps) (v::cs):=by
 refine⟨by simp[h.1],λj q hq=>?_⟩
 cases j with
 |zero=>
  simp only[List.getElem?_cons_zero,Option.some.injEq] at hq
  subst hq
  simpa using hp
 |succ j=>
  simp only[List.getElem?_cons_succ] at hq
  have h1:=h.2 j q hq
  simpa[Nat.mul_one] using h1
theorem eG.front{α:Type}{R:α->List Value->Prop}{size:Nat}{ps:List α}{cs c all:List Value}{p:α}(hp:R p c)(hc:c.length=size)(h:eG R size ps cs)(ha:c++cs=all):eG R size (p::ps) all:=by
 subst ha
 refine⟨by rw[List.length_append,hc,h.1,List.length_cons,Nat.succ_mul,Nat.add_comm],λj q hq=>?_⟩
 cases j with
 |zero=>
  simp only[List.getElem?_cons_zero,Option.some.injEq] at hq
  subst hq
  rw[Nat.zero_mul,List.drop_zero,List.take_append_of_le_length (by omega),List.take_of_length_le (by omega)]
  exact hp
 |succ j=>
  simp only[List.getElem?_cons_succ] at hq
  have h1:=h.2 j q hq
  rw[Nat.succ_mul,List.drop_append,List.drop_of_length_le (by rw[hc];exact Nat.le_add_left _ _),List.nil_append,hc,Nat.add_sub_cancel]
  exact h1
theorem eG.c2{α:Type}{R:α->List Value->Prop}{ps:List α}{cs:List Value}{p:α}{va vb:Value}(hp:R p [va,vb])(h:eG R 2 ps cs):eG R 2 (p::ps) (va::vb::cs):=eG.front hp rfl h rfl
theorem eG.c3{α:Type}{R:α->List Value->Prop}{ps:List α}{cs:List Value}{p:α}{va vb vc:Value}(hp:R p [va,vb,vc])(h:eG R 3 ps cs):eG R 3 (p::ps) (va::vb::vc::cs):=eG.front hp rfl h rfl
theorem eG.c4{α:Type}{R:α->List Value->Prop}{ps:List α}{cs:List Value}{p:α}{va vb vc vd:Value}(hp:R p [va,vb,vc,vd])(h:eG R 4 ps cs):eG R 4 (p::ps) (va::vb::vc::vd::cs):=eG.front hp rfl h rfl
theorem eG.c5{α:Type}{R:α->List Value->Prop}{ps:List α}{cs:List Value}{p:α}{va vb vc vd ve:Value}(hp:R p [va,vb,vc,vd,ve])(h:eG R 5 ps cs):eG R 5 (p::ps) (va::vb::vc::vd::ve::cs):=eG.front hp rfl h rfl
theorem eG.c6{α:Type}{R:α->List Value->Prop}{ps:List α}{cs:List Value}{p:α}{va vb vc vd ve vf:Value}(hp:R p [va,vb,vc,vd,ve,vf])(h:eG R 6 ps cs):eG R 6 (p::ps) (va::vb::vc::vd::ve::vf::cs):=eG.front hp rfl h rfl
theorem eG.c7{α:Type}{R:α->List Value->Prop}{ps:List α}{cs:List Value}{p:α}{va vb vc vd ve vf vg:Value}(hp:R p [va,vb,vc,vd,ve,vf,vg])(h:eG R 7 ps cs):eG R 7 (p::ps) (va::vb::vc::vd::ve::vf::vg::cs):=eG.front hp rfl h rfl
theorem eG.c8{α:Type}{R:α->List Value->Prop}{ps:List α}{cs:List Value}{p:α}{va vb vc vd ve vf vg vh:Value}(hp:R p [va,vb,vc,vd,ve,vf,vg,vh])(h:eG R 8 ps cs):eG R 8 (p::ps) (va::vb::vc::vd::ve::vf::vg::vh::cs):=eG.front hp rfl h rfl
theorem eG.c9{α:Type}{R:α->List Value->Prop}{ps:List α}{cs:List Value}{p:α}{va vb vc vd ve vf vg vh vi:Value}(hp:R p [va,vb,vc,vd,ve,vf,vg,vh,vi])(h:eG R 9 ps cs):eG R 9 (p::ps) (va::vb::vc::vd::ve::vf::vg::vh::vi::cs):=eG.front hp rfl h rfl
theorem eG.c10{α:Type}{R:α->List Value->Prop}{ps:List α}{cs:List Value}{p:α}{va vb vc vd ve vf vg vh vi vj:Value}(hp:R p [va,vb,vc,vd,ve,vf,vg,vh,vi,vj])(h:eG R 10 ps cs):eG R 10 (p::ps) (va::vb::vc::vd::ve::vf::vg::vh::vi::vj::cs):=eG.front hp rfl h rfl
end Go.Proofs.YtkjoilgpmngndaaGreatW.aj
namespace Go.Proofs.YtkjoilgpmngndaaGreatW.aJ
def up(b:Nat->Bool)(i:Nat):Nat->Bool:=λj=>if j=i then true else b j
section
variable {P:Program} {ops:Array Oper} {Q:Exit->Act->World->Prop} {md:Region.Mode} {T:Bool×List (List Nat×List Nat)} {B:List Nat} {O:List Nat} {b:Nat->Bool} {i j n:Nat}
theorem put_comm{a:Act}{s t:Tmp}{u v:Value}(h:s≠t):(a.put (some s) u).put (some t) v=(a.put (some t) v).put (some s) u:=by
 simp only[Act.put]
 rw[Array.setIfInBounds_comm _ _ h]
end
end Go.Proofs.YtkjoilgpmngndaaGreatW.aJ
namespace Go.Proofs.YtkjoilgpmngndaaGreatW.aj
open Go.RowKit
theorem Kd.mG{α:Type}{d:Kd α}{e base:Nat}{ok:Nat->Prop}{w:World}{v:Value}{xs:List α}(h:d.R e w base ok v xs)(hn:0<xs.length):∃(ad:Addr) (c:Nat),v= .slice (some ad) xs.length c:=by
 obtain⟨A,c,rfl⟩:=Kd.kP h
 have h2:=(Kd.dL h).2.2
 obtain⟨ad,he,_⟩:=h2.2.2 hn
 subst he
 exact⟨ad,c,rfl⟩
end Go.Proofs.YtkjoilgpmngndaaGreatW.aj
namespace Go.Proofs.YtkjoilgpmngndaaGreatW.aJ
section
variable {ops:Array Oper} {a:Act} {o og:Oper} {g:Nat} {t:Tmp} {u:Bool}
end
end Go.Proofs.YtkjoilgpmngndaaGreatW.aJ
namespace Go.Proofs.YtkjoilgpmngndaaGreatW.aj
open Go.RowKit
section
variable {P:Program} {ops:Array Oper} {rest:List Oper} {o:Oper} {a:Act} {Q:Exit->Act->World->Prop} {W:World}
theorem kF(hw:Region.wanted o (yielded ops a.tmps)=true)(h:wpList P ops Q ({o with guard:=none}::rest) a W):wpList P ops Q (o::rest) a W:=by
 have h1:Region.wanted {o with guard:=none} (yielded ops a.tmps)=true:=rfl
 unfold wpList at h ⊢
 rw[if_pos h1] at h
 rw[if_pos hw]
 exact h
end
namespace Kd
section
variable {α:Type} {d:Kd α} {e base n cap g:Nat} {ok ok' okp:Nat->Prop} {w w1 W:World} {v v1:Value} {xs ys:List α}
end
section
variable {P:Program} {ops:Array Oper} {rest:List Oper} {o:Oper} {a:Act} {Q:Exit->Act->World->Prop} {Kc:Act->World->Prop} {α:Type}
end
end Kd
end Go.Proofs.YtkjoilgpmngndaaGreatW.aj
namespace Go.Proofs.YtkjoilgpmngndaaGreatW.ek
open Go.RowKit YtkjoilgpmngndaaGreatW.aj
namespace Kd
open YtkjoilgpmngndaaGreatW.aj.Kd
end Kd
namespace Kd
open YtkjoilgpmngndaaGreatW.aj.Kd
section
variable {α:Type} {d:Kd α} {e base g N:Nat} {ok:Nat->Prop} {W w1:World} {u v:Value} {xs:List α}
end
end Kd
theorem o5(k k':IntKind)(x y:Int):Builtin.max2 (.int k x) (.int k' y)=pure (.int k (if x<y then y else x)):=by simp only[Builtin.max2,gt_iff_lt]
theorem qY(k k':IntKind)(x y:Int):Builtin.min2 (.int k x) (.int k' y)=pure (.int k (if y<x then y else x)):=by simp only[Builtin.min2]
theorem rX(ats:Array TypeId)(ty:TypeId)(a b:Value):Builtin.max_ ats ty #[a,b]=(Builtin.max2 a b >>= λs=>pure s):=by simp only[Builtin.max_,List.foldlM_cons,List.foldlM_nil]
theorem uN(ats:Array TypeId)(ty:TypeId)(a b:Value):Builtin.min_ ats ty #[a,b]=(Builtin.min2 a b >>= λs=>pure s):=by simp only[Builtin.min_,List.foldlM_cons,List.foldlM_nil]
theorem oH(ats:Array TypeId)(ty:TypeId)(a b c:Value):Builtin.max_ ats ty #[a,b,c]=(Builtin.max2 a b >>= λs=>Builtin.max2 s c >>= λs=>pure s):=by simp only[Builtin.max_,List.foldlM_cons,List.foldlM_nil]
theorem oG(ats:Array TypeId)(ty:TypeId)(a b c:Value):Builtin.min_ ats ty #[a,b,c]=(Builtin.min2 a b >>= λs=>Builtin.min2 s c >>= λs=>pure s):=by simp only[Builtin.min_,List.foldlM_cons,List.foldlM_nil]
theorem qZ(ats:Array TypeId)(ty:TypeId)(a b c d:Value):Builtin.max_ ats ty #[a,b,c,d]=(Builtin.max2 a b >>= λs=>Builtin.max2 s c >>= λs=>Builtin.max2 s d >>= λs=>pure s):=by simp only[Builtin.max_,List.foldlM_cons,List.foldlM_nil]
theorem qX(ats:Array TypeId)(ty:TypeId)(a b c d:Value):Builtin.min_ ats ty #[a,b,c,d]=(Builtin.min2 a b >>= λs=>Builtin.min2 s c >>= λs=>Builtin.min2 s d >>= λs=>pure s):=by simp only[Builtin.min_,List.foldlM_cons,List.foldlM_nil]
end Go.Proofs.YtkjoilgpmngndaaGreatW.ek
namespace Go.Proofs.YtkjoilgpmngndaaGreatW.aj
open Go.RowKit
section
variable {P:Program} {ops:Array Oper} {rest:List Oper} {o:Oper} {a:Act} {Q:Exit->Act->World->Prop} {W:World}
theorem fu{f:FuncId}{arY:Array Operand}{ts:Array TypeId}(_ho:o.op= .call {callee:= .value (.func f),args:=arY,argTypes:=ts})(h:wpList P ops Q (o::rest) a W):wpList P ops Q (o::rest) a W:=h
theorem cz{b:Builtin}{xs:Array Operand}{ts:Array TypeId}(_ho:o.op= .call {callee:= .builtin b,args:=xs,argTypes:=ts})(h:wpList P ops Q (o::rest) a W):wpList P ops Q (o::rest) a W:=h
end
def mx(a b:Int):Int:=if a<b then b else a
def shr(k:IntKind)(x y:Int):Int:=x/2^min y.toNat k.bits
theorem NV{k:IntKind}{x y j:Int}(h:shr k x y=j)(hy:y<=k.bits):x/2^y.toNat=j:=by rw[<- h];unfold shr;rw[Nat.min_eq_left (by omega)]
namespace Kd
section
variable {α:Type} {d:Kd α} {e base:Nat} {ok:Nat->Prop} {W w1:World} {v:Value} {xs:List α}
theorem Sj(h:d.R e W base ok v xs)(hE:d.E=[]){row:Option Nat}(hg:W.grownBy w1 row)(hne:∀k,row=some k->some k≠v.ownBlock):d.R e w1 base ok v xs:=
 bB (yn (ym hE h) hg (λk hk e_=>hne k e_.symm hk)) (λk hk=>h.1 k hk.symm)
end
section
variable {α:Type} {d:Kd α} {e base g n cap:Nat} {ok oki okp:Nat->Prop} {W:World} {xs:List α} {i:Int} {c:List Value}
end
section
variable {α:Type} {d:Kd α} {e base b b' g N:Nat} {ok ok1:Nat->Prop} {W W2 w1:World} {u v:Value} {xs ys:List α} {S:Nat->Prop}
end
end Kd
end Go.Proofs.YtkjoilgpmngndaaGreatW.aj
namespace Go.Proofs.YtkjoilgpmngndaaGreatW.aj
open Go.RowKit
namespace Kd
def V{α:Type}(d:Kd α)(_e:Nat)(W:World)(al4:Nat)(ok:Nat->Prop)(v:Value)(xs:List α):Prop:=∃A c,v= .slice A xs.length c/\xs.length<=c/\F d W ok A xs.length xs
section
variable {α β:Type} {d:Kd α} {e base base' n m c g N' lo hi:Nat} {ok ok' S:Nat->Prop} {w W w1:World} {A:Option Addr} {ad:Addr} {u v v1:Value} {xs:List α}
theorem Na(d:Kd α)(e:Nat)(W:World)(base:Nat)(ok:Nat->Prop):V d e W base ok (.slice none 0 0) []:=⟨none,0,rfl,Nat.le_refl _,aes d W ok⟩
end
end Kd
end Go.Proofs.YtkjoilgpmngndaaGreatW.aj
namespace Go.Proofs.YtkjoilgpmngndaaGreat.au
open Go.RowKit YtkjoilgpmngndaaGreatW.aj YtkjoilgpmngndaaGreatW.aJ YtkjoilgpmngndaaGreatW.ek
attribute [local go_sem] o5 qY rX uN oH oG qZ qX
def acO:Option Int->Value
 |none=> .nilIface
 |some c=> .iface 0 (.int .i64 c)
theorem aY:acO none= .nilIface:=rfl
theorem aX(c:Int):acO (some c)= .iface 0 (.int .i64 c):=rfl
theorem info3:(Tryz.prog.info? 3).map (λi=>(i.zero,i.size,i.bytes))=some (some (.int .i64 0),1,8):=by kernel_rfl
theorem Ym:(Tryz.prog.info? 88).map (λi=>(i.zero,i.size,i.bytes))=some (some (.agg #[(.int .i64 0),(.int .i64 0)]),2,16):=by kernel_rfl
theorem Uk:(Tryz.prog.info? 141).map (λi=>(i.zero,i.size,i.bytes))=some (some (.agg #[(.int .i64 0),(.int .i64 0),(.int .i64 0),(.int .i64 0)]),4,32):=by kernel_rfl
def vG(xs:List (List Int))(i:Int):(List Int):=xs.getD i.toNat ([]:List Int)
theorem Iu{w:World}{A:Option Addr}{n:Nat}{xs:List (List Int)}(h:Kd.C (Kd.slice 3 (Kd.int .i64)) w A n xs)(i:Int)(h0:0<=i)(h1:i<n):∃ad A0 c0,A=some ad/\w.cell? (ad.add i.toNat)=some (.slice A0 (vG xs i).length c0)/\(vG xs i).length<=c0/\(Kd.int .i64).C w A0 (vG xs i).length (vG xs i):=by
 obtain⟨ad,c,e,_,hK,hc0⟩:=Kd.vQ h ([]:List Int) i h0 h1
 have hc:∀j u,c[j]?=some u->w.cell? (ad.add (i.toNat*1+j))=some u:=hc0
 obtain⟨A0,c0,rfl,l0,g0⟩:=hK
 exact⟨ad,A0,c0,e,by have hq:=hc 0 _ rfl;rwa [Nat.mul_one,Nat.add_zero] at hq,l0,g0⟩
structure dN where
 f0:Int
 f1:Int
 f2:Int
def TJ:dN:=⟨(0:Int),(0:Int),(0:Int)⟩
def Bt:Kd dN:=Kd.Tv (Kd.pair (Kd.int .i64) (Kd.pair (Kd.int .i64) (Kd.int .i64))) (λx:dN=>(x.f0,x.f1,x.f2))
theorem Oz{w:World}{x:dN}{cs:List Value}(h:Bt.K w x cs):cs=[.int .i64 x.f0,.int .i64 x.f1,.int .i64 x.f2]:=by
 obtain⟨_,_,rfl,rfl,⟨_,_,rfl,rfl,rfl⟩⟩:=h
 exact rfl
def uK(xs:List dN)(i:Int):dN:=xs.getD i.toNat TJ
theorem M8{w:World}{A:Option Addr}{n:Nat}{xs:List dN}(h:Kd.C Bt w A n xs)(i:Int)(h0:0<=i)(h1:i<n):∃ad,A=some ad/\w.cell? (ad.add (i.toNat*3))=some (.int .i64 (uK xs i).f0)/\w.cell? ⟨(ad.add (i.toNat*3)).block,(ad.add (i.toNat*3)).off+1,none⟩=some (.int .i64 (uK xs i).f1)/\w.cell? ⟨(ad.add (i.toNat*3)).block,(ad.add (i.toNat*3)).off+2,none⟩=some (.int .i64 (uK xs i).f2):=by
 obtain⟨ad,c,e,_,hK,hc0⟩:=Kd.vQ h TJ i h0 h1
 have hc:∀j u,c[j]?=some u->w.cell? (ad.add (i.toNat*3+j))=some u:=hc0
 obtain rfl:=Oz hK
 exact⟨ad,e,hc 0 _ rfl,by rw[<- gq _ _ 1 (by omega)];exact hc 1 _ rfl,by rw[<- gq _ _ 2 (by omega)];exact hc 2 _ rfl⟩
structure vC where
 f0:Int
 f1:Int
def z72:vC:=⟨(0:Int),(0:Int)⟩
def Hw:Kd vC:=Kd.Tv (Kd.pair (Kd.int .i64) (Kd.int .i64)) (λx:vC=>(x.f0,x.f1))
theorem Bq{w:World}{x:vC}{cs:List Value}(h:Hw.K w x cs):cs=[.int .i64 x.f0,.int .i64 x.f1]:=by
 obtain⟨_,_,rfl,rfl,rfl⟩:=h
 exact rfl
theorem QV(w:World)(x:vC):Hw.K w x [.int .i64 x.f0,.int .i64 x.f1]:=⟨[.int .i64 x.f0],[.int .i64 x.f1],rfl,rfl,rfl⟩
theorem Ui(w:World)(base:Nat)(ok:Nat->Prop)(x:vC):Hw.M w base ok x [.int .i64 x.f0,.int .i64 x.f1]:=⟨[.int .i64 x.f0],[.int .i64 x.f1],rfl,rfl,rfl⟩
def oW(xs:List vC)(i:Int):vC:=xs.getD i.toNat z72
theorem Zx{w:World}{A:Option Addr}{n:Nat}{xs:List vC}(h:Kd.C Hw w A n xs)(i:Int)(h0:0<=i)(h1:i<n):∃ad,A=some ad/\w.cell? (ad.add (i.toNat*2))=some (.int .i64 (oW xs i).f0)/\w.cell? ⟨(ad.add (i.toNat*2)).block,(ad.add (i.toNat*2)).off+1,none⟩=some (.int .i64 (oW xs i).f1):=by
 obtain⟨ad,c,e,_,hK,hc0⟩:=Kd.vQ h z72 i h0 h1
 have hc:∀j u,c[j]?=some u->w.cell? (ad.add (i.toNat*2+j))=some u:=hc0
 obtain rfl:=Bq hK
 exact⟨ad,e,hc 0 _ rfl,by rw[<- gq _ _ 1 (by omega)];exact hc 1 _ rfl⟩
structure pO where
 f0:Int
 f1:Int
 f2:vC
def z74:pO:=⟨(0:Int),(0:Int),z72⟩
def Dv:Kd pO:=Kd.Tv (Kd.pair (Kd.int .i64) (Kd.pair (Kd.int .i64) Hw)) (λx:pO=>(x.f0,x.f1,x.f2))
theorem QU{w:World}{x:pO}{cs:List Value}(h:Dv.K w x cs):cs=[.int .i64 x.f0,.int .i64 x.f1,.int .i64 x.f2.f0,.int .i64 x.f2.f1]:=by
 obtain⟨_,_,rfl,rfl,⟨_,_,rfl,rfl,s2⟩⟩:=h
 obtain rfl:=Bq s2
 exact rfl
theorem Yh(w:World)(x:pO):Dv.K w x [.int .i64 x.f0,.int .i64 x.f1,.int .i64 x.f2.f0,.int .i64 x.f2.f1]:=⟨[.int .i64 x.f0],[.int .i64 x.f1,.int .i64 x.f2.f0,.int .i64 x.f2.f1],rfl,rfl,⟨[.int .i64 x.f1],[.int .i64 x.f2.f0,.int .i64 x.f2.f1],rfl,rfl,(QV w x.f2)⟩⟩
theorem Mv(w:World)(base:Nat)(ok:Nat->Prop)(x:pO):Dv.M w base ok x [.int .i64 x.f0,.int .i64 x.f1,.int .i64 x.f2.f0,.int .i64 x.f2.f1]:=⟨[.int .i64 x.f0],[.int .i64 x.f1,.int .i64 x.f2.f0,.int .i64 x.f2.f1],rfl,rfl,⟨[.int .i64 x.f1],[.int .i64 x.f2.f0,.int .i64 x.f2.f1],rfl,rfl,(Ui w base ok x.f2)⟩⟩
def bA(xs:List pO)(i:Int):pO:=xs.getD i.toNat z74
theorem RX{w:World}{A:Option Addr}{n:Nat}{xs:List pO}(h:Kd.C Dv w A n xs)(i:Int)(h0:0<=i)(h1:i<n):∃ad,A=some ad/\w.cell? (ad.add (i.toNat*4))=some (.int .i64 (bA xs i).f0)/\w.cell? ⟨(ad.add (i.toNat*4)).block,(ad.add (i.toNat*4)).off+1,none⟩=some (.int .i64 (bA xs i).f1)/\w.cell? ⟨(ad.add (i.toNat*4)).block,(ad.add (i.toNat*4)).off+2,none⟩=some (.int .i64 (bA xs i).f2.f0)/\w.cell? ⟨(ad.add (i.toNat*4)).block,(ad.add (i.toNat*4)).off+3,none⟩=some (.int .i64 (bA xs i).f2.f1):=by
 obtain⟨ad,c,e,_,hK,hc0⟩:=Kd.vQ h z74 i h0 h1
 have hc:∀j u,c[j]?=some u->w.cell? (ad.add (i.toNat*4+j))=some u:=hc0
 obtain rfl:=QU hK
 exact⟨ad,e,hc 0 _ rfl,by rw[<- gq _ _ 1 (by omega)];exact hc 1 _ rfl,by rw[<- gq _ _ 2 (by omega)];exact hc 2 _ rfl,by rw[<- gq _ _ 3 (by omega)];exact hc 3 _ rfl⟩
structure S64 where
 f0:(List Int)
 f1:(List Int)
def z64:S64:=⟨([]:List Int),([]:List Int)⟩
def IX:Kd S64:=Kd.Tv (Kd.pair (Kd.slice 3 (Kd.int .i64)) (Kd.slice 3 (Kd.int .i64))) (λx:S64=>(x.f0,x.f1))
theorem QW{w:World}{x:S64}{cs:List Value}(h:IX.K w x cs):∃A0 c0 A1 c1,cs=[.slice A0 x.f0.length c0,.slice A1 x.f1.length c1]/\x.f0.length<=c0/\(Kd.int .i64).C w A0 x.f0.length x.f0/\x.f1.length<=c1/\(Kd.int .i64).C w A1 x.f1.length x.f1:=by
 obtain⟨_,_,rfl,⟨A0,c0,rfl,l0,g0⟩,⟨A1,c1,rfl,l1,g1⟩⟩:=h
 exact⟨A0,c0,A1,c1,rfl,l0,g0,l1,g1⟩
theorem QX(w:World)(x:S64){A0:Option Addr}{c0:Nat}(l0:x.f0.length<=c0)(g0:(Kd.int .i64).C w A0 x.f0.length x.f0){A1:Option Addr}{c1:Nat}(l1:x.f1.length<=c1)(g1:(Kd.int .i64).C w A1 x.f1.length x.f1):IX.K w x [.slice A0 x.f0.length c0,.slice A1 x.f1.length c1]:=⟨[.slice A0 x.f0.length c0],[.slice A1 x.f1.length c1],rfl,⟨A0,c0,rfl,l0,g0⟩,⟨A1,c1,rfl,l1,g1⟩⟩
def fD(xs:List S64)(i:Int):S64:=xs.getD i.toNat z64
theorem KX{w:World}{A:Option Addr}{n:Nat}{xs:List S64}(h:Kd.C IX w A n xs)(i:Int)(h0:0<=i)(h1:i<n):∃ad A0 c0 A1 c1,A=some ad/\w.cell? (ad.add (i.toNat*2))=some (.slice A0 (fD xs i).f0.length c0)/\w.cell? ⟨(ad.add (i.toNat*2)).block,(ad.add (i.toNat*2)).off+1,none⟩=some (.slice A1 (fD xs i).f1.length c1)/\(fD xs i).f0.length<=c0/\(Kd.int .i64).C w A0 (fD xs i).f0.length (fD xs i).f0/\(fD xs i).f1.length<=c1/\(Kd.int .i64).C w A1 (fD xs i).f1.length (fD xs i).f1:=by
 obtain⟨ad,c,e,_,hK,hc0⟩:=Kd.vQ h z64 i h0 h1
 have hc:∀j u,c[j]?=some u->w.cell? (ad.add (i.toNat*2+j))=some u:=hc0
 obtain⟨A0,c0,A1,c1,rfl,l0,g0,l1,g1⟩:=QW hK
 exact⟨ad,A0,c0,A1,c1,e,hc 0 _ rfl,by rw[<- gq _ _ 1 (by omega)];exact hc 1 _ rfl,l0,g0,l1,g1⟩
structure dP where
 f0:Int
 f1:Int
def z88:dP:=⟨(0:Int),(0:Int)⟩
def CV:Kd dP:=Kd.Tv (Kd.pair (Kd.int .i64) (Kd.int .i64)) (λx:dP=>(x.f0,x.f1))
theorem Hu{w:World}{x:dP}{cs:List Value}(h:CV.K w x cs):cs=[.int .i64 x.f0,.int .i64 x.f1]:=by
 obtain⟨_,_,rfl,rfl,rfl⟩:=h
 exact rfl
theorem Yg(w:World)(x:dP):CV.K w x [.int .i64 x.f0,.int .i64 x.f1]:=⟨[.int .i64 x.f0],[.int .i64 x.f1],rfl,rfl,rfl⟩
theorem Mt(w:World)(base:Nat)(ok:Nat->Prop)(x:dP):CV.M w base ok x [.int .i64 x.f0,.int .i64 x.f1]:=⟨[.int .i64 x.f0],[.int .i64 x.f1],rfl,rfl,rfl⟩
def iA(xs:List dP)(i:Int):dP:=xs.getD i.toNat z88
theorem Cr{w:World}{A:Option Addr}{n:Nat}{xs:List dP}(h:Kd.C CV w A n xs)(i:Int)(h0:0<=i)(h1:i<n):∃ad,A=some ad/\w.cell? (ad.add (i.toNat*2))=some (.int .i64 (iA xs i).f0)/\w.cell? ⟨(ad.add (i.toNat*2)).block,(ad.add (i.toNat*2)).off+1,none⟩=some (.int .i64 (iA xs i).f1):=by
 obtain⟨ad,c,e,_,hK,hc0⟩:=Kd.vQ h z88 i h0 h1
 have hc:∀j u,c[j]?=some u->w.cell? (ad.add (i.toNat*2+j))=some u:=hc0
 obtain rfl:=Hu hK
 exact⟨ad,e,hc 0 _ rfl,by rw[<- gq _ _ 1 (by omega)];exact hc 1 _ rfl⟩
structure aV where
 f0:Int
 f1:Int
 f2:dP
def z141:aV:=⟨(0:Int),(0:Int),z88⟩
def tF:Kd aV:=Kd.Tv (Kd.pair (Kd.int .i64) (Kd.pair (Kd.int .i64) CV)) (λx:aV=>(x.f0,x.f1,x.f2))
theorem OA{w:World}{x:aV}{cs:List Value}(h:tF.K w x cs):cs=[.int .i64 x.f0,.int .i64 x.f1,.int .i64 x.f2.f0,.int .i64 x.f2.f1]:=by
 obtain⟨_,_,rfl,rfl,⟨_,_,rfl,rfl,s2⟩⟩:=h
 obtain rfl:=Hu s2
 exact rfl
theorem QZ(w:World)(base:Nat)(ok:Nat->Prop)(x:aV):tF.M w base ok x [.int .i64 x.f0,.int .i64 x.f1,.int .i64 x.f2.f0,.int .i64 x.f2.f1]:=⟨[.int .i64 x.f0],[.int .i64 x.f1,.int .i64 x.f2.f0,.int .i64 x.f2.f1],rfl,rfl,⟨[.int .i64 x.f1],[.int .i64 x.f2.f0,.int .i64 x.f2.f1],rfl,rfl,(Mt w base ok x.f2)⟩⟩
def bZ(xs:List aV)(i:Int):aV:=xs.getD i.toNat z141
theorem sN{w:World}{A:Option Addr}{n:Nat}{xs:List aV}(h:Kd.C tF w A n xs)(i:Int)(h0:0<=i)(h1:i<n):∃ad,A=some ad/\w.cell? (ad.add (i.toNat*4))=some (.int .i64 (bZ xs i).f0)/\w.cell? ⟨(ad.add (i.toNat*4)).block,(ad.add (i.toNat*4)).off+1,none⟩=some (.int .i64 (bZ xs i).f1)/\w.cell? ⟨(ad.add (i.toNat*4)).block,(ad.add (i.toNat*4)).off+2,none⟩=some (.int .i64 (bZ xs i).f2.f0)/\w.cell? ⟨(ad.add (i.toNat*4)).block,(ad.add (i.toNat*4)).off+3,none⟩=some (.int .i64 (bZ xs i).f2.f1):=by
 obtain⟨ad,c,e,_,hK,hc0⟩:=Kd.vQ h z141 i h0 h1
 have hc:∀j u,c[j]?=some u->w.cell? (ad.add (i.toNat*4+j))=some u:=hc0
 obtain rfl:=OA hK
 exact⟨ad,e,hc 0 _ rfl,by rw[<- gq _ _ 1 (by omega)];exact hc 1 _ rfl,by rw[<- gq _ _ 2 (by omega)];exact hc 2 _ rfl,by rw[<- gq _ _ 3 (by omega)];exact hc 3 _ rfl⟩
structure qI where
 f0:(List Int)
 f1:(List Int)
def z80:qI:=⟨([]:List Int),([]:List Int)⟩
def PW:Kd qI:=Kd.Tv (Kd.pair (Kd.slice 3 (Kd.int .i64)) (Kd.slice 3 (Kd.int .i64))) (λx:qI=>(x.f0,x.f1))
theorem QT{w:World}{x:qI}{cs:List Value}(h:PW.K w x cs):∃A0 c0 A1 c1,cs=[.slice A0 x.f0.length c0,.slice A1 x.f1.length c1]/\x.f0.length<=c0/\(Kd.int .i64).C w A0 x.f0.length x.f0/\x.f1.length<=c1/\(Kd.int .i64).C w A1 x.f1.length x.f1:=by
 obtain⟨_,_,rfl,⟨A0,c0,rfl,l0,g0⟩,⟨A1,c1,rfl,l1,g1⟩⟩:=h
 exact⟨A0,c0,A1,c1,rfl,l0,g0,l1,g1⟩
theorem Uh(w:World)(base:Nat)(ok:Nat->Prop)(x:qI){v0:Value}(g0:(Kd.int .i64).R 3 w base ok v0 x.f0){v1:Value}(g1:(Kd.int .i64).R 3 w base ok v1 x.f1):PW.M w base ok x [v0,v1]:=⟨[v0],[v1],rfl,⟨v0,rfl,g0⟩,⟨v1,rfl,g1⟩⟩
def iB(xs:List qI)(i:Int):qI:=xs.getD i.toNat z80
theorem RV{w:World}{A:Option Addr}{n:Nat}{xs:List qI}(h:Kd.C PW w A n xs)(i:Int)(h0:0<=i)(h1:i<n):∃ad A0 c0 A1 c1,A=some ad/\w.cell? (ad.add (i.toNat*2))=some (.slice A0 (iB xs i).f0.length c0)/\w.cell? ⟨(ad.add (i.toNat*2)).block,(ad.add (i.toNat*2)).off+1,none⟩=some (.slice A1 (iB xs i).f1.length c1)/\(iB xs i).f0.length<=c0/\(Kd.int .i64).C w A0 (iB xs i).f0.length (iB xs i).f0/\(iB xs i).f1.length<=c1/\(Kd.int .i64).C w A1 (iB xs i).f1.length (iB xs i).f1:=by
 obtain⟨ad,c,e,_,hK,hc0⟩:=Kd.vQ h z80 i h0 h1
 have hc:∀j u,c[j]?=some u->w.cell? (ad.add (i.toNat*2+j))=some u:=hc0
 obtain⟨A0,c0,A1,c1,rfl,l0,g0,l1,g1⟩:=QT hK
 exact⟨ad,A0,c0,A1,c1,e,hc 0 _ rfl,by rw[<- gq _ _ 1 (by omega)];exact hc 1 _ rfl,l0,g0,l1,g1⟩
end Go.Proofs.YtkjoilgpmngndaaGreat.au
