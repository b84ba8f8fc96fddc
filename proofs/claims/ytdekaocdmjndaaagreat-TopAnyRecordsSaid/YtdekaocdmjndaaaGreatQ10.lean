import Derived.CallsIn
import Derived.OrdersIn
import Derived.RangeFuncFrom
import Derived.Test.YtdekaocdmjndaaaGreatQ9
set_option linter.all false
namespace Go.Proofs.YtdekaocdmjndaaaGreat
open Go.RowKit Go.Shelf ah YtdekaocdmjndaaaGreatW.aj YtdekaocdmjndaaaGreatW.aH
def Marks(lo:Nat)(W:World):List Deferred->Prop
 |[]=>True
 |d::ds=>(∃D,d={target:= .collected D,args:=#[]}/\lo<=D/\W.heap[D]?=some (.deferred (some []))/\∀d' ∈ ds,d'.target≠ .collected D)/\Marks lo W ds
theorem Marks.move{lo:Nat}{W W':World}(hm:∀D:Nat,W.heap[D]?=some (Obj.deferred (some []))->W'.heap[D]?=some (Obj.deferred (some []))):∀{ds:List Deferred},Marks lo W ds->Marks lo W' ds
 |[],_=>trivial
 |_::_,⟨⟨D,h1,h2,h3,h4⟩,h5⟩=>⟨⟨D,h1,h2,hm D h3,h4⟩,Marks.move hm h5⟩
theorem Marks.alloc{lo:Nat}{W:World}{ds:List Deferred}(h:Marks lo W ds)(o:Obj):Marks lo (W.alloc o) ds:=Marks.move (λD hd=>ay hd o) h
theorem Marks.drewN{lo:Nat}{W:World}{ds:List Deferred}(h:Marks lo W ds)(n:Nat):Marks lo (W.drewN n) ds:=Marks.move (W:=W) (W':=W.drewN n) (λ_ hd=>hd) h
theorem Marks.drew{lo:Nat}{W:World}{ds:List Deferred}(h:Marks lo W ds):Marks lo W.drew ds:=Marks.move (W:=W) (W':=W.drew) (λ_ hd=>hd) h
theorem Marks.setCell{lo:Nat}{W:World}{ds:List Deferred}(h:Marks lo W ds)(p:Addr)(u:Value):Marks lo (W.setCell p u) ds:=by
 refine Marks.move (λD hd=>?_) h
 simp only[World.setCell,Array.getElem?_modify]
 by_cases e:p.block=D
 .rw[if_pos e,hd]
  rfl
 .rw[if_neg e]
  exact hd
def uM(F:Fence)(n:Nat)(P:Program)(fn:Func)(R:Ending->World->Prop):Exit->Act->World->Prop
 | .normal,a,w | .ret,a,w=>LeavesInM F n P fn a.tmps R a.defers .returning w
 |_,_,_=>False
theorem bV{P:Program}{F:Fence}{n:Nat}{f:FuncId}{fn:Func}{c:Code}{args:Array Value}{w:World}{R:Ending->World->Prop}
  (hf:P.funcs[f]?=some fn) (hb:fn.body=some c) (hF:F.fn f)
  (h:c.wpIn F n P (uM F n P fn R) {tmps:=args++Array.replicate (fn.ntmps-args.size) undef,defers:=[]} w) (hro:F.round=none:=by rfl):CallsIn F n P f args w R:=
 callsIn_of_wp_marks hf hb hF (wpIn_mono h (λe a w hq=>by cases e<;>first|exact hq|exact hq.elim)) hro
theorem aV.kept{wr W':World}{g:Nat}{cs:List Value}{t:TypeId}(h:aV wr g cs t){B:Nat}{row:Option Nat}(hB:g<B)(hg:wr.grownBy W' row)(hr:∀r,row=some r->B<=r):aV W' g cs t:=
 h.move (hg.block g h.lt (λe=>by have:=hr g e.symm;omega))
def gQ(a b:World):Prop:=∀D:Nat,a.heap[D]?=some (Obj.deferred (some []))->b.heap[D]?=some (Obj.deferred (some []))
theorem gQ.refl(a:World):gQ a a:=λ_ h=>h
theorem gQ.setCell{a b:World}(h:gQ a b)(p:Addr)(u:Value):gQ a (b.setCell p u):=λD hd=>(KeepsOthers.setCell b p u).same D _ (h D hd) rfl
theorem gQ.drew{a b:World}(h:gQ a b):gQ a b.drew:=h
theorem gQ.kept{a b c:World}(h:gQ a b){B:Nat}{row:Option Nat}(hB:a.heap.size<=B)(hg:b.grownBy c row)(hr:∀r,row=some r->B<=r):gQ a c:=λD hd=>by
 have h1:D<a.heap.size:=(Array.getElem?_eq_some_iff.1 hd).1
 have h2:D<b.heap.size:=(Array.getElem?_eq_some_iff.1 (h D hd)).1
 exact(hg.block D h2 (λe=>by have:=hr D e.symm;omega)).trans (h D hd)
theorem Marks.cons{lo:Nat}{a b:World}{ds:List Deferred}(h:Marks lo a ds)(hm:gQ a b){D:Nat}(hD:a.heap.size<=D)(hlo:lo<=a.heap.size)(yh:b.heap[D]?=some (.deferred (some []))):Marks lo b ({target:= .collected D,args:=#[]}::ds):=by
 refine⟨⟨D,rfl,by omega,yh,?_⟩,Marks.move hm h⟩
 clear yh hm hlo
 induction ds with
 |nil=>exact λd hd=>by cases hd
 |cons d ds ih=>
  obtain⟨⟨D',rfl,h2,h3,h4⟩,h5⟩:=h
  have h6:D'<a.heap.size:=(Array.getElem?_eq_some_iff.1 h3).1
  intro d' hd'
  rcases List.mem_cons.1 hd' with rfl|hd'
  .simp only[ne_eq,Target.collected.injEq]
   omega
  .exact ih h5 d' hd'
theorem cO(W:World){D k:Nat}(o:Obj)(h:k≠D):(W.putObj D o).heap[k]?=W.heap[k]?:=World.putObj_heap_other h
theorem Marks.put{lo:Nat}{W:World}{D:Nat}(o:Obj):∀{ds:List Deferred},Marks lo W ds->(∀d' ∈ ds,d'.target≠ .collected D)->Marks lo (W.putObj D o) ds
 |[],_,_=>trivial
 |d::ds,⟨⟨D',h1,h2,h3,h4⟩,h5⟩,hd=>by
  refine⟨⟨D',h1,h2,?_,h4⟩,Marks.put o h5 (λd' hd'=>hd d' (List.mem_cons_of_mem _ hd'))⟩
  rw[cO W o (by rintro rfl;exact hd d List.mem_cons_self (by rw[h1]))]
  exact h3
theorem Marks.leaves{lo:Nat}{F:Fence}{n:Nat}{P:Program}{fn:Func}{tmps:Array Value}{R:Ending->World->Prop}{Inv:World->Prop}(hInv:∀(W:World) (D:Nat),lo<=D->W.heap[D]?=some (.deferred (some []))->Inv W->Inv (W.putObj D (.deferred none)))
  (hend:∀W,Inv W->LeavesIn F n P fn tmps R [] .returning W):∀(ds:List Deferred) (W:World),Marks lo W ds->Inv W->LeavesInM F n P fn tmps R ds .returning W
 |[],W,_,hi=>hend W hi
 |d::ds,W,⟨⟨D,h1,h2,h3,h4⟩,h5⟩,hi=>⟨by simp,.inl ⟨D,_,by rw[h1],run_takeDeferred h3,Marks.leaves hInv hend ds _ (h5.put _ h4) (hInv W D h2 h3 hi)⟩⟩
theorem Qa(t:Array Value)(i j:Tmp)(a b:Value):(#[i,j].zip #[a,b]).foldl (λt (p,v)=>t.setIfInBounds p v) t=(t.setIfInBounds i a).setIfInBounds j b:=by simp
theorem zf{F:Fence}{n:Nat}{P:Program}{α:Type}{g:Operand}{ps:Array Tmp}{assign body:Code}{Q:Exit->Act->World->Prop}{a:Act}{w:World}
  (hro:F.round=none) (h1:1<=n) {gf:Nat} {lb:Array Value} (hg:a.eval g= .func (.func gf) #[] lb) (hFg:F.fn gf) (eg:∀args w,(callFunc gf args).run P w= .ok (.enter gf args) w)
  {encs:α->Array Value} {Kp:World->World->Prop} {S Sp:List α->Prop} {N:Nat} (hseq:SeqStopsK F (n-1) P gf lb encs Kp S Sp N w)
  (hKt:∀{A B C:World},Kp A B->Kp B C->Kp A C) (hKb:∀(W:World) (l:Nat) (o o':Obj),w.heap.size<=l->W.heap[l]?=some o->o.isCells=false->o.isWalk=false->Kp W (W.putObj l o')) (hps:∀x,(encs x).size=ps.size)
  (fz f:Array Value->α->Array Value) (hz:∀t x,(ps.zip (encs x)).foldl (λt (p,v)=>t.setIfInBounds p v) t=fz t x) (I:List α->World->Prop) (hI:OwnFrom w.heap.size I) (h0:I [] w)
  (hassign:∀(l:Nat) (x:α) (W:World) (K:Act->World->Prop),K {tmps:=f a.tmps x,defers:=[]} W ->
   assign.wpIn (F.inRound l) (n-1-1) P (Exit.then K (λ_ _ _=>False)) {tmps:=fz a.tmps x,defers:=[]} W)
  (hbody:∀(l:Nat) (pre:List α) (x:α) (W:World),I pre W->pre.length<N->body.wpIn (F.inRound l) (n-1-1) P (ownPostK Kp I (λ_ _ _=>False) (pre++[x]) W) {tmps:=f a.tmps x,defers:=[]} W)
  (hdone:∀(D:Nat) (xs:List α) (W:World),w.heap.size<=D->S xs->I xs W->W.heap[D]?=some (.deferred (some []))->Q .normal {a with defers:={target:= .collected D,args:=#[]}::a.defers} W):
  (Code.rangeFunc g ps assign body).wpIn F n P Q a w:=
 wpIn_rangeFunc_ownF hro h1 hg hFg eg hseq (λh k=>hKt h k) hKb (Below.refl _ _) hps I (λ_ _ _=>False) hI (λ_ _ _ _ _ h=>h.elim) h0 (λx=>{tmps:=f a.tmps x,defers:=[]}) (λl x W K hK=>by rw[hz];exact hassign l x W K hK) hbody hdone (λ_ _ _ _ _ _ h=>h.elim)
def mI(ops:Array Oper):Bool:=ops.all λo=>match o.op with | .defer _=>false|_=>true
theorem qm{ops:Array Oper}(h:mI ops=true){i:Nat}{o:Oper}(ho:ops[i]?=some o)(c:Call):o.op≠ .defer c:=by
 intro e
 obtain⟨hi,he⟩:=Array.getElem?_eq_some_iff.1 ho
 unfold mI at h
 rw[Array.all_eq_true] at h
 have:=h i hi
 rw[he,e] at this
 cases this
theorem jq{r n:Nat}{P:Program}{o:Oper}{a:Act}{K K':Act->World->Prop}{Q:Exit->Act->World->Prop}(hK:∀a w,K a w->K' a w){x:Result Next}(h:o.upon P a K Q x):o.uponIn (Fence.wide.inRound r) n P a K' Q x:=by
 have hno:(Fence.wide.inRound r).depth.isSome=true->1<=n:=λe=>absurd e (by simp[Fence.wide])
 cases x with
 |ok v w'=>
  cases v with
  |value v=>exact hK _ _ h
  |skip=>exact hK _ _ h
  |defer d=>exact hK _ _ h
  |enter f args=>exact⟨hno,CallsIn.inRound r (callsIn_wide.2 (Calls.mono h (λe w'' he=>by cases e<;>first|exact hK _ _ he|exact he)))⟩
  |row row args=>exact⟨hno,λc cs _=>Exists.elim (h c cs) λv h'=>Exists.elim h' λw'' h''=>⟨v,w'',hK _ _ h''.1,stepsIn_wide.2 h''.2⟩⟩
  |_=>exact h.elim
 |halt o w'=>
  cases o with
  |panic v=>exact h
  |_=>exact h.elim
theorem dS{r n:Nat}{P:Program}{ops:Array Oper}{Q:Exit->Act->World->Prop}(hd:mI ops=true)(hQ:¬LetsOut Q):∀(l:List Nat) (a:Act) (w:World),wpOps P ops Q l a w->wpOpsIn (Fence.wide.inRound r) n P ops Q l a w
 |[],a,w,h=>h
 |i::rest,a,w,h=>by
  unfold wpOps at h
  unfold wpOpsIn
  cases ho:ops[i]? with
  |none=>
   rw[ho] at h
   exact dS hd hQ rest a w h
  |some o=>
   rw[ho] at h
   simp only at h ⊢
   by_cases hw:Region.wanted o (yielded ops a.tmps)=true
   .rw[if_pos hw] at h ⊢
    rcases h with h|h
    .refine⟨λ_ _=>trivial,?_⟩
     rw[Oper.semAt_eq _ _ _ (qm hd ho)]
     exact jq (dS hd hQ rest) h
    .exact absurd h.2 hQ
   .rw[if_neg hw] at h ⊢
    exact⟨λ_ _=>trivial,dS hd hQ rest _ w h⟩
theorem mE{r m id n:Nat}{P:Program}{ops:Array Oper}{Q:Exit->Act->World->Prop}{S:World->Prop}{ds:List Nat}{a:Act}{w:World}(hQ:¬LetsOut Q)(hd:mI ops=true)(l:Array Bool)(hm:P.follows .mixedOrders=true)(hn:ops.size=n)(hl:Array.replicate n false=l)(hS:S w.drew)
  (h:S w.drew->aQ P .any ops Q S ds n l a w.drew):(Code.region id ops true).wpIn (Fence.wide.inRound r) m P Q a w:=by
 subst hn
 subst hl
 refine wpIn_region_draw λt=>dS hd hQ _ _ _ ?_
 simp only[Region.schedule,hm,Bool.true_or,if_true]
 exact wpAny_sound _ t _ a _ (lL _ _ _ _ (h hS))
theorem yX{w:World}{A2:Option Addr}{ss:List eY}(h:Kd.C zu w A2 ss.length ss)(h0:0<ss.length):∀ad,A2=some ad->ad.block<w.heap.size:=by
 intro ad e
 obtain⟨ad',e',h1,_⟩:=yJ h ((0:Nat):Int) (by omega) (by omega)
 rw[e] at e'
 obtain rfl:=Option.some.inj e'
 have hbk:∀(d:Addr) (i:Nat),(d.add i).block=d.block:=λd i=>by unfold Addr.add;split<;>rfl
 have:=World.block_lt_of_cell? _ _ h1
 rwa [hbk] at this
def cellsS(x:eY):List Value:=[.int .i64 x.f0,.int .i64 x.f1,.int .i64 x.f2,.int .i64 x.f3.f0,.int .i64 x.f3.f1]
theorem xZ(B:Nat)(W:World)(o:Obj):KeepsFrom B W (W.alloc o):=⟨by simp,λk o' _ hk _=>ay hk o⟩
theorem Eh{g:Operand}{pa pb:Tmp}{assign body:Code}{Q:Exit->Act->World->Prop}{a:Act}{w:World}{n:Nat}(h1:1<=n)(hn:1<=n-1){gm gn:Nat}
  (hg:a.eval g= .func (.func 262) #[] #[.pointer (some ⟨gm,0,none⟩),.pointer (some ⟨gn,0,none⟩)])
  {n₀:Nat} {S:Nat->Prop} {u0 u1 u3:Value} {A2:Option Addr} {c2:Nat} {ss:List eY} {old:Int} (uz:ss.length<=281474976710656) (hw:n₀<=w.heap.size) (hR:Dz n₀ S w gm gn u0 u1 u3 A2 c2 ss old)
  (fz:Array Value->IS->Array Value) (f:Array Value->IS->Nat->Array Value) (hz:∀t x,(#[pa,pb].zip (Jd x)).foldl (λt (p,v)=>t.setIfInBounds p v) t=fz t x)
  (I:List IS->World->Prop) (hI:OwnFrom w.heap.size I) (hIs:∀xs W,I xs W->w.heap.size<=W.heap.size) (h0:I [] w)
  (hassign:∀(l:Nat) (x:IS) (W:World) (K:Act->World->Prop),Ir ss old x->K {tmps:=f a.tmps x W.heap.size,defers:=[]} (W.alloc (.cells (cellsS x.2).toArray 142)) ->
   assign.wpIn (Fence.wide.inRound l) (n-1-1) Tryz.prog (Exit.then K (λ_ _ _=>False)) {tmps:=fz a.tmps x,defers:=[]} W)
  (hbody:∀(l:Nat) (pre:List IS) (x:IS) (g:Nat) (W:World),Ir ss old x->pre.length<ss.length->I pre W->w.heap.size<=g->aV W g (cellsS x.2) 142->body.wpIn (Fence.wide.inRound l) (n-1-1) Tryz.prog (ownPostG w.heap.size (aY n₀ S) I (λ_ _ _=>False) (pre++[x]) W) {tmps:=f a.tmps x g,defers:=[]} W)
  (hdone:∀(D:Nat) (W:World),w.heap.size<=D->I (nV ss old ss.length) W->W.heap[D]?=some (.deferred (some []))->Q .normal {a with defers:={target:= .collected D,args:=#[]}::a.defers} W):
  (Code.rangeFunc g #[pa,pb] assign body).wpIn Fence.wide n Tryz.prog Q a w:=by
 refine wpIn_rangeFunc_ownH (α:={x // Ir ss old x}) rfl h1 hg trivial (enters Tryz.func262 (by kernel_rfl) rfl)
  (Nl Fence.wide (n-1) trivial rfl hn gm gn n₀ S u0 u1 u3 A2 c2 ss old uz w hw hR) (λh k=>h.trans k) (CO hw) (Below.refl _ _) (λ_=>rfl)
  (λ(xs:List {x // Ir ss old x}) W=>I (xs.map Subtype.val) W) (λ_ _ _=>False) (by intro xs W W' row h hgr hr;exact hI _ W W' row h hgr hr) (by intro _ _ _ _ _ h;exact h.elim) h0
  (λx a' W=>∃g,w.heap.size<=g/\aV W g (cellsS x.1.2) 142/\a'={tmps:=f a.tmps x.1 g,defers:=[]}) ?_ ?_ ?_ ?_ (λ_ _ _ _ _ _ h=>h.elim)
 .rintro x a' _ W W' row ⟨g,hg1,hg2,rfl⟩ hgr hr
  refine⟨g,hg1,hg2.move (hgr.block g hg2.lt (λe=>?_)),rfl⟩
  obtain⟨_,o,ho,hc⟩:=hr g e.symm
  rw[show W.heap[g]?=_ from hg2] at ho
  cases ho
  cases hc
 .intro l pre x W K hi hK
  rw[hz]
  exact hassign l x.1 W K x.2 (hK _ _ (xZ _ _ _) (aY.of_below ((Below.refl W.heap.size W).alloc (Nat.le_refl _) _) (Nat.le_trans hw (hIs _ _ hi))) (hI.alloc _ hi) ⟨W.heap.size,hIs _ _ hi,aV.new W (cellsS x.1.2) 142,rfl⟩)
 .rintro l pre x a' W _ _ hi ⟨g,hg1,hg2,rfl⟩ hlen
  have:=hbody l (pre.map Subtype.val) x.1 g W x.2 (by rw[List.length_map];exact hlen) hi hg1 hg2
  refine wpIn_mono this ?_
  rintro e a3 W3 hp
  cases e<;>first|(rw[List.map_append];exact hp)|exact hp|simpa[ownPostG] using hp
 .intro D xs W hD hS hi yh
  refine hdone D W hD ?_ yh
  have:xs.map Subtype.val=nV ss old ss.length:=hS
  rw[this] at hi
  exact hi
section
variable {P:Program} {ops:Array Oper} {Q:Exit->Act->World->Prop} {md:Region.Mode} {S:World->Prop} {ds:List Nat} {n:Nat}
def gG(n:Nat)(P:Program)(md:Region.Mode)(ops:Array Oper)(Q:Exit->Act->World->Prop)(S:World->Prop)(ds:List Nat):Nat->Array Bool->Act->World->Prop
 |0,listed,a,w=>Region.ready md ops listed=[]/\Q .normal a w
 |fuel+1,listed,a,w=>
  (Region.ready md ops listed=[]->Q .normal a w) /\
  ∀i ∈ Region.ready md ops listed,wpOpIn Fence.wide n P ops Q i (λa' w'=>(i ∉ ds->S w->S w')/\gG n P md ops Q S ds fuel (listed.setIfInBounds i true) a' w') a w
theorem uV:∀(fuel:Nat) (listed:Array Bool) (a:Act) (w:World),gG n P md ops Q S ds fuel listed a w->wpAnyIn Fence.wide n P md ops Q fuel listed a w
 |0,_,_,_,h=>h
 |fuel+1,_,_,_,h=>⟨h.1,λi hi=>wpOpIn_mono (λa' w' h'=>uV fuel _ a' w' h'.2) (h.2 i hi)⟩
theorem YieldsIf.IK{i:Nat}{o:Oper}{v:Value}{a:Act}(hi:ops[i]?=some o)(hy:YieldsIf P ops S o v a){K:Act->World->Prop}{w:World}(hS:S w)(h:K (a.put o.dst v) w):wpOpIn Fence.wide n P ops Q i K a w:=by
 unfold Go.wpOpIn
 simp only[hi]
 have hab:∀f,o.about P w a.eval=some f->Fence.wide.fn f:=λf _=>trivial
 rcases hy with⟨hw,hv⟩|⟨hw,rfl⟩
 .simp only[hw,if_true,Oper.wpIn,show Fence.wide.round=none from rfl,Oper.semAt_none,hv w hS,Oper.uponIn];exact⟨hab,h⟩
 .simp only[hw,Bool.false_eq_true,if_false];exact⟨hab,h⟩
theorem xw{j:Nat}{oi oj:Oper}{v:Value}(hj:ops[j]?=some oj)(hap:oi.apart ops oj=true)
  (hsi:∀cs b,oi.op≠ .select cs b) (hsj:∀cs b,oj.op≠ .select cs b)
  (hQ:∀c a w,Q (.panic c) (a.put oi.dst v) w->Q (.panic c) a w) {K:Act->World->Prop} {a:Act} {w:World}
  (hy:YieldsIf P ops S oi v a) (h:wpOpIn Fence.wide n P ops Q j K (a.put oi.dst v) w):
  wpOpIn Fence.wide n P ops Q j (λa' w'=>YieldsIf P ops S oi v a'/\K (a'.put oi.dst v) w') a w:=by
 obtain⟨h1,h2,h3⟩:=Oper.apart_spec hap
 have keep:∀(a:Act),YieldsIf P ops S oi v a->∀u,YieldsIf P ops S oi v (a.put oj.dst u):=λa hy u=>
  hy.of_same (execOp_put oi hsi a oj.dst u h3) (wanted_put oi a oj.dst u h3)
 have keepD:∀d,YieldsIf P ops S oi v {a with defers:=d::a.defers}:=λd=>hy.of_same rfl rfl
 unfold wpOpIn at *
 simp only[hj] at *
 rw[wanted_put oj a oi.dst v h1] at h
 split
 .rename_i hw
  simp only[hw,if_true] at h
  unfold Oper.wpIn at *
  refine⟨λf _=>trivial,?_⟩
  have h:=h.2
  rw[show Fence.wide.round=none from rfl,Oper.semAt_none,execOp_put oj hsj a oi.dst v h1] at h
  rw[show Fence.wide.round=none from rfl,Oper.semAt_none]
  generalize(execOp a.eval oj).run P w=r at *
  cases r with
  |ok x w'=>
   cases x<;>simp only[Oper.uponIn] at h ⊢
   case value u=>exact⟨keep a hy u,by rw[<- Act.put_comm a v u h2];exact h⟩
   case skip=>exact⟨keep a hy _,by rw[<- Act.put_comm a v undef h2];exact h⟩
   case defer d=>
    refine⟨keep _ (keepD d) _,?_⟩
    rw[<- Act.put_comm _ v undef h2,<- Act.put_defers]
    exact h
   case enter f args=>
    refine⟨h.1,CallsIn.mono h.2 λe w'' he=>?_⟩
    cases e with
    |returned u=>exact⟨keep a hy u,by rw[<- Act.put_comm a v u h2];exact he⟩
    |panicked c=>exact hQ _ _ _ he
    |outgrown=>exact he
   case row row args=>exact⟨h.1,RowsIn.mono h.2 λu w'' he=>⟨keep a hy u,by rw[<- Act.put_comm a v u h2];exact he⟩⟩
   case round l f tmps assign body=>
    refine⟨h.1,RoundIn.mono h.2 λe w'' he=>?_⟩
    cases e with
    |returned u=>exact⟨keep a hy u,by rw[<- Act.put_comm a v u h2];exact he⟩
    |panicked c=>exact hQ _ _ _ he
    |outgrown=>exact he
  |halt x w'=>
   cases x<;>simp only[Oper.uponIn] at h ⊢
   case panic u=>exact hQ _ _ _ h
 .rename_i hw
  simp only[hw] at h
  exact⟨λf _=>trivial,keep a hy _,by rw[<- Act.put_comm a v undef h2];exact h.2⟩
theorem Co{i:Nat}{oi:Oper}{v:Value}(hi:ops[i]?=some oi)(hsel:∀(j:Nat) (o:Oper) cs b,ops[j]?=some o->o.op≠ .select cs b)
  (hQ:∀c a w,Q (.panic c) (a.put oi.dst v) w->Q (.panic c) a w) (m:Nat):
  ∀(fuel:Nat) (listed:Array Bool) (a:Act) (w:World),
   (∀j oj,ops[j]?=some oj->j≠i->listed.getD j true=false->(∀e ∈ oj.after,Region.binds md e=true->e.on≠i)->oi.apart ops oj=true) ->
   iI md ops listed->(∀d ∈ ds,listed.getD d true=false->Region.kH md ops i m d=true) ->
   i ∈ Region.ready md ops listed->YieldsIf P ops S oi v a->S w ->
   gG n P md ops Q S ds fuel (listed.setIfInBounds i true) (a.put oi.dst v) w->gG n P md ops Q S ds (fuel+1) listed a w:=by
 intro fuel
 induction fuel with
 |zero=>
  intro listed a w _ _ _ hr hy hS H
  refine⟨λh=>(by rw[h] at hr;cases hr),λj hj=>?_⟩
  by_cases hji:j=i
  .subst hji;exact YieldsIf.IK hi hy hS ⟨λ_ h=>h,H⟩
  .have:=ready_mono hj hji
   rw[H.1] at this
   cases this
 |succ fuel ih=>
  intro listed a w hfree hc hd hr hy hS H
  refine⟨λh=>(by rw[h] at hr;cases hr),λj hj=>?_⟩
  by_cases hji:j=i
  .subst hji;exact YieldsIf.IK hi hy hS ⟨λ_ h=>h,H⟩
  .have h1:=H.2 j (ready_mono hj hji)
   obtain⟨hjun,oj,hoj,hall⟩:=mem_ready.1 hj
   have xh:=(mem_ready.1 hr).1
   have hnot:∀e ∈ oj.after,Region.binds md e=true->e.on≠i:=λe he hb heq=>by
    have h1:=hall e he hb
    rw[heq] at h1
    rcases Nat.lt_or_ge i listed.size with h'|h'
    .simp[h'] at xh h1;rw[xh] at h1;cases h1
    .simp[Array.getElem?_eq_none h'] at h1
   have hjd:j ∉ ds:=λhm=>Region.qJ hc (hd j hm hjun) xh hj
   have h2:=xw hoj (hfree j oj hoj hji hjun hnot) (λcs b=>hsel i oi cs b hi) (λcs b=>hsel j oj cs b hoj) hQ hy h1
   have hfree':∀k ok,ops[k]?=some ok->k≠i->(listed.setIfInBounds j true).getD k true=false ->
     (∀e ∈ ok.after,Region.binds md e=true->e.on≠i)->oi.apart ops ok=true:=λk ok hk hki hun hno=>by
    refine hfree k ok hk hki ?_ hno
    by_cases hjk:j=k
    .subst hjk;exact hjun
    .rw[getD_set_ne true hjk] at hun;exact hun
   have hd':∀d ∈ ds,(listed.setIfInBounds j true).getD d true=false->Region.kH md ops i m d=true:=λd hm hun=>by
    refine hd d hm ?_
    by_cases hjk:j=d
    .subst hjk;exact hjun
    .rw[getD_set_ne true hjk] at hun;exact hun
   refine wpOpIn_mono (λa' w' h3=>⟨h3.2.1,ih (listed.setIfInBounds j true) a' w' hfree' (hc.set hj) hd' (ready_mono hr (Ne.symm hji)) h3.1 (h3.2.1 hjd hS) ?_⟩) h2
   rw[Array.setIfInBounds_comm _ _ hji]
   exact h3.2.2
theorem F4{i:Nat}{oi:Oper}{v:Value}(hi:ops[i]?=some oi)(hsel:∀(j:Nat) (o:Oper) cs b,ops[j]?=some o->o.op≠ .select cs b)
  (hQ:∀c a w,Q (.panic c) (a.put oi.dst v) w->Q (.panic c) a w):
  ∀(fuel:Nat) (listed:Array Bool) (a:Act) (w:World),
   (∀j oj,ops[j]?=some oj->j≠i->listed.getD j true=false->(∀e ∈ oj.after,Region.binds md e=true->e.on≠i)->oi.apart ops oj=true) ->
   i ∈ Region.ready md ops listed->Yields P ops oi v a ->
   gG n P md ops Q S ds fuel (listed.setIfInBounds i true) (a.put oi.dst v) w->gG n P md ops Q S ds (fuel+1) listed a w:=by
 intro fuel
 induction fuel with
 |zero=>
  intro listed a w _ hr hy H
  refine⟨λh=>(by rw[h] at hr;cases hr),λj hj=>?_⟩
  by_cases hji:j=i
  .subst hji;exact YieldsIf.IK hi (hy.yieldsIf (S:=λ_=>True)) trivial ⟨λ_ h=>h,H⟩
  .have:=ready_mono hj hji
   rw[H.1] at this
   cases this
 |succ fuel ih=>
  intro listed a w hfree hr hy H
  refine⟨λh=>(by rw[h] at hr;cases hr),λj hj=>?_⟩
  by_cases hji:j=i
  .subst hji;exact YieldsIf.IK hi (hy.yieldsIf (S:=λ_=>True)) trivial ⟨λ_ h=>h,H⟩
  .have h1:=H.2 j (ready_mono hj hji)
   obtain⟨hjun,oj,hoj,hall⟩:=mem_ready.1 hj
   have xh:=(mem_ready.1 hr).1
   have hnot:∀e ∈ oj.after,Region.binds md e=true->e.on≠i:=λe he hb heq=>by
    have h1:=hall e he hb
    rw[heq] at h1
    rcases Nat.lt_or_ge i listed.size with h'|h'
    .simp[h'] at xh h1;rw[xh] at h1;cases h1
    .simp[Array.getElem?_eq_none h'] at h1
   have h2:=xw (S:=λ_=>True) hoj (hfree j oj hoj hji hjun hnot) (λcs b=>hsel i oi cs b hi) (λcs b=>hsel j oj cs b hoj) hQ hy.yieldsIf h1
   have hfree':∀k ok,ops[k]?=some ok->k≠i->(listed.setIfInBounds j true).getD k true=false ->
     (∀e ∈ ok.after,Region.binds md e=true->e.on≠i)->oi.apart ops ok=true:=λk ok hk hki hun hno=>by
    refine hfree k ok hk hki ?_ hno
    by_cases hjk:j=k
    .subst hjk;exact hjun
    .rw[getD_set_ne true hjk] at hun;exact hun
   refine wpOpIn_mono (λa' w' h3=>⟨h3.2.1,ih (listed.setIfInBounds j true) a' w' hfree' (ready_mono hr (Ne.symm hji)) (h3.1.imp (λ⟨x,y⟩=>⟨x,λw=>y w trivial⟩) id) ?_⟩) h2
   rw[Array.setIfInBounds_comm _ _ hji]
   exact h3.2.2
theorem rZ{id m:Nat}{a:Act}{w:World}(l:Array Bool)(hm:P.follows .mixedOrders=true)(hn:ops.size=m)(hl:Array.replicate m false=l)(hS:S w.drew)
  (h:S w.drew->gG n P .any ops Q S ds m l a w.drew):(Code.region id ops true).wpIn Fence.wide n P Q a w:=by
 subst hn
 subst hl
 exact wpIn_region_any hm (uV _ _ _ _ (h hS))
theorem Us{i:Nat}{N:Option Tmp}{oi:Oper}{v:Value}{fuel:Nat}{l:Array Bool}{a:Act}{w:World}(l':Array Bool)(hi:ops[i]?=some oi)(hN:oi.dst=N)(hc:takeB md ops ds l l' i=true)
  (hQ:∀c a w,Q (.panic c) (a.put oi.dst v) w->Q (.panic c) a w) (hy:YieldsIf P ops S oi v a) (hS:S w) {a':Act} (ha:a.put N v=a')
  (h:gG n P md ops Q S ds fuel l' a' w):gG n P md ops Q S ds (fuel+1) l a w:=by
 subst ha
 subst hN
 simp only[takeB,Bool.and_eq_true,beq_iff_eq] at hc
 obtain⟨⟨⟨⟨⟨h1,h2⟩,h3⟩,h4⟩,h5⟩,h6⟩:=hc
 subst h6
 exact Co hi (Region.noSelect_spec h1) hQ ops.size fuel l a w (Region.free_spec hi h2) (Region.vY h4)
  (λd hm hun=>by have:=List.all_eq_true.1 h5 d hm;rw[hun] at this;simpa using this) (by simpa using h3) hy hS h
theorem gV{i:Nat}{N:Option Tmp}{oi:Oper}{v:Value}{fuel:Nat}{l:Array Bool}{a:Act}{w:World}(l':Array Bool)(hi:ops[i]?=some oi)(hN:oi.dst=N)(hc:Ls md ops l l' i=true)
  (hQ:∀c a w,Q (.panic c) (a.put oi.dst v) w->Q (.panic c) a w) (hy:Yields P ops oi v a) {a':Act} (ha:a.put N v=a')
  (h:gG n P md ops Q S ds fuel l' a' w):gG n P md ops Q S ds (fuel+1) l a w:=by
 subst ha
 subst hN
 simp only[Ls,Bool.and_eq_true,beq_iff_eq] at hc
 obtain⟨⟨⟨h1,h2⟩,h3⟩,h6⟩:=hc
 subst h6
 exact F4 hi (Region.noSelect_spec h1) hQ fuel l a w (Region.free_spec hi h2) (by simpa using h3) hy h
def pQ(n:Nat)(P:Program)(ops:Array Oper)(Q:Exit->Act->World->Prop)(oi:Oper)(N:Option Tmp)(a:Act)(w:World)(K:Act->World->Prop):Prop:=
 if Region.wanted oi (yielded ops a.tmps)=true then Oper.wpIn Fence.wide n P oi a w K Q else K (a.put N undef) w
theorem lq{i:Nat}{N:Option Tmp}{oi:Oper}{fuel:Nat}{l:Array Bool}{a:Act}{w:World}(l':Array Bool)(hi:ops[i]?=some oi)(hN:oi.dst=N)(hc:oO md ops l l' i=true)(hd:i ∉ ds)
  (h:∀K:Act->World->Prop,Shut (∀a' w',S w'->(S w'->gG n P md ops Q S ds fuel l' a' w')->K a' w')->pQ n P ops Q oi N a w K):
  gG n P md ops Q S ds (fuel+1) l a w:=by
 subst hN
 simp only[oO,Bool.and_eq_true,beq_iff_eq] at hc
 obtain⟨h1,h2⟩:=hc
 subst h2
 refine⟨λh0=>(by rw[h1] at h0;cases h0),?_⟩
 rw[h1]
 intro j hj
 obtain rfl:=List.mem_singleton.1 hj
 refine wpOpIn_step hi λK' hK'=>?_
 have h3:=h K' (λa' w' hS hW=>hK' _ _ ⟨λ_ _=>hS,hW hS⟩)
 unfold pQ at h3
 split<;>rename_i hw
 .rw[if_pos hw] at h3;exact h3
 .rw[if_neg hw] at h3;exact⟨λf _=>trivial,h3⟩
theorem wX{i:Nat}{N:Option Tmp}{oi:Oper}{fuel:Nat}{l:Array Bool}{a:Act}{w:World}(l':Array Bool)(hi:ops[i]?=some oi)(hN:oi.dst=N)(hc:oO md ops l l' i=true)(hd:i ∈ ds)
  (h:∀K:Act->World->Prop,Shut (∀a' w',gG n P md ops Q S ds fuel l' a' w'->K a' w')->pQ n P ops Q oi N a w K):
  gG n P md ops Q S ds (fuel+1) l a w:=by
 subst hN
 simp only[oO,Bool.and_eq_true,beq_iff_eq] at hc
 obtain⟨h1,h2⟩:=hc
 subst h2
 refine⟨λh0=>(by rw[h1] at h0;cases h0),?_⟩
 rw[h1]
 intro j hj
 obtain rfl:=List.mem_singleton.1 hj
 refine wpOpIn_step hi λK' hK'=>?_
 have h3:=h K' (λa' w' hW=>hK' _ _ ⟨λhn=>absurd hd hn,hW⟩)
 unfold pQ at h3
 split<;>rename_i hw
 .rw[if_pos hw] at h3;exact h3
 .rw[if_neg hw] at h3;exact⟨λf _=>trivial,h3⟩
theorem xq{l:Array Bool}{a:Act}{w:World}{m:Nat}(hr:(Region.ready md ops l==[])=true)(h:Q .normal a w):gG n P md ops Q S ds m l a w:=by
 have hr:Region.ready md ops l=[]:=by simpa using hr
 cases m with
 |zero=>exact⟨hr,h⟩
 |succ m=>exact⟨λ_=>h,by rw[hr];simp⟩
theorem gJ{fuel:Nat}{l:Array Bool}{a a':Act}{w:World}(ha:a=a')(h:gG n P md ops Q S ds fuel l a' w):gG n P md ops Q S ds fuel l a w:=by
 subst ha
 exact h
theorem lC{m:Nat}{l:Array Bool}{a:Act}{w:World}{T:Bool×List (List Nat×List Nat)}{B:List Nat}(hT:eB md ops=T)(hB:bI T.2 B=true)(h:aa (eB md ops=T)->aa (bI T.2 B=true)->gG n P md ops Q S ds m l a w):gG n P md ops Q S ds m l a w:=h ⟨hT⟩ ⟨hB⟩
theorem OG{oi:Oper}{N:Option Tmp}{a:Act}{w:World}{K:Act->World->Prop}(f:FuncId)(args:Array Value)(hw:Region.wanted oi (yielded ops a.tmps)=true)(hN:oi.dst=N)(hrun:(execOp a.eval oi).run P w= .ok (.enter f args) w)
  (h:Calls P f args w λe w'=>∃v,e= .returned v/\K (a.put N v) w'):pQ n P ops Q oi N a w K:=by
 unfold pQ
 rw[if_pos hw]
 subst hN
 refine⟨λf _=>trivial,?_⟩
 rw[show Fence.wide.round=none from rfl,Oper.semAt_none,hrun,Oper.uponIn_enter]
 refine⟨λh=>(by cases h),?_⟩
 refine callsIn_wide.2 (h.mono λe w'' hh=>?_)
 obtain⟨v,rfl,hk⟩:=hh
 exact hk
theorem kS {oi:Oper} {N:Option Tmp} {a:Act} {w:World} {K:Act->World->Prop} {f:FuncId} {fn:Func} {os:Array Operand} {ts:Array TypeId} (hf:P.funcs[f]?=some fn) (hname:(fn.name== "runtime.NumGoroutine")=false) (hb:fn.body.isSome=true) (args:Array Value)
  (hw:Region.wanted oi (yielded ops a.tmps)=true) (hN:oi.dst=N) (hop:oi.op= .call {callee:= .value (.func f),args:=os,argTypes:=ts}) (hargs:os.map a.eval=args)
  (h:Calls P f args w λe w'=>∃v,e= .returned v/\K (a.put N v) w'):pQ n P ops Q oi N a w K:=by
 refine OG f args hw hN ?_ h
 have he:=vQ hf hname hb args w
 unfold execOp
 simp[hop,resolve,Deferred.ofValue,invoke,Act.eval,hargs,he]
theorem yA{oi:Oper}{N:Option Tmp}{a:Act}{w w1:World}{v:Value}{K:Act->World->Prop}(hw:Region.wanted oi (yielded ops a.tmps)=true)(hN:oi.dst=N)(hrun:(execOp a.eval oi).run P w= .ok (.value v) w1)
  (h:K (a.put N v) w1):pQ n P ops Q oi N a w K:=by
 unfold pQ
 rw[if_pos hw]
 subst hN
 refine⟨λf _=>trivial,?_⟩
 rw[show Fence.wide.round=none from rfl,Oper.semAt_none,hrun]
 exact h
theorem Gd(k:Nat):Fence.wide.room k:=λd h=>by cases h
theorem YieldAt.any{m m':Nat}{l:Nat}{args:Array Value}{W:World}{R:Ending->World->Prop}(h:YieldAt Fence.wide m P l args W R):YieldAt Fence.wide m' P l args W R:=by
 obtain⟨fn,tmps,assign,body,hy,hR⟩:=h
 exact⟨fn,tmps,assign,body,hy,hR.1,λc cs _=>hR.2 c cs (Gd _)⟩
theorem Qi{oi:Oper}{N:Option Tmp}{a:Act}{w:World}{K:Act->World->Prop}{l:Nat}{x:Operand}{os:Array Operand}{ts:Array TypeId}(args:Array Value)
  (hw:Region.wanted oi (yielded ops a.tmps)=true) (hN:oi.dst=N) (hop:oi.op= .call {callee:= .value x,args:=os,argTypes:=ts}) (hx:a.eval x= .func (.yield l) #[] #[]) (hargs:os.map a.eval=args) {m:Nat}
  (h:YieldAt Fence.wide m P l args w λe w'=>∃v,e= .returned v/\K (a.put N v) w'):pQ n P ops Q oi N a w K:=by
 obtain⟨fn,tmps,assign,body,hy,hR⟩:=YieldAt.any (m':=n-1) h
 unfold pQ
 rw[if_pos hw]
 subst hN
 refine⟨λf _=>trivial,?_⟩
 have hrun:(execOp a.eval oi).run P w= .ok (.round l fn tmps assign body) w:=by
  unfold execOp
  simp only[hop,resolve,hargs,hx]
  simp[Deferred.ofValue,invoke,hy,go_sem]
 rw[show Fence.wide.round=none from rfl,Oper.semAt_none,hrun,Oper.uponIn_round]
 refine⟨λh=>(by cases h),?_⟩
 refine hR.mono λe w'' hh=>?_
 obtain⟨v,rfl,hk⟩:=hh
 exact hk
theorem Dg {oi:Oper} {N:Option Tmp} {a:Act} {w:World} {K:Act->World->Prop} {f:FuncId} {fn:Func} {x:Operand} {os:Array Operand} {ts:Array TypeId} {cap:Array Value} (hf:P.funcs[f]?=some fn) (hname:(fn.name== "runtime.NumGoroutine")=false) (hb:fn.body.isSome=true) (args:Array Value)
  (hw:Region.wanted oi (yielded ops a.tmps)=true) (hN:oi.dst=N) (hop:oi.op= .call {callee:= .value x,args:=os,argTypes:=ts}) (hx:a.eval x= .func (.func f) #[] cap) (hargs:os.map a.eval=args)
  (h:Calls P f (args++cap) w λe w'=>∃v,e= .returned v/\K (a.put N v) w'):pQ n P ops Q oi N a w K:=by
 refine OG f (args++cap) hw hN ?_ h
 have he:=vQ hf hname hb (args++cap) w
 unfold execOp
 simp only[hop,resolve,hargs,hx]
 simp[Deferred.ofValue,invoke,he,go_sem]
theorem Df {oi:Oper} {N:Option Tmp} {a:Act} {w:World} {K:Act->World->Prop} {f:FuncId} {fn:Func} {x:Operand} {os:Array Operand} {ts:Array TypeId} {cap:Array Value} (hf:P.funcs[f]?=some fn) (hname:(fn.name== "runtime.NumGoroutine")=false) (hb:fn.body.isSome=true) (args:Array Value)
  (hw:Region.wanted oi (yielded ops a.tmps)=true) (hN:oi.dst=N) (hop:oi.op= .call {callee:= .value x,args:=os,argTypes:=ts}) (hx:a.eval x= .func (.func f) #[] cap) (hargs:os.map a.eval=args)
  (h:Calls P f (args++cap) w λe w'=>∃v,e= .returned v/\K (a.put N v) w'):if Region.wanted oi (yielded ops a.tmps)=true then Oper.wp P oi a w K Q else K (a.put N undef) w:=by
 refine call_ f (args++cap) hw hN ?_ h
 have he:=vQ hf hname hb (args++cap) w
 unfold execOp
 simp only[hop,resolve,hargs,hx]
 simp[Deferred.ofValue,invoke,he,go_sem]
theorem OW{oi:Oper}{N:Option Tmp}{a:Act}{w:World}{K:Act->World->Prop}(s x:Operand)(t:TypeId)(hw:Region.wanted oi (yielded ops a.tmps)=true)(hN:oi.dst=N)(hop:oi.op=Op.call {callee:=Callee.builtin Builtin.append,args:=#[s,x],argTypes:=#[t,t]})
  (e:TypeId) (h1:P.underlying t=some (.slice e)) (h2:(P.info? e).map (λi=>(i.zero,i.size,i.bytes))=some (some (.int .i64 0),1,8)) (b k cap:Nat) (hs:a.eval s= .slice (some ⟨b,0,none⟩) k cap)
  (ad:Addr) (y:Int) (hx:a.eval x= .slice (some ad) 1 1) (hc:w.cell? ad=some (.int .i64 y)) (hroom:k+1<=cap) (hsp:(w.cell? ⟨b,k,none⟩).isSome=true) (hfr:w.frozen? ⟨b,k,none⟩=false)
  (h:K (a.put N (.slice (some ⟨b,0,none⟩) (k+1) cap)) (w.setCell ⟨b,k,none⟩ (.int .i64 y))):pQ n P ops Q oi N a w K:=by
 obtain⟨i,hi,hi2⟩:=Option.map_eq_some_iff.1 h2
 have hsz:i.size=1:=by simp only[Prod.mk.injEq] at hi2;exact hi2.2.1
 have hrun:=run_append_room_cells (P:=P) w t oi.type e i h1 hi b 0 k cap ad 1 1 [.int .i64 y] (by rw[hsz];rfl) (λj u hu=>by
  match j,hu with
  |0,hu=>cases hu;rw[show ad.add 0=ad by unfold Addr.add;split<;>simp_all];exact hc) (λu hu=>by rw[List.mem_singleton.1 hu];rfl) hroom (λj hj=>by
  obtain rfl:j=0:=by simpa using hj
  rw[hsz];simpa using hsp) (λj hj=>by
  obtain rfl:j=0:=by simpa using hj
  rw[hsz];simpa using hfr)
 refine yA hw hN (w1:=w.setCell ⟨b,k,none⟩ (.int .i64 y)) (v:= .slice (some ⟨b,0,none⟩) (k+1) cap) ?_ h
 have e2:w.setCells b (0+k*i.size) [.int .i64 y]=w.setCell ⟨b,k,none⟩ (.int .i64 y):=by rw[hsz];simp[World.setCells]
 rw[e2] at hrun
 simp[execOp,hop,resolve,invoke,builtin,hs,hx,hrun,Result.andThen]
end
end Go.Proofs.YtdekaocdmjndaaaGreat
