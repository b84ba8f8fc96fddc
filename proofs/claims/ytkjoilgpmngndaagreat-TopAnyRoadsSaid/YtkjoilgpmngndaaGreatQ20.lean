import Derived.Test.YtkjoilgpmngndaaGreatQ19
set_option maxHeartbeats 40000000
set_option maxRecDepth 100000
set_option linter.all false
namespace Go.Proofs.YtkjoilgpmngndaaGreat
open Go.RowKit Go.Shelf au YtkjoilgpmngndaaGreatW.aj YtkjoilgpmngndaaGreatW.aJ
def Marks(lo:Nat)(W:World):List Deferred->Prop
 |[]=>True
 |d::ds=>(∃D,d={target:= .collected D,args:=#[]}/\lo<=D/\W.heap[D]?=some (.deferred (some []))/\∀d' ∈ ds,d'.target≠ .collected D)/\Marks lo W ds
theorem Marks.move{lo:Nat}{W W':World}(hm:∀D:Nat,W.heap[D]?=some (Obj.deferred (some []))->W'.heap[D]?=some (Obj.deferred (some []))):∀{ds:List Deferred},Marks lo W ds->Marks lo W' ds
 |[],_=>trivial
 |_::_,⟨⟨D,h1,h2,h3,h4⟩,h5⟩=>⟨⟨D,h1,h2,hm D h3,h4⟩,Marks.move hm h5⟩
theorem Marks.alloc{lo:Nat}{W:World}{ds:List Deferred}(h:Marks lo W ds)(o:Obj):Marks lo (W.alloc o) ds:=Marks.move (λD hd=>ay hd o) h
theorem Marks.drewN{lo:Nat}{W:World}{ds:List Deferred}(h:Marks lo W ds)(n:Nat):Marks lo (W.drewN n) ds:=Marks.move (W:=W) (W':=W.drewN n) (λ_ hd=>hd) h
theorem Marks.drew{lo:Nat}{W:World}{ds:List Deferred}(h:Marks lo W ds):Marks lo W.drew ds:=Marks.move (W:=W) (W':=W.drew) (λ_ hd=>hd) h
theorem Marks.setCell{lo:Nat}{W:World}{ds:List Deferred}(h:Marks lo W ds)(p:Addr)(u:Value):Marks lo (W.setCell p u) ds:=by
 refine Marks.move (λD hd=>?_) h
 simp only[World.setCell,Array.getElem?_modify]
 by_cases e:p.block=D
 .rw[if_pos e,hd]
  rfl
 .rw[if_neg e]
  exact hd
def wL(F:Fence)(n:Nat)(P:Program)(fn:Func)(R:Ending->World->Prop):Exit->Act->World->Prop
 | .normal,a,w | .ret,a,w=>LeavesInM F n P fn a.tmps R a.defers .returning w
 |_,_,_=>False
theorem dS{P:Program}{F:Fence}{n:Nat}{f:FuncId}{fn:Func}{c:Code}{args:Array Value}{w:World}{R:Ending->World->Prop}
  (hf:P.funcs[f]?=some fn) (hb:fn.body=some c) (hF:F.fn f)
  (h:c.wpIn F n P (wL F n P fn R) {tmps:=args++Array.replicate (fn.ntmps-args.size) undef,defers:=[]} w) (hro:F.round=none:=by rfl):CallsIn F n P f args w R:=
 callsIn_of_wp_marks hf hb hF (wpIn_mono h (λe a w hq=>by cases e<;>first|exact hq|exact hq.elim)) hro
theorem aR.kept{wr W':World}{g:Nat}{cs:List Value}{t:TypeId}(h:aR wr g cs t){B:Nat}{row:Option Nat}(hB:g<B)(hg:wr.grownBy W' row)(hr:∀r,row=some r->B<=r):aR W' g cs t:=
 h.move (hg.block g h.lt (λe=>by have:=hr g e.symm;omega))
def gN(a b:World):Prop:=∀D:Nat,a.heap[D]?=some (Obj.deferred (some []))->b.heap[D]?=some (Obj.deferred (some []))
theorem gN.refl(a:World):gN a a:=λ_ h=>h
theorem gN.setCell{a b:World}(h:gN a b)(p:Addr)(u:Value):gN a (b.setCell p u):=λD hd=>(KeepsOthers.setCell b p u).same D _ (h D hd) rfl
theorem gN.drew{a b:World}(h:gN a b):gN a b.drew:=h
theorem gN.kept{a b c:World}(h:gN a b){B:Nat}{row:Option Nat}(hB:a.heap.size<=B)(hg:b.grownBy c row)(hr:∀r,row=some r->B<=r):gN a c:=λD hd=>by
 have h1:D<a.heap.size:=(Array.getElem?_eq_some_iff.1 hd).1
 have h2:D<b.heap.size:=(Array.getElem?_eq_some_iff.1 (h D hd)).1
 exact(hg.block D h2 (λe=>by have:=hr D e.symm;omega)).trans (h D hd)
theorem Marks.cons{lo:Nat}{a b:World}{ds:List Deferred}(h:Marks lo a ds)(hm:gN a b){D:Nat}(hD:a.heap.size<=D)(hlo:lo<=a.heap.size)(CX:b.heap[D]?=some (.deferred (some []))):Marks lo b ({target:= .collected D,args:=#[]}::ds):=by
 refine⟨⟨D,rfl,by omega,CX,?_⟩,Marks.move hm h⟩
 clear CX hm hlo
 induction ds with
 |nil=>exact λd hd=>by cases hd
 |cons d ds ih=>
  obtain⟨⟨D',rfl,h2,h3,h4⟩,h5⟩:=h
  have h6:D'<a.heap.size:=(Array.getElem?_eq_some_iff.1 h3).1
  intro d' hd'
  rcases List.mem_cons.1 hd' with rfl|hd'
  .simp only[ne_eq,Target.collected.injEq]
   omega
  .exact ih h5 d' hd'
theorem fK(W:World){D k:Nat}(o:Obj)(h:k≠D):(W.putObj D o).heap[k]?=W.heap[k]?:=World.putObj_heap_other h
theorem Marks.put{lo:Nat}{W:World}{D:Nat}(o:Obj):∀{ds:List Deferred},Marks lo W ds->(∀d' ∈ ds,d'.target≠ .collected D)->Marks lo (W.putObj D o) ds
 |[],_,_=>trivial
 |d::ds,⟨⟨D',h1,h2,h3,h4⟩,h5⟩,hd=>by
  refine⟨⟨D',h1,h2,?_,h4⟩,Marks.put o h5 (λd' hd'=>hd d' (List.mem_cons_of_mem _ hd'))⟩
  rw[fK W o (by rintro rfl;exact hd d List.mem_cons_self (by rw[h1]))]
  exact h3
theorem Marks.leaves{lo:Nat}{F:Fence}{n:Nat}{P:Program}{fn:Func}{tmps:Array Value}{R:Ending->World->Prop}{Inv:World->Prop}(hInv:∀(W:World) (D:Nat),lo<=D->W.heap[D]?=some (.deferred (some []))->Inv W->Inv (W.putObj D (.deferred none)))
  (hend:∀W,Inv W->LeavesIn F n P fn tmps R [] .returning W):∀(ds:List Deferred) (W:World),Marks lo W ds->Inv W->LeavesInM F n P fn tmps R ds .returning W
 |[],W,_,hi=>hend W hi
 |d::ds,W,⟨⟨D,h1,h2,h3,h4⟩,h5⟩,hi=>⟨by simp,.inl ⟨D,_,by rw[h1],run_takeDeferred h3,Marks.leaves hInv hend ds _ (h5.put _ h4) (hInv W D h2 h3 hi)⟩⟩
theorem NH(t:Array Value)(i j:Tmp)(a b:Value):(#[i,j].zip #[a,b]).foldl (λt (p,v)=>t.setIfInBounds p v) t=(t.setIfInBounds i a).setIfInBounds j b:=by simp
theorem Bd{F:Fence}{n:Nat}{P:Program}{α:Type}{g:Operand}{ps:Array Tmp}{assign body:Code}{Q:Exit->Act->World->Prop}{a:Act}{w:World}
  (hro:F.round=none) (h1:1<=n) {gf:Nat} {lb:Array Value} (hg:a.eval g= .func (.func gf) #[] lb) (hFg:F.fn gf) (eg:∀args w,(callFunc gf args).run P w= .ok (.enter gf args) w)
  {encs:α->Array Value} {Kp:World->World->Prop} {S Sp:List α->Prop} {N:Nat} (hseq:SeqStopsK F (n-1) P gf lb encs Kp S Sp N w)
  (hKt:∀{A B C:World},Kp A B->Kp B C->Kp A C) (hKb:∀(W:World) (l:Nat) (o o':Obj),w.heap.size<=l->W.heap[l]?=some o->o.isCells=false->o.isWalk=false->Kp W (W.putObj l o')) (hps:∀x,(encs x).size=ps.size)
  (fz f:Array Value->α->Array Value) (hz:∀t x,(ps.zip (encs x)).foldl (λt (p,v)=>t.setIfInBounds p v) t=fz t x) (I:List α->World->Prop) (hI:OwnFrom w.heap.size I) (h0:I [] w)
  (hassign:∀(l:Nat) (x:α) (W:World) (K:Act->World->Prop),K {tmps:=f a.tmps x,defers:=[]} W ->
   assign.wpIn (F.inRound l) (n-1-1) P (Exit.then K (λ_ _ _=>False)) {tmps:=fz a.tmps x,defers:=[]} W)
  (hbody:∀(l:Nat) (pre:List α) (x:α) (W:World),I pre W->pre.length<N->body.wpIn (F.inRound l) (n-1-1) P (ownPostK Kp I (λ_ _ _=>False) (pre++[x]) W) {tmps:=f a.tmps x,defers:=[]} W)
  (hdone:∀(D:Nat) (xs:List α) (W:World),w.heap.size<=D->S xs->I xs W->W.heap[D]?=some (.deferred (some []))->Q .normal {a with defers:={target:= .collected D,args:=#[]}::a.defers} W):
  (Code.rangeFunc g ps assign body).wpIn F n P Q a w:=
 wpIn_rangeFunc_ownF hro h1 hg hFg eg hseq (λh k=>hKt h k) hKb (Below.refl _ _) hps I (λ_ _ _=>False) hI (λ_ _ _ _ _ h=>h.elim) h0 (λx=>{tmps:=f a.tmps x,defers:=[]}) (λl x W K hK=>by rw[hz];exact hassign l x W K hK) hbody hdone (λ_ _ _ _ _ _ h=>h.elim)
def ow(ops:Array Oper):Bool:=ops.all λo=>match o.op with | .defer _=>false|_=>true
theorem rW{ops:Array Oper}(h:ow ops=true){i:Nat}{o:Oper}(ho:ops[i]?=some o)(c:Call):o.op≠ .defer c:=by
 intro e
 obtain⟨hi,he⟩:=Array.getElem?_eq_some_iff.1 ho
 unfold ow at h
 rw[Array.all_eq_true] at h
 have:=h i hi
 rw[he,e] at this
 cases this
theorem ky{r n:Nat}{P:Program}{o:Oper}{a:Act}{K K':Act->World->Prop}{Q:Exit->Act->World->Prop}(hK:∀a w,K a w->K' a w){x:Result Next}(h:o.upon P a K Q x):o.uponIn (Fence.wide.inRound r) n P a K' Q x:=by
 have hno:(Fence.wide.inRound r).depth.isSome=true->1<=n:=λe=>absurd e (by simp[Fence.wide])
 cases x with
 |ok v w'=>
  cases v with
  |value v=>exact hK _ _ h
  |skip=>exact hK _ _ h
  |defer d=>exact hK _ _ h
  |enter f args=>exact⟨hno,CallsIn.inRound r (callsIn_wide.2 (Calls.mono h (λe w'' he=>by cases e<;>first|exact hK _ _ he|exact he)))⟩
  |row row args=>exact⟨hno,λc cs _=>Exists.elim (h c cs) λv h'=>Exists.elim h' λw'' h''=>⟨v,w'',hK _ _ h''.1,stepsIn_wide.2 h''.2⟩⟩
  |_=>exact h.elim
 |halt o w'=>
  cases o with
  |panic v=>exact h
  |_=>exact h.elim
theorem fA{r n:Nat}{P:Program}{ops:Array Oper}{Q:Exit->Act->World->Prop}(hd:ow ops=true)(hQ:¬LetsOut Q):∀(l:List Nat) (a:Act) (w:World),wpOps P ops Q l a w->wpOpsIn (Fence.wide.inRound r) n P ops Q l a w
 |[],a,w,h=>h
 |i::rest,a,w,h=>by
  unfold wpOps at h
  unfold wpOpsIn
  cases ho:ops[i]? with
  |none=>
   rw[ho] at h
   exact fA hd hQ rest a w h
  |some o=>
   rw[ho] at h
   simp only at h ⊢
   by_cases hw:Region.wanted o (yielded ops a.tmps)=true
   .rw[if_pos hw] at h ⊢
    rcases h with h|h
    .refine⟨λ_ _=>trivial,?_⟩
     rw[Oper.semAt_eq _ _ _ (rW hd ho)]
     exact ky (fA hd hQ rest) h
    .exact absurd h.2 hQ
   .rw[if_neg hw] at h ⊢
    exact⟨λ_ _=>trivial,fA hd hQ rest _ w h⟩
theorem lG{r m id n:Nat}{P:Program}{ops:Array Oper}{Q:Exit->Act->World->Prop}{S:World->Prop}{ds:List Nat}{a:Act}{w:World}(hQ:¬LetsOut Q)(hd:ow ops=true)(l:Array Bool)(hm:P.follows .mixedOrders=true)(hn:ops.size=n)(hl:Array.replicate n false=l)(hS:S w.drew)
  (h:S w.drew->bC P .any ops Q S ds n l a w.drew):(Code.region id ops true).wpIn (Fence.wide.inRound r) m P Q a w:=by
 subst hn
 subst hl
 refine wpIn_region_draw λt=>fA hd hQ _ _ _ ?_
 simp only[Region.schedule,hm,Bool.true_or,if_true]
 exact wpAny_sound _ t _ a _ (ng _ _ _ _ (h hS))
theorem rQ{w:World}{A2:Option Addr}{ss:List dQ}(h:Kd.C Bu w A2 ss.length ss)(h0:0<ss.length):∀ad,A2=some ad->ad.block<w.heap.size:=by
 intro ad e
 obtain⟨ad',e',h1,_⟩:=yh h ((0:Nat):Int) (by omega) (by omega)
 rw[e] at e'
 obtain rfl:=Option.some.inj e'
 have hbk:∀(d:Addr) (i:Nat),(d.add i).block=d.block:=λd i=>by unfold Addr.add;split<;>rfl
 have:=World.block_lt_of_cell? _ _ h1
 rwa [hbk] at this
def cellsS(x:dQ):List Value:=[.int .i64 x.f0,.int .i64 x.f1,.int .i64 x.f2,.int .i64 x.f3.f0,.int .i64 x.f3.f1]
theorem zN(B:Nat)(W:World)(o:Obj):KeepsFrom B W (W.alloc o):=⟨by simp,λk o' _ hk _=>ay hk o⟩
theorem xu{g:Operand}{pa pb:Tmp}{assign body:Code}{Q:Exit->Act->World->Prop}{a:Act}{w:World}{n:Nat}(h1:1<=n)(hn:1<=n-1){gm gn:Nat}
  (hg:a.eval g= .func (.func 96) #[] #[.pointer (some ⟨gm,0,none⟩),.pointer (some ⟨gn,0,none⟩)])
  {n₀:Nat} {S:Nat->Prop} {u0 u1 u3:Value} {A2:Option Addr} {c2:Nat} {ss:List dQ} {old:Int} (wI:ss.length<=281474976710656) (hw:n₀<=w.heap.size) (hR:FW n₀ S w gm gn u0 u1 u3 A2 c2 ss old)
  (fz:Array Value->IS->Array Value) (f:Array Value->IS->Nat->Array Value) (hz:∀t x,(#[pa,pb].zip (M0 x)).foldl (λt (p,v)=>t.setIfInBounds p v) t=fz t x)
  (I:List IS->World->Prop) (hI:OwnFrom w.heap.size I) (hIs:∀xs W,I xs W->w.heap.size<=W.heap.size) (h0:I [] w)
  (hassign:∀(l:Nat) (x:IS) (W:World) (K:Act->World->Prop),Lh ss old x->K {tmps:=f a.tmps x W.heap.size,defers:=[]} (W.alloc (.cells (cellsS x.2).toArray 105)) ->
   assign.wpIn (Fence.wide.inRound l) (n-1-1) Tryz.prog (Exit.then K (λ_ _ _=>False)) {tmps:=fz a.tmps x,defers:=[]} W)
  (hbody:∀(l:Nat) (pre:List IS) (x:IS) (g:Nat) (W:World),Lh ss old x->pre.length<ss.length->I pre W->w.heap.size<=g->aR W g (cellsS x.2) 105->body.wpIn (Fence.wide.inRound l) (n-1-1) Tryz.prog (ownPostG w.heap.size (bq n₀ S) I (λ_ _ _=>False) (pre++[x]) W) {tmps:=f a.tmps x g,defers:=[]} W)
  (hdone:∀(D:Nat) (W:World),w.heap.size<=D->I (iR ss old ss.length) W->W.heap[D]?=some (.deferred (some []))->Q .normal {a with defers:={target:= .collected D,args:=#[]}::a.defers} W):
  (Code.rangeFunc g #[pa,pb] assign body).wpIn Fence.wide n Tryz.prog Q a w:=by
 refine wpIn_rangeFunc_ownH (α:={x // Lh ss old x}) rfl h1 hg trivial (enters Tryz.func96 (by kernel_rfl) rfl)
  (QI Fence.wide (n-1) trivial rfl hn gm gn n₀ S u0 u1 u3 A2 c2 ss old wI w hw hR) (λh k=>h.trans k) (EZ hw) (Below.refl _ _) (λ_=>rfl)
  (λ(xs:List {x // Lh ss old x}) W=>I (xs.map Subtype.val) W) (λ_ _ _=>False) (by intro xs W W' row h hgr hr;exact hI _ W W' row h hgr hr) (by intro _ _ _ _ _ h;exact h.elim) h0
  (λx a' W=>∃g,w.heap.size<=g/\aR W g (cellsS x.1.2) 105/\a'={tmps:=f a.tmps x.1 g,defers:=[]}) ?_ ?_ ?_ ?_ (λ_ _ _ _ _ _ h=>h.elim)
 .rintro x a' _ W W' row ⟨g,hg1,hg2,rfl⟩ hgr hr
  refine⟨g,hg1,hg2.move (hgr.block g hg2.lt (λe=>?_)),rfl⟩
  obtain⟨_,o,ho,hc⟩:=hr g e.symm
  rw[show W.heap[g]?=_ from hg2] at ho
  cases ho
  cases hc
 .intro l pre x W K hi hK
  rw[hz]
  exact hassign l x.1 W K x.2 (hK _ _ (zN _ _ _) (bq.of_below ((Below.refl W.heap.size W).alloc (Nat.le_refl _) _) (Nat.le_trans hw (hIs _ _ hi))) (hI.alloc _ hi) ⟨W.heap.size,hIs _ _ hi,aR.new W (cellsS x.1.2) 105,rfl⟩)
 .rintro l pre x a' W _ _ hi ⟨g,hg1,hg2,rfl⟩ hlen
  have:=hbody l (pre.map Subtype.val) x.1 g W x.2 (by rw[List.length_map];exact hlen) hi hg1 hg2
  refine wpIn_mono this ?_
  rintro e a3 W3 hp
  cases e<;>first|(rw[List.map_append];exact hp)|exact hp|simpa[ownPostG] using hp
 .intro D xs W hD hS hi CX
  refine hdone D W hD ?_ CX
  have:xs.map Subtype.val=iR ss old ss.length:=hS
  rw[this] at hi
  exact hi
end Go.Proofs.YtkjoilgpmngndaaGreat
namespace Go.Proofs.YtkjoilgpmngndaaGreat
open Go.RowKit Go.Shelf au YtkjoilgpmngndaaGreatW.aj YtkjoilgpmngndaaGreatW.aJ
attribute [local go_sem] Oper.semAt_some
def uZ(xs:List IS):Int:=(xs.map (λx=>x.2.f2)).sum
theorem NI(xs:List IS)(x:IS):uZ (xs++[x])=uZ xs+x.2.f2:=by
 unfold uZ
 rw[List.map_append,List.sum_append]
 simp
def kX(no:Nat)(ss:List dQ):Bool:=(List.range no).all (λd=>!(uZ (iR ss (d:Int) ss.length)==0))
theorem Dh{no:Nat}{ss:List dQ}(d:Nat)(hd:d<no)(h:uZ (iR ss (d:Int) ss.length)=0):kX no ss=false:=by
 unfold kX
 rw[List.all_eq_false]
 exact⟨d,by simpa using hd,by simp[h]⟩
theorem EE{no:Nat}{ss:List dQ}(h:∀d:Nat,d<no->uZ (iR ss (d:Int) ss.length)≠0):kX no ss=true:=by
 unfold kX
 rw[List.all_eq_true]
 intro d hd
 have:=h d (by simpa using hd)
 simpa using this
def Wt(xs:List IS):Prop:=∀x ∈ xs,0<=x.2.f2/\x.2.f2<=1000
theorem Jc{xs:List IS}(h:Wt xs):0<=uZ xs/\uZ xs<=1000*xs.length:=by
 unfold uZ
 induction xs with
 |nil=>simp
 |cons x xs ih=>
  have h1:=h x List.mem_cons_self
  have h2:=ih (λy hy=>h y (List.mem_cons_of_mem _ hy))
  simp only[List.map_cons,List.sum_cons,List.length_cons]
  omega
theorem oO(ss:List dQ)(k:Nat)(h:k<ss.length):aN ss k ∈ ss:=by
 have:aN ss k=ss[k]:=by simp[aN,iX,List.getD,h]
 rw[this]
 exact List.getElem_mem h
theorem Di{A0:Option Addr}{c0:Nat}{old:List Int}{nw:Int}{A2:Option Addr}{c2:Nat}{ss:List dQ}{A3:Option Addr}{c3:Nat}{js:List jO}{w:World}(h:Nr w A0 c0 old A2 c2 ss A3 c3 js)(hss:ss.length<=1000)(hold:old.length<=1000)(hwt:∀s ∈ ss,0<=s.f2/\s.f2<=1000):
  Calls Tryz.prog 92 #[.agg #[.slice A0 old.length c0,.int .i64 nw,.slice A2 ss.length c2,.slice A3 js.length c3]] w λe w'=>e= .returned (.bool (kX old.length ss))/\Below w.heap.size w w':=by
 have H:=aa.mk h
 have HWT:=aa.mk hwt
 have hb2:=h.b2
 clear h hwt
 refine(callsIn_wide (n:=9)).1 (dS Tryz.func92 rfl trivial ?_ rfl)
 simp only[Tryz.ntmps92,List.size_toArray,List.length_cons,List.length_nil,Nat.reduceAdd,Nat.reduceSub,Array.replicate_succ,Array.replicate_zero,List.push_toArray,List.append_toArray,List.nil_append,List.cons_append]
 refine wpIn_wide.2 ?_
 go_wp2_with (with_reducible refine wpIn_wide.2 ?_)
 have HB:=aa.mk (ae (Below.refl w.heap.size w) (.cells #[.slice A0 old.length c0,.int .i64 nw,.slice A2 ss.length c2,.slice A3 js.length c3] 43))
 have B1:=aa.mk (aR.new w [.slice A0 old.length c0,.int .i64 nw,.slice A2 ss.length c2,.slice A3 js.length c3] 43)
 have hs0:w.heap.size<(w.alloc (.cells #[.slice A0 old.length c0,.int .i64 nw,.slice A2 ss.length c2,.slice A3 js.length c3] 43)).heap.size:=size_alloc _ _
 generalize w.alloc (.cells #[.slice A0 old.length c0,.int .i64 nw,.slice A2 ss.length c2,.slice A3 js.length c3] 43)=w0 at HB B1 hs0 ⊢
 refine wp_loop (λa' wr=>∃(ds:List Deferred) (d:Nat),d<=old.length/\aa (∀j:Nat,j<d->uZ (iR ss (j:Int) ss.length)≠0)/\aa (Below w.heap.size w wr)/\aa (aR wr w.heap.size [.slice A0 old.length c0,.int .i64 nw,.slice A2 ss.length c2,.slice A3 js.length c3] 43)/\aa (Marks w.heap.size wr ds)/\a'={tmps:=#[.agg #[.slice A0 old.length c0,.int .i64 nw,.slice A2 ss.length c2,.slice A3 js.length c3],.pointer (some ⟨w.heap.size,0,none⟩),.bool false,a'.tmps.getD 3 undef,a'.tmps.getD 4 undef,a'.tmps.getD 5 undef,a'.tmps.getD 6 undef,.pointer (some ⟨w.heap.size,0,none⟩),.slice A0 old.length c0,.int .i64 (old.length:Int),.int .i64 (d:Int),a'.tmps.getD 11 undef,a'.tmps.getD 12 undef,a'.tmps.getD 13 undef,a'.tmps.getD 14 undef,a'.tmps.getD 15 undef,a'.tmps.getD 16 undef,a'.tmps.getD 17 undef,a'.tmps.getD 18 undef,a'.tmps.getD 19 undef,a'.tmps.getD 20 undef,a'.tmps.getD 21 undef,a'.tmps.getD 22 undef,a'.tmps.getD 23 undef,a'.tmps.getD 24 undef],defers:=ds}) (λa' _=>old.length-(intOf (a'.tmps.getD 10 undef)).toNat) ?start ?round
 case start=>exact⟨[],0,Nat.zero_le _,⟨λj hj=>absurd hj (Nat.not_lt_zero _)⟩,HB,B1,⟨trivial⟩,rfl⟩
 case round=>
  clear HB B1 hs0
  rintro a' wr ⟨ds,d,hd,HJ,HB,B1,HM,hfr⟩
  obtain⟨u,hu⟩:∃u:Nat->Value,a'={tmps:=#[.agg #[.slice A0 old.length c0,.int .i64 nw,.slice A2 ss.length c2,.slice A3 js.length c3],.pointer (some ⟨w.heap.size,0,none⟩),.bool false,(u 3),(u 4),(u 5),(u 6),.pointer (some ⟨w.heap.size,0,none⟩),.slice A0 old.length c0,.int .i64 (old.length:Int),.int .i64 (d:Int),(u 11),(u 12),(u 13),(u 14),(u 15),(u 16),(u 17),(u 18),(u 19),(u 20),(u 21),(u 22),(u 23),(u 24)],defers:=ds}:=⟨λi=>a'.tmps.getD i undef,hfr⟩
  clear hfr
  subst hu
  dsimp only
  by_cases hlt:d<old.length
  .have hg1:=B1.out.lt
   have h10:=B1.out.cell 0
   have h11:=B1.out.cell 1
   have h12:=B1.out.cell 2
   have sI:=B1.out.cell 3
   simp only[eP,eO] at h10 h11 h12 sI
   go_wp2_with (with_reducible refine wpIn_wide.2 ?_)
   have HB1:=aa.mk (ae HB.out (.cells #[.int .i64 0] 3))
   have B11:=aa.mk (B1.out.alloc (.cells #[.int .i64 0] 3))
   have B4:=aa.mk (aR.new wr [.int .i64 0] 3)
   have II:=aa.mk (HM.out.alloc (.cells #[.int .i64 0] 3))
   have hs1:=size_alloc wr (.cells #[.int .i64 0] 3)
   clear HB B1 HM h10 h11 h12 sI
   generalize wr.alloc (.cells #[.int .i64 0] 3)=wa at HB1 B11 B4 II hs1 ⊢
   generalize wr.heap.size=g4 at B4 hs1 hg1 ⊢
   refine((callsIn_wide (n:=8)).1 (Mr Fence.wide 8 trivial rfl _ _ _ _ _ rfl rfl rfl rfl wa)).mono ?_
   rintro e w4 ⟨rfl,rfl⟩
   have HB2:=aa.mk (ae (ae HB1.out (.cells #[.slice A0 old.length c0,.int .i64 nw,.slice A2 ss.length c2,.slice A3 js.length c3] 43)) (.cells #[.int .i64 (d:Int)] 3))
   have EB:=aa.mk ((B11.out.alloc (.cells #[.slice A0 old.length c0,.int .i64 nw,.slice A2 ss.length c2,.slice A3 js.length c3] 43)).alloc (.cells #[.int .i64 (d:Int)] 3))
   have zJ:=aa.mk ((B4.out.alloc (.cells #[.slice A0 old.length c0,.int .i64 nw,.slice A2 ss.length c2,.slice A3 js.length c3] 43)).alloc (.cells #[.int .i64 (d:Int)] 3))
   have SF:=aa.mk ((II.out.alloc (.cells #[.slice A0 old.length c0,.int .i64 nw,.slice A2 ss.length c2,.slice A3 js.length c3] 43)).alloc (.cells #[.int .i64 (d:Int)] 3))
   have zS:=aa.mk ((aR.new wa [.slice A0 old.length c0,.int .i64 nw,.slice A2 ss.length c2,.slice A3 js.length c3] 43).alloc (.cells #[.int .i64 (d:Int)] 3))
   have zI:=aa.mk (aR.new (wa.alloc (.cells #[.slice A0 old.length c0,.int .i64 nw,.slice A2 ss.length c2,.slice A3 js.length c3] 43)) [.int .i64 (d:Int)] 3)
   simp only[World.size_alloc] at zI
   have hsz:((wa.alloc (.cells #[.slice A0 old.length c0,.int .i64 nw,.slice A2 ss.length c2,.slice A3 js.length c3] 43)).alloc (.cells #[.int .i64 (d:Int)] 3)).heap.size=wa.heap.size+1+1:=by simp
   clear HB1 B11 B4 II
   generalize(wa.alloc (.cells #[.slice A0 old.length c0,.int .i64 nw,.slice A2 ss.length c2,.slice A3 js.length c3] 43)).alloc (.cells #[.int .i64 (d:Int)] 3)=w4 at HB2 EB zJ SF zS zI hsz ⊢
   obtain⟨gx,hgx⟩:∃gx,wa.heap.size=gx:=⟨_,rfl⟩
   rw[hgx] at zS zI hsz hs1 ⊢
   clear hgx
   have HC:=aa.mk (H.out.below HB2.out)
   have hlo:=rQ H.out.PV
   go_wp2_with (with_reducible refine wpIn_wide.2 ?_)
   refine(wpIn_wide (n:=9)).1 ?_
   refine xu (gm:=gx) (gn:=gx+1) (by decide) (by decide) rfl (n₀:=w4.heap.size) (S:=λb=>b=g4) (u0:= .slice A0 old.length c0) (u1:= .int .i64 nw) (u3:= .slice A3 js.length c3) (A2:=A2) (c2:=c2) (ss:=ss) (old:=(d:Int)) hb2 (Nat.le_refl _) ?reads
    (λt x=>(t.setIfInBounds 16 (.int .i64 (x.1:Int))).setIfInBounds 17 (encS x.2)) (λt x g=>((t.setIfInBounds 16 (.int .i64 (x.1:Int))).setIfInBounds 17 (encS x.2)).setIfInBounds 6 (.pointer (some ⟨g,0,none⟩))) (λt x=>NH t 16 17 _ _)
    (λpre W=>aa (aR W g4 [.int .i64 (uZ pre)] 3)/\aa (Below w.heap.size w W)/\aa (aR W w.heap.size [.slice A0 old.length c0,.int .i64 nw,.slice A2 ss.length c2,.slice A3 js.length c3] 43)/\aa (gN w4 W)/\aa (w4.heap.size<=W.heap.size)/\aa (Wt pre)) ?own (λxs W hi=>hi.2.2.2.2.1.out) ⟨zJ,HB2,EB,⟨gN.refl _⟩,⟨Nat.le_refl _⟩,⟨λx hx=>by cases hx⟩⟩ ?assign ?body ?done
   case reads=>exact⟨zS.out,by simpa using zI.out.cell 0,HC.out.PV,⟨by omega,by omega⟩,⟨by omega,by omega⟩,λh0 ad e=>⟨by have:=hlo h0 ad e;omega,by have:=hlo h0 ad e;omega⟩⟩
   case own=>
    rintro xs W W' row ⟨i1,i2,i3,i4,i5,i6⟩ hg hr
    have hr':=λr e=>(hr r e).1
    have h5:=i5.out
    have hw2:=HB2.out.size
    exact⟨⟨i1.out.kept (B:=w4.heap.size) (by omega) hg hr'⟩,⟨i2.out.grown hg i2.out.size (λk e=>by have:=hr' k e;omega)⟩,⟨i3.out.kept (B:=w4.heap.size) (by omega) hg hr'⟩,⟨i4.out.kept (Nat.le_refl _) hg hr'⟩,⟨Nat.le_trans h5 hg.size⟩,i6⟩
   case assign=>
    intro l x W K hx hK
    simp only[sb0,sb1,dD,cellsS,encS] at hK ⊢
    gi_wp2_with fail
    exact hK
   case body=>
    rintro l pre x g W hx hlen ⟨i1,i2,i3,i4,i5,i6⟩ hg hBg
    simp only[sb0,sb1,dD,encS]
    have hc4:=i1.out.cell 0
    have ahW:=i1.out.frozen 0
    have hgc:=hBg.cell 2
    simp only[eP,eO,cellsS] at hc4 hgc
    have Q6:0<=x.2.f2/\x.2.f2<=1000:=HWT.out _ (by rw[hx.2.1];exact oO ss x.1 hx.1)
    have hws:=Jc i6.out
    have hpl:(pre.length:Int)<1000:=by omega
    have hsum:wrap64 (uZ pre+x.2.f2)=uZ pre+x.2.f2:=IntWalk.wrap64_in _ (by omega)
    have hsn:=NI pre x
    obtain⟨sm,hsm⟩:∃s,uZ pre=s:=⟨_,rfl⟩
    rw[hsm] at hsum hc4 hsn
    have Xf:=aa.mk hsn
    have ZK:=aa.mk Q6
    have h5:=i5.out
    have hgw:=hBg.lt
    clear hsn hsm hws hpl Q6
    gi_wp2_with fail
    refine⟨⟨by simp[World.setCell],λk o hk ho hc=>(Below.heap_setCell _ _ _ _ (by simp only;omega)).trans ho⟩,(bq.refl w4.heap.size (λb=>b=g4) W).setCell (p:=⟨g4,0,none⟩) (.inl rfl) _,⟨by rw[Xf.out];exact df i1.out 0 _⟩,⟨i2.out.setCell (p:=⟨g4,0,none⟩) (by simp only;omega) _⟩,⟨i3.out.move (Below.heap_setCell _ _ _ _ (by simp only;omega))⟩,⟨i4.out.setCell _ _⟩,⟨by rw[size_set];exact h5⟩,⟨λy hy=>?_⟩⟩
    rcases List.mem_append.1 hy with hy|hy
    .exact i6.out y hy
    .obtain rfl:=List.mem_singleton.1 hy
     exact ZK.out
   case done=>
    rintro D W hD ⟨i1,i2,i3,i4,i5,i6⟩ CX
    have TE:=aa.mk (Marks.cons SF.out i4.out hD (by omega) CX)
    have hc4:=i1.out.cell 0
    simp only[List.getElem?_cons_zero] at hc4
    obtain⟨sm,hsm⟩:∃s,uZ (iR ss (d:Int) ss.length)=s:=⟨_,rfl⟩
    rw[hsm] at hc4
    dsimp only
    by_cases h0:sm=0
    .have h0b:(sm==0)=true:=by simp[h0]
     have HF:=aa.mk (Dh d hlt (hsm.trans h0))
     clear h0 hsm
     go_wp2_with fail
     refine Marks.leaves (lo:=w.heap.size) (Inv:=λW=>Below w.heap.size w W) (λW D hlo hD hi=>hi.grown (grownBy_putObj' W D _) hi.size (λk e=>by cases e;exact hlo)) (λW hi=>?_) _ W TE.out i2.out
     refine⟨_,results_tmp rfl _ _ _,?_,hi⟩
     show Ending.returned (.bool false)=_
     rw[HF.out]
    .have h0b:(sm==0)=false:=by simp[h0]
     have HJ2:=aa.mk (λ(j:Nat) (hj:j<d+1)=>if h:j=d then(show uZ (iR ss (j:Int) ss.length)≠0 by rw[h,hsm];exact h0) else HJ.out j (by omega))
     clear h0 hsm
     go_wp2_with fail
     refine⟨⟨_,d+1,by omega,HJ2,i2,i3,TE,rfl⟩,?_⟩
     show old.length-(intOf (.int .i64 ((d:Int)+1))).toNat<old.length-(intOf (.int .i64 (d:Int))).toNat
     simp[intOf]
     omega
  .obtain rfl:d=old.length:=by omega
   go_wp2_with (with_reducible refine wpIn_wide.2 ?_)
   refine Marks.leaves (lo:=w.heap.size) (Inv:=λW=>Below w.heap.size w W) (λW D hlo hD hi=>hi.grown (grownBy_putObj' W D _) hi.size (λk e=>by cases e;exact hlo)) (λW hi=>?_) ds wr HM.out HB.out
   refine⟨_,results_tmp rfl _ _ _,?_,hi⟩
   show Ending.returned (.bool true)=_
   rw[EE HJ.out]
end Go.Proofs.YtkjoilgpmngndaaGreat
namespace Go.Proofs.YtkjoilgpmngndaaGreat
open Go.RowKit Go.Shelf au YtkjoilgpmngndaaGreatW.aj YtkjoilgpmngndaaGreatW.aJ
def lY(old:List Int)(nw:Int)(ss:List dQ)(js:List jO):Int:=
 if old.length<=4/\ss.length<=8/\js.length<=20 then
  (if old.length=0\/ss.length=0 then 1 else if(old.all (λn=>aK n 0 10000)&&(aK nw 1 4&&(ss.all (ma old.length nw)&&(kX old.length ss&&js.all (zA ss.length)))))=true then 0 else 1) else 3
theorem NR{no:Nat}{nw:Int}{ss:List dQ}(h:ss.all (ma no nw)=true):∀s ∈ ss,0<=s.f2/\s.f2<=1000:=by
 intro s hs
 have:=List.all_eq_true.1 h s hs
 unfold ma aK at this
 simp only[Bool.and_eq_true,decide_eq_true_eq] at this
 omega
theorem dM{A0:Option Addr}{c0:Nat}{old:List Int}{nw:Int}{A2:Option Addr}{c2:Nat}{ss:List dQ}{A3:Option Addr}{c3:Nat}{js:List jO}{w:World}(h:Nr w A0 c0 old A2 c2 ss A3 c3 js):
  Calls Tryz.prog 45 #[.agg #[.slice A0 old.length c0,.int .i64 nw,.slice A2 ss.length c2,.slice A3 js.length c3]] w λe w'=>e= .returned (.int .i64 (lY old nw ss js))/\Below w.heap.size w w':=by
 have H:=aa.mk h
 have hb0:=h.b0
 have hb2:=h.b2
 have hb3:=h.b3
 clear h
 go_enter Tryz.func45,Tryz.ntmps45
 go_wp2_with fail
 have HB0:=aa.mk (ae (Below.refl w.heap.size w) (.cells #[.slice A0 old.length c0,.int .i64 nw,.slice A2 ss.length c2,.slice A3 js.length c3] 43))
 have B10:=aa.mk (aR.new w [.slice A0 old.length c0,.int .i64 nw,.slice A2 ss.length c2,.slice A3 js.length c3] 43)
 generalize w.alloc (.cells #[.slice A0 old.length c0,.int .i64 nw,.slice A2 ss.length c2,.slice A3 js.length c3] 43)=w0 at HB0 B10 ⊢
 have h10:=B10.out.cell 0
 have h11:=B10.out.cell 1
 have h12:=B10.out.cell 2
 have sI:=B10.out.cell 3
 simp only[eP,eO] at h10 h11 h12 sI
 go_region
 have HB1:=aa.mk (aM HB0.out)
 have B11:=aa.mk (B10.out.move rfl:aR w0.drew _ _ _)
 clear HB0 B10 h10 h11 h12 sI
 generalize w0.drew=w1 at HB1 B11 ⊢
 have h10:=B11.out.cell 0
 have h11:=B11.out.cell 1
 have h12:=B11.out.cell 2
 have sI:=B11.out.cell 3
 simp only[eP,eO] at h10 h11 h12 sI
 by_cases c1:old.length<=4
 rotate_left
 .have c1b:decide (4<(old.length:Int))=true:=by simp;omega
  have HF:=aa.mk (show lY old nw ss js=3 by unfold lY;rw[if_neg (λx=>c1 x.1)])
  clear c1
  go_wp2_with fail
  go_ret
  rw[HF.out]
  exact⟨rfl,HB1.out⟩
 have c1b:decide (4<(old.length:Int))=false:=by simp;omega
 by_cases c2':ss.length<=8
 rotate_left
 .have c2b:decide (8<(ss.length:Int))=true:=by simp;omega
  have HF:=aa.mk (show lY old nw ss js=3 by unfold lY;rw[if_neg (λx=>c2' x.2.1)])
  clear c1 c2'
  go_wp2_with fail
  go_ret
  rw[HF.out]
  exact⟨rfl,HB1.out⟩
 have c2b:decide (8<(ss.length:Int))=false:=by simp;omega
 by_cases c3':js.length<=20
 rotate_left
 .have c3b:decide (20<(js.length:Int))=true:=by simp;omega
  have HF:=aa.mk (show lY old nw ss js=3 by unfold lY;rw[if_neg (λx=>c3' x.2.2)])
  clear c1 c2' c3'
  go_wp2_with fail
  go_ret
  rw[HF.out]
  exact⟨rfl,HB1.out⟩
 have c3b:decide (20<(js.length:Int))=false:=by simp;omega
 have HL:=aa.mk (show lY old nw ss js=if old.length=0\/ss.length=0 then 1 else if(old.all (λn=>aK n 0 10000)&&(aK nw 1 4&&(ss.all (ma old.length nw)&&(kX old.length ss&&js.all (zA ss.length)))))=true then 0 else 1 by unfold lY;rw[if_pos ⟨c1,c2',c3'⟩])
 by_cases z1:old.length=0
 .have z1b:((old.length:Int)==0)=true:=by simp[z1]
  have HF:=aa.mk (show lY old nw ss js=1 by rw[HL.out,if_pos (.inl z1)])
  clear z1
  go_wp2_with fail
  go_ret
  rw[HF.out]
  exact⟨rfl,HB1.out⟩
 have z1b:((old.length:Int)==0)=false:=by rw[beq_eq_false_iff_ne];omega
 by_cases z2:ss.length=0
 .have z2b:((ss.length:Int)==0)=true:=by simp[z2]
  have HF:=aa.mk (show lY old nw ss js=1 by rw[HL.out,if_pos (.inr z2)])
  clear z1 z2
  go_wp2_with fail
  go_ret
  rw[HF.out]
  exact⟨rfl,HB1.out⟩
 have z2b:((ss.length:Int)==0)=false:=by rw[beq_eq_false_iff_ne];omega
 have HL:=aa.mk (show lY old nw ss js=if(old.all (λn=>aK n 0 10000)&&(aK nw 1 4&&(ss.all (ma old.length nw)&&(kX old.length ss&&js.all (zA ss.length)))))=true then 0 else 1 by rw[HL.out,if_neg (by omega)])
 clear z1 z2 c1 c2'
 go_wp2_with fail
 refine(Ah 90 #[] #[] (enters Tryz.func90 (by kernel_rfl) rfl) (λn=>aK n 0 10000) A0 c0 old w1 (H.out.below HB1.out).QR (by omega) (λW x hW=>Dx x W)).mono ?_
 rintro e w2 ⟨rfl,Ku⟩
 have HB2:=aa.mk (HB1.out.trans (Ku.mono HB1.out.size))
 have EB:=aa.mk (B11.out.below Ku)
 clear Ku HB1 B11 h10 h11 h12 sI
 cases a2:(old.all (λn=>aK n 0 10000))
 .have HF:=aa.mk (show lY old nw ss js=1 by rw[HL.out,a2];simp)
  go_wp2_with fail
  go_ret
  rw[HF.out]
  exact⟨rfl,HB2.out⟩
 have h10:=EB.out.cell 0
 have h11:=EB.out.cell 1
 have h12:=EB.out.cell 2
 have sI:=EB.out.cell 3
 simp only[eP,eO] at h10 h11 h12 sI
 go_wp2_with fail
 refine(iM nw 1 4 w2).mono ?_
 rintro e w3 ⟨rfl,mK⟩
 have HB3:=aa.mk (HB2.out.trans (mK.mono HB2.out.size))
 have TI:=aa.mk (EB.out.below mK)
 clear mK HB2 EB h10 h11 h12 sI
 cases a3:(aK nw 1 4)
 .have HF:=aa.mk (show lY old nw ss js=1 by rw[HL.out,a2,a3];simp)
  go_wp2_with fail
  go_ret
  rw[HF.out]
  exact⟨rfl,HB3.out⟩
 have h10:=TI.out.cell 0
 have h11:=TI.out.cell 1
 have h12:=TI.out.cell 2
 have sI:=TI.out.cell 3
 simp only[eP,eO] at h10 h11 h12 sI
 have hnw:0<=nw/\nw<=1000:=by
  unfold aK at a3
  simp only[Bool.and_eq_true,decide_eq_true_eq] at a3
  omega
 go_wp2_with fail
 refine(KY 87 #[.agg #[.slice A0 old.length c0,.int .i64 nw,.slice A2 ss.length c2,.slice A3 js.length c3]] #[] (enters Tryz.func87 (by kernel_rfl) rfl) (ma old.length nw) A2 c2 ss w3 (H.out.below HB3.out).PV (by omega) (λW x hW=>EJ x W hb0 hnw)).mono ?_
 rintro e w4 ⟨rfl,mK⟩
 have jd:=aa.mk (HB3.out.trans (mK.mono HB3.out.size))
 have LW:=aa.mk (TI.out.below mK)
 clear mK HB3 TI h10 h11 h12 sI
 cases a4:(ss.all (ma old.length nw))
 .have HF:=aa.mk (show lY old nw ss js=1 by rw[HL.out,a2,a3,a4];simp)
  go_wp2_with fail
  go_ret
  rw[HF.out]
  exact⟨rfl,jd.out⟩
 have h10:=LW.out.cell 0
 have h11:=LW.out.cell 1
 have h12:=LW.out.cell 2
 have sI:=LW.out.cell 3
 simp only[eP,eO] at h10 h11 h12 sI
 have HWT:=aa.mk (NR a4)
 go_wp2_with fail
 refine(Di (H.out.below jd.out) (by have:=of_decide_eq_false c2b;omega) (by have:=of_decide_eq_false c1b;omega) HWT.out).mono ?_
 rintro e w5 ⟨rfl,mK⟩
 have kv:=aa.mk (jd.out.trans (mK.mono jd.out.size))
 have Tn:=aa.mk (LW.out.below mK)
 clear mK jd LW h10 h11 h12 sI
 cases a5:(kX old.length ss)
 .have HF:=aa.mk (show lY old nw ss js=1 by rw[HL.out,a2,a3,a4,a5];simp)
  go_wp2_with fail
  go_ret
  rw[HF.out]
  exact⟨rfl,kv.out⟩
 have h10:=Tn.out.cell 0
 have h11:=Tn.out.cell 1
 have h12:=Tn.out.cell 2
 have sI:=Tn.out.cell 3
 simp only[eP,eO] at h10 h11 h12 sI
 go_wp2_with fail
 refine(R3 88 #[.agg #[.slice A0 old.length c0,.int .i64 nw,.slice A2 ss.length c2,.slice A3 js.length c3]] #[] (enters Tryz.func88 (by kernel_rfl) rfl) (zA ss.length) A3 c3 js w5 (H.out.below kv.out).kjo (by omega) (λW x hW=>Ka x W hb2)).mono ?_
 rintro e w6 ⟨rfl,mK⟩
 have uz:=aa.mk (kv.out.trans (mK.mono kv.out.size))
 clear mK kv Tn h10 h11 h12 sI
 cases a6:(js.all (zA ss.length))
 .have HF:=aa.mk (show lY old nw ss js=1 by rw[HL.out,a2,a3,a4,a5,a6];simp)
  go_wp2_with fail
  go_ret
  rw[HF.out]
  exact⟨rfl,uz.out⟩
 have HF:=aa.mk (show lY old nw ss js=0 by rw[HL.out,a2,a3,a4,a5,a6];simp)
 go_wp2_with fail
 go_ret
 rw[HF.out]
 exact⟨rfl,uz.out⟩
end Go.Proofs.YtkjoilgpmngndaaGreat
