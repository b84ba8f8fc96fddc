import Derived.Test.YtdekaocdmjndaaaGreatQ10
set_option maxHeartbeats 40000000
set_option maxRecDepth 100000
set_option linter.all false
namespace Go.Proofs.YtdekaocdmjndaaaGreat
open Go.RowKit Go.Shelf ah YtdekaocdmjndaaaGreatW.aj YtdekaocdmjndaaaGreatW.aH
def lu{β:Type}(lo hi:Nat)(I:β->World->Prop):Prop:=∀s W W' row,I s W->W.grownBy W' row->(∀r,row=some r->lo<=r/\r<hi)->I s W'
theorem lu.alloc{β:Type}{lo hi:Nat}{I:β->World->Prop}(h:lu lo hi I){s:β}{W:World}(o:Obj)(hs:I s W):I s (W.alloc o):=h s W _ none hs (World.grownBy_alloc W o none) (λr e=>by cases e)
theorem lu.putObj{β:Type}{lo hi:Nat}{I:β->World->Prop}(h:lu lo hi I){s:β}{W:World}{l:Nat}(o:Obj)(hs:I s W)(h1:lo<=l)(h2:l<hi):I s (W.putObj l o):=h s W _ (some l) hs (grownBy_putObj' W l o) (λr e=>by cases e;exact⟨h1,h2⟩)
theorem lu.setCell{β:Type}{lo hi:Nat}{I:β->World->Prop}(h:lu lo hi I){s:β}{W:World}{p:Addr}(u:Value)(hs:I s W)(h1:lo<=p.block)(h2:p.block<hi):I s (W.setCell p u):=
 h s W _ (some p.block) hs ⟨rfl,rfl,rfl,(KeepsWalks.setCell W p u).size,λk _ hk=>Below.heap_setCell W p u k (λe=>hk (by rw[e]))⟩ (λr e=>by cases e;exact⟨h1,h2⟩)
theorem lu.mono{β:Type}{lo hi lo' hi':Nat}{I:β->World->Prop}(h:lu lo hi I)(h1:lo<=lo')(h2:hi'<=hi):lu lo' hi' I:=λs W W' row hs hg hr=>h s W W' row hs hg (λr e=>by have:=hr r e;omega)
def O8{α:Type}(P:Program)(g:Nat)(lb:Array Value)(k:Nat)(X:α->World->Prop)(encs:α->Array Value)(Kp:World->World->Prop)(S:List α->Prop)(N:Nat)(w:World):Prop:=
 ∀(l:Nat) (J:List α->World->Prop) (W:World),Below w.heap.size w W->W.heap.size=w.heap.size+2->lu W.heap.size (W.heap.size+k) J ->
  (∀pre x W1,J pre W1->X x W1->pre.length<N->YieldAt Fence.wide 0 P l (encs x) W1 λe W'=>e= .returned (.bool true)/\J (pre++[x]) W'/\Kp W1 W') ->
  J [] W ->
  Calls P g (#[.func (.yield l) #[] #[]]++lb) W λe W'=>(∃v,e= .returned v)/\∃xs,S xs/\J xs W'
def Nc{α:Type}(Kp:World->World->Prop)(I:List α->World->Prop)(B:Nat)(xs:List α)(W:World):Exit->Act->World->Prop
 | .normal,_,W'=>KeepsFrom B W W'/\Kp W W'/\I xs W'
 |_,_,_=>False
theorem Ke{n k:Nat}{P:Program}{α:Type}{g:Operand}{ps:Array Tmp}{assign body:Code}{Q:Exit->Act->World->Prop}{a:Act}{w:World}
  (h1:1<=n) {gf:Nat} {lb:Array Value} (hg:a.eval g= .func (.func gf) #[] lb) (eg:∀args w,(callFunc gf args).run P w= .ok (.enter gf args) w)
  {X:α->World->Prop} {encs:α->Array Value} {Kp:World->World->Prop} {S:List α->Prop} {N:Nat} (hseq:O8 P gf lb k X encs Kp S N w)
  (hKt:∀{A B C:World},Kp A B->Kp B C->Kp A C) (hKb:∀(W:World) (l:Nat) (o':Obj),w.heap.size<=l->l<w.heap.size+2->l<W.heap.size->Kp W (W.putObj l o')) (hps:∀x,(encs x).size=ps.size)
  (hX:∀x,lu w.heap.size (w.heap.size+2) (λ(_:Unit) W=>X x W))
  (fz f:Array Value->α->Array Value) (hz:∀t x,(ps.zip (encs x)).foldl (λt (p,v)=>t.setIfInBounds p v) t=fz t x)
  (I:List α->World->Prop) (hI:lu w.heap.size (w.heap.size+2+k) I) (h0:I [] w)
  (hassign:∀(l:Nat) (x:α) (W:World) (K:Act->World->Prop),K {tmps:=f a.tmps x,defers:=[]} W ->
   assign.wpIn (Fence.wide.inRound l) (n-1-1) P (Exit.then K (λ_ _ _=>False)) {tmps:=fz a.tmps x,defers:=[]} W)
  (hbody:∀(l:Nat) (pre:List α) (x:α) (W:World),I pre W->X x W->pre.length<N->body.wpIn (Fence.wide.inRound l) (n-1-1) P (Nc Kp I w.heap.size (pre++[x]) W) {tmps:=f a.tmps x,defers:=[]} W)
  (hdone:∀(D:Nat) (xs:List α) (W:World),D=w.heap.size->S xs->I xs W->W.heap[D]?=some (.deferred (some []))->Q .normal {a with defers:={target:= .collected D,args:=#[]}::a.defers} W):
  (Code.rangeFunc g ps assign body).wpIn Fence.wide n P Q a w:=by
 refine wpIn_rangeFunc ?_
 intro fn hfn
 rw[show Fence.wide.round=none from rfl]
 obtain⟨rec,hrec⟩:∃rec:LoopState->Option Code->Loop,rec=λst pe=>{state:=st,pending:=pe,fn,tmps:=a.tmps,params:=ps,assign,body,defers:=w.heap.size}:=⟨_,rfl⟩
 obtain⟨W1,hW1⟩:∃W1,(w.alloc (.deferred (some []))).alloc (.loop (rec .ready none))=W1:=⟨_,rfl⟩
 have hL1:W1.heap[w.heap.size+1]?=some (.loop (rec .ready none)):=by
  rw[<- hW1];have:=World.alloc_heap_new (w.alloc (.deferred (some []))) (.loop (rec .ready none));rwa [World.size_alloc] at this
 have hK1:W1.heap[w.heap.size]?=some (.deferred (some [])):=by
  rw[<- hW1];exact(Below.heap_alloc _ _ _ (by simp)).trans (World.alloc_heap_new w _)
 have hI1:I [] W1:=by rw[<- hW1];exact hI.alloc _ (hI.alloc _ h0)
 have hb1:Below w.heap.size w W1:=by
  rw[<- hW1];exact(((Below.refl _ w).alloc (Nat.le_refl _) _).alloc (by simp) _)
 have hs1:W1.heap.size=w.heap.size+2:=by rw[<- hW1];simp
 refine⟨w.heap.size+1,[{target:= .collected w.heap.size,args:=#[]}],W1,{target:= .fn (.func gf) lb,args:=#[.func (.yield (w.heap.size+1)) #[] #[]]},W1,gf,
  #[.func (.yield (w.heap.size+1)) #[] #[]]++lb,W1,?_,?_,?_,?_,λ_=>h1,?_⟩
 .rw[<- hW1,hrec];exact run_enterLoop_outer _ _ _ _ _
 .simp only[resolve,hg]
  simp[go_sem]
 .intro f' hf';trivial
 .simp[invoke,go_sem,eg]
 .refine callsIn_wide.2 ((hseq (w.heap.size+1)
   (λpre W=>I pre W/\W.heap[w.heap.size+1]?=some (.loop (rec .ready none))/\W.heap[w.heap.size]?=some (.deferred (some [])))
   W1 hb1 hs1
   (λs A B row hs hg' hr=>⟨hI s A B row hs.1 hg' (λr e=>by have:=hr r e;omega),?_,?_⟩)
   ?_ ⟨hI1,hL1,hK1⟩).mono ?_)
  .exact(hg'.block _ (Array.getElem?_eq_some_iff.1 hs.2.1).1 (λe=>by have:=hr _ e.symm;omega)).trans hs.2.1
  .exact(hg'.block _ (Array.getElem?_eq_some_iff.1 hs.2.2).1 (λe=>by have:=hr _ e.symm;omega)).trans hs.2.2
  .
   rintro pre x W ⟨hi,hl,hk⟩ hx hlen
   have hlt:w.heap.size+1<W.heap.size:=(Array.getElem?_eq_some_iff.1 hl).1
   have hy:=run_yield (P:=P) (args:=encs x) hl (by rw[hrec];exact hps x)
   rw[hrec] at hy
   refine YieldAt.any (m:=n-1-1) ⟨fn,_,assign,body,hy,roundIn_of_wpIn hfn ?_⟩
   rw[hz]
   refine hassign _ x W _ ?_
   clear hy
   refine⟨_,run_beginRound hl (by rw[hrec]),?_⟩
   have hl2:(W.putObj (w.heap.size+1) (.loop {rec .ready none with state:= .busy})).heap[w.heap.size+1]?=some (.loop {rec .ready none with state:= .busy}):=World.putObj_heap_same hlt
   have hk2:(W.putObj (w.heap.size+1) (.loop {rec .ready none with state:= .busy})).heap[w.heap.size]?=some (.deferred (some [])):=(World.putObj_heap_other (by omega)).trans hk
   have hw2:Kp W (W.putObj (w.heap.size+1) (.loop {rec .ready none with state:= .busy})):=hKb _ _ _ (by omega) (by omega) hlt
   refine wpIn_mono (hbody _ pre x _ (hI.putObj _ hi (by omega) (by omega)) ((hX x).putObj (s:=()) _ hx (by omega) (by omega)) hlen) ?_
   have fin:∀(jump:Option Code) (W3:World),KeepsFrom w.heap.size (W.putObj (w.heap.size+1) (.loop {rec .ready none with state:= .busy})) W3 ->
     (Instr.endRound (w.heap.size+1) jump).run P W3= .ok (.bool jump.isNone) (W3.putObj (w.heap.size+1) (.loop (rec (if jump.isNone then .ready else .done) jump))) /\
     W3.heap[w.heap.size+1]?=some (.loop {rec .ready none with state:= .busy}) /\
     (W3.putObj (w.heap.size+1) (.loop (rec (if jump.isNone then .ready else .done) jump))).heap[w.heap.size+1]?=some (.loop (rec (if jump.isNone then .ready else .done) jump)) /\
     (W3.putObj (w.heap.size+1) (.loop (rec (if jump.isNone then .ready else .done) jump))).heap[w.heap.size]?=some (.deferred (some [])):=λjump W3 hk3=>by
    have hl3:=hk3.same _ _ (by omega) hl2 rfl
    have:=run_endRound (P:=P) jump hl3
    rw[hrec] at this ⊢
    exact⟨this,by rw[hrec] at hl3;exact hl3,World.putObj_heap_same (Array.getElem?_eq_some_iff.1 hl3).1,(World.putObj_heap_other (by omega)).trans (hk3.same _ _ (Nat.le_refl _) hk2 rfl)⟩
   rintro e a3 W3 hp
   cases e with
   |normal=>
    obtain⟨hk3,hkp3,hi3⟩:=hp
    obtain⟨hr,hl3,hl4,hk4⟩:=fin none W3 hk3
    exact⟨_,_,hr,rfl,⟨hI.putObj _ hi3 (by omega) (by omega),hl4,hk4⟩,hKt (hKt hw2 hkp3) (hKb _ _ _ (by omega) (by omega) (Array.getElem?_eq_some_iff.1 hl3).1)⟩
   |_=>exact hp.elim
  .
   rintro e W2 ⟨⟨v,rfl⟩,xs,hS,hi,hl,hk⟩
   exact⟨none,_,by have:=run_endLoop (P:=P) hl (by rw[hrec];simp);rw[hrec] at this;exact this,hdone _ xs _ rfl hS (hI.putObj _ hi (by omega) (by omega)) ((World.putObj_heap_other (by omega)).trans hk)⟩
end Go.Proofs.YtdekaocdmjndaaaGreat
namespace Go.Proofs.YtdekaocdmjndaaaGreat
open Go.RowKit Go.Shelf ah YtdekaocdmjndaaaGreatW.aj YtdekaocdmjndaaaGreatW.aH
attribute [local go_sem] Oper.semAt_some
def tC(xs:List IS):Int:=(xs.map (λx=>x.2.f2)).sum
theorem JQ(xs:List IS)(x:IS):tC (xs++[x])=tC xs+x.2.f2:=by
 unfold tC
 rw[List.map_append,List.sum_append]
 simp
def jP(no:Nat)(ss:List eY):Bool:=(List.range no).all (λd=>!(tC (nV ss (d:Int) ss.length)==0))
theorem AB{no:Nat}{ss:List eY}(d:Nat)(hd:d<no)(h:tC (nV ss (d:Int) ss.length)=0):jP no ss=false:=by
 unfold jP
 rw[List.all_eq_false]
 exact⟨d,by simpa using hd,by simp[h]⟩
theorem Cq{no:Nat}{ss:List eY}(h:∀d:Nat,d<no->tC (nV ss (d:Int) ss.length)≠0):jP no ss=true:=by
 unfold jP
 rw[List.all_eq_true]
 intro d hd
 have:=h d (by simpa using hd)
 simpa using this
def Wt(xs:List IS):Prop:=∀x ∈ xs,0<=x.2.f2/\x.2.f2<=1000
theorem F3{xs:List IS}(h:Wt xs):0<=tC xs/\tC xs<=1000*xs.length:=by
 unfold tC
 induction xs with
 |nil=>simp
 |cons x xs ih=>
  have h1:=h x List.mem_cons_self
  have h2:=ih (λy hy=>h y (List.mem_cons_of_mem _ hy))
  simp only[List.map_cons,List.sum_cons,List.length_cons]
  omega
theorem yY(ss:List eY)(k:Nat)(h:k<ss.length):aR ss k ∈ ss:=by
 have:aR ss k=ss[k]:=by simp[aR,iL,List.getD,h]
 rw[this]
 exact List.getElem_mem h
theorem AJ{A0:Option Addr}{c0:Nat}{old:List Int}{nw:Int}{A2:Option Addr}{c2:Nat}{ss:List eY}{A3:Option Addr}{c3:Nat}{js:List jU}{w:World}(h:RS w A0 c0 old A2 c2 ss A3 c3 js)(hss:ss.length<=1000)(hold:old.length<=1000)(hwt:∀s ∈ ss,0<=s.f2/\s.f2<=1000):
  Calls Tryz.prog 203 #[.agg #[.slice A0 old.length c0,.int .i64 nw,.slice A2 ss.length c2,.slice A3 js.length c3]] w λe w'=>e= .returned (.bool (jP old.length ss))/\Below w.heap.size w w':=by
 have H:=aa.mk h
 have HWT:=aa.mk hwt
 have hb2:=h.b2
 clear h hwt
 refine(callsIn_wide (n:=9)).1 (bV Tryz.func203 rfl trivial ?_ rfl)
 simp only[Tryz.ntmps203,List.size_toArray,List.length_cons,List.length_nil,Nat.reduceAdd,Nat.reduceSub,Array.replicate_succ,Array.replicate_zero,List.push_toArray,List.append_toArray,List.nil_append,List.cons_append]
 refine wpIn_wide.2 ?_
 go_wp2_with (with_reducible refine wpIn_wide.2 ?_)
 have HB:=aa.mk (ae (Below.refl w.heap.size w) (.cells #[.slice A0 old.length c0,.int .i64 nw,.slice A2 ss.length c2,.slice A3 js.length c3] 146))
 have B1:=aa.mk (aV.new w [.slice A0 old.length c0,.int .i64 nw,.slice A2 ss.length c2,.slice A3 js.length c3] 146)
 have hs0:w.heap.size<(w.alloc (.cells #[.slice A0 old.length c0,.int .i64 nw,.slice A2 ss.length c2,.slice A3 js.length c3] 146)).heap.size:=size_alloc _ _
 generalize w.alloc (.cells #[.slice A0 old.length c0,.int .i64 nw,.slice A2 ss.length c2,.slice A3 js.length c3] 146)=w0 at HB B1 hs0 ⊢
 refine wp_loop (λa' wr=>∃(ds:List Deferred) (d:Nat),d<=old.length/\aa (∀j:Nat,j<d->tC (nV ss (j:Int) ss.length)≠0)/\aa (Below w.heap.size w wr)/\aa (aV wr w.heap.size [.slice A0 old.length c0,.int .i64 nw,.slice A2 ss.length c2,.slice A3 js.length c3] 146)/\aa (Marks w.heap.size wr ds)/\a'={tmps:=#[.agg #[.slice A0 old.length c0,.int .i64 nw,.slice A2 ss.length c2,.slice A3 js.length c3],.pointer (some ⟨w.heap.size,0,none⟩),.bool false,a'.tmps.getD 3 undef,a'.tmps.getD 4 undef,a'.tmps.getD 5 undef,a'.tmps.getD 6 undef,.pointer (some ⟨w.heap.size,0,none⟩),.slice A0 old.length c0,.int .i64 (old.length:Int),.int .i64 (d:Int),a'.tmps.getD 11 undef,a'.tmps.getD 12 undef,a'.tmps.getD 13 undef,a'.tmps.getD 14 undef,a'.tmps.getD 15 undef,a'.tmps.getD 16 undef,a'.tmps.getD 17 undef,a'.tmps.getD 18 undef,a'.tmps.getD 19 undef,a'.tmps.getD 20 undef,a'.tmps.getD 21 undef,a'.tmps.getD 22 undef,a'.tmps.getD 23 undef,a'.tmps.getD 24 undef],defers:=ds}) (λa' _=>old.length-(intOf (a'.tmps.getD 10 undef)).toNat) ?start ?round
 case start=>exact⟨[],0,Nat.zero_le _,⟨λj hj=>absurd hj (Nat.not_lt_zero _)⟩,HB,B1,⟨trivial⟩,rfl⟩
 case round=>
  clear HB B1 hs0
  rintro a' wr ⟨ds,d,hd,HJ,HB,B1,HM,hfr⟩
  obtain⟨u,hu⟩:∃u:Nat->Value,a'={tmps:=#[.agg #[.slice A0 old.length c0,.int .i64 nw,.slice A2 ss.length c2,.slice A3 js.length c3],.pointer (some ⟨w.heap.size,0,none⟩),.bool false,(u 3),(u 4),(u 5),(u 6),.pointer (some ⟨w.heap.size,0,none⟩),.slice A0 old.length c0,.int .i64 (old.length:Int),.int .i64 (d:Int),(u 11),(u 12),(u 13),(u 14),(u 15),(u 16),(u 17),(u 18),(u 19),(u 20),(u 21),(u 22),(u 23),(u 24)],defers:=ds}:=⟨λi=>a'.tmps.getD i undef,hfr⟩
  clear hfr
  subst hu
  dsimp only
  by_cases hlt:d<old.length
  .have hg1:=B1.out.lt
   have h10:=B1.out.cell 0
   have h11:=B1.out.cell 1
   have h12:=B1.out.cell 2
   have uS:=B1.out.cell 3
   simp only[dZ,dY] at h10 h11 h12 uS
   go_wp2_with (with_reducible refine wpIn_wide.2 ?_)
   have HB1:=aa.mk (ae HB.out (.cells #[.int .i64 0] 3))
   have B11:=aa.mk (B1.out.alloc (.cells #[.int .i64 0] 3))
   have B4:=aa.mk (aV.new wr [.int .i64 0] 3)
   have Iz:=aa.mk (HM.out.alloc (.cells #[.int .i64 0] 3))
   have hs1:=size_alloc wr (.cells #[.int .i64 0] 3)
   clear HB B1 HM h10 h11 h12 uS
   generalize wr.alloc (.cells #[.int .i64 0] 3)=wa at HB1 B11 B4 Iz hs1 ⊢
   generalize wr.heap.size=g4 at B4 hs1 hg1 ⊢
   refine((callsIn_wide (n:=8)).1 (Sz Fence.wide 8 trivial rfl _ _ _ _ _ rfl rfl rfl rfl wa)).mono ?_
   rintro e w4 ⟨rfl,rfl⟩
   have HB2:=aa.mk (ae (ae HB1.out (.cells #[.slice A0 old.length c0,.int .i64 nw,.slice A2 ss.length c2,.slice A3 js.length c3] 146)) (.cells #[.int .i64 (d:Int)] 3))
   have FU:=aa.mk ((B11.out.alloc (.cells #[.slice A0 old.length c0,.int .i64 nw,.slice A2 ss.length c2,.slice A3 js.length c3] 146)).alloc (.cells #[.int .i64 (d:Int)] 3))
   have Me:=aa.mk ((B4.out.alloc (.cells #[.slice A0 old.length c0,.int .i64 nw,.slice A2 ss.length c2,.slice A3 js.length c3] 146)).alloc (.cells #[.int .i64 (d:Int)] 3))
   have FM:=aa.mk ((Iz.out.alloc (.cells #[.slice A0 old.length c0,.int .i64 nw,.slice A2 ss.length c2,.slice A3 js.length c3] 146)).alloc (.cells #[.int .i64 (d:Int)] 3))
   have FX:=aa.mk ((aV.new wa [.slice A0 old.length c0,.int .i64 nw,.slice A2 ss.length c2,.slice A3 js.length c3] 146).alloc (.cells #[.int .i64 (d:Int)] 3))
   have FH:=aa.mk (aV.new (wa.alloc (.cells #[.slice A0 old.length c0,.int .i64 nw,.slice A2 ss.length c2,.slice A3 js.length c3] 146)) [.int .i64 (d:Int)] 3)
   simp only[World.size_alloc] at FH
   have hsz:((wa.alloc (.cells #[.slice A0 old.length c0,.int .i64 nw,.slice A2 ss.length c2,.slice A3 js.length c3] 146)).alloc (.cells #[.int .i64 (d:Int)] 3)).heap.size=wa.heap.size+1+1:=by simp
   clear HB1 B11 B4 Iz
   generalize(wa.alloc (.cells #[.slice A0 old.length c0,.int .i64 nw,.slice A2 ss.length c2,.slice A3 js.length c3] 146)).alloc (.cells #[.int .i64 (d:Int)] 3)=w4 at HB2 FU Me FM FX FH hsz ⊢
   obtain⟨gx,hgx⟩:∃gx,wa.heap.size=gx:=⟨_,rfl⟩
   rw[hgx] at FX FH hsz hs1 ⊢
   clear hgx
   have HC:=aa.mk (H.out.below HB2.out)
   have hlo:=yX H.out.UY
   go_wp2_with (with_reducible refine wpIn_wide.2 ?_)
   refine(wpIn_wide (n:=9)).1 ?_
   refine Eh (gm:=gx) (gn:=gx+1) (by decide) (by decide) rfl (n₀:=w4.heap.size) (S:=λb=>b=g4) (u0:= .slice A0 old.length c0) (u1:= .int .i64 nw) (u3:= .slice A3 js.length c3) (A2:=A2) (c2:=c2) (ss:=ss) (old:=(d:Int)) hb2 (Nat.le_refl _) ?reads
    (λt x=>(t.setIfInBounds 16 (.int .i64 (x.1:Int))).setIfInBounds 17 (encS x.2)) (λt x g=>((t.setIfInBounds 16 (.int .i64 (x.1:Int))).setIfInBounds 17 (encS x.2)).setIfInBounds 6 (.pointer (some ⟨g,0,none⟩))) (λt x=>Qa t 16 17 _ _)
    (λpre W=>aa (aV W g4 [.int .i64 (tC pre)] 3)/\aa (Below w.heap.size w W)/\aa (aV W w.heap.size [.slice A0 old.length c0,.int .i64 nw,.slice A2 ss.length c2,.slice A3 js.length c3] 146)/\aa (gQ w4 W)/\aa (w4.heap.size<=W.heap.size)/\aa (Wt pre)) ?own (λxs W hi=>hi.2.2.2.2.1.out) ⟨Me,HB2,FU,⟨gQ.refl _⟩,⟨Nat.le_refl _⟩,⟨λx hx=>by cases hx⟩⟩ ?assign ?body ?done
   case reads=>exact⟨FX.out,by simpa using FH.out.cell 0,HC.out.UY,⟨by omega,by omega⟩,⟨by omega,by omega⟩,λh0 ad e=>⟨by have:=hlo h0 ad e;omega,by have:=hlo h0 ad e;omega⟩⟩
   case own=>
    rintro xs W W' row ⟨i1,i2,i3,i4,i5,i6⟩ hg hr
    have hr':=λr e=>(hr r e).1
    have h5:=i5.out
    have hw2:=HB2.out.size
    exact⟨⟨i1.out.kept (B:=w4.heap.size) (by omega) hg hr'⟩,⟨i2.out.grown hg i2.out.size (λk e=>by have:=hr' k e;omega)⟩,⟨i3.out.kept (B:=w4.heap.size) (by omega) hg hr'⟩,⟨i4.out.kept (Nat.le_refl _) hg hr'⟩,⟨Nat.le_trans h5 hg.size⟩,i6⟩
   case assign=>
    intro l x W K hx hK
    simp only[sb0,sb1,bR,cellsS,encS] at hK ⊢
    gi_wp2_with fail
    exact hK
   case body=>
    rintro l pre x g W hx hlen ⟨i1,i2,i3,i4,i5,i6⟩ hg hBg
    simp only[sb0,sb1,bR,encS]
    have hc4:=i1.out.cell 0
    have ak7:=i1.out.frozen 0
    have hgc:=hBg.cell 2
    simp only[dZ,dY,cellsS] at hc4 hgc
    have Yg:0<=x.2.f2/\x.2.f2<=1000:=HWT.out _ (by rw[hx.2.1];exact yY ss x.1 hx.1)
    have hws:=F3 i6.out
    have hpl:(pre.length:Int)<1000:=by omega
    have hsum:wrap64 (tC pre+x.2.f2)=tC pre+x.2.f2:=IntWalk.wrap64_in _ (by omega)
    have hsn:=JQ pre x
    obtain⟨sm,hsm⟩:∃s,tC pre=s:=⟨_,rfl⟩
    rw[hsm] at hsum hc4 hsn
    have LP:=aa.mk hsn
    have HWX:=aa.mk Yg
    have h5:=i5.out
    have hgw:=hBg.lt
    clear hsn hsm hws hpl Yg
    gi_wp2_with fail
    refine⟨⟨by simp[World.setCell],λk o hk ho hc=>(Below.heap_setCell _ _ _ _ (by simp only;omega)).trans ho⟩,(aY.refl w4.heap.size (λb=>b=g4) W).setCell (p:=⟨g4,0,none⟩) (.inl rfl) _,⟨by rw[LP.out];exact fV i1.out 0 _⟩,⟨i2.out.setCell (p:=⟨g4,0,none⟩) (by simp only;omega) _⟩,⟨i3.out.move (Below.heap_setCell _ _ _ _ (by simp only;omega))⟩,⟨i4.out.setCell _ _⟩,⟨by rw[size_set];exact h5⟩,⟨λy hy=>?_⟩⟩
    rcases List.mem_append.1 hy with hy|hy
    .exact i6.out y hy
    .obtain rfl:=List.mem_singleton.1 hy
     exact HWX.out
   case done=>
    rintro D W hD ⟨i1,i2,i3,i4,i5,i6⟩ yh
    have WH:=aa.mk (Marks.cons FM.out i4.out hD (by omega) yh)
    have hc4:=i1.out.cell 0
    simp only[List.getElem?_cons_zero] at hc4
    obtain⟨sm,hsm⟩:∃s,tC (nV ss (d:Int) ss.length)=s:=⟨_,rfl⟩
    rw[hsm] at hc4
    dsimp only
    by_cases h0:sm=0
    .have h0b:(sm==0)=true:=by simp[h0]
     have HF:=aa.mk (AB d hlt (hsm.trans h0))
     clear h0 hsm
     go_wp2_with fail
     refine Marks.leaves (lo:=w.heap.size) (Inv:=λW=>Below w.heap.size w W) (λW D hlo hD hi=>hi.grown (grownBy_putObj' W D _) hi.size (λk e=>by cases e;exact hlo)) (λW hi=>?_) _ W WH.out i2.out
     refine⟨_,results_tmp rfl _ _ _,?_,hi⟩
     show Ending.returned (.bool false)=_
     rw[HF.out]
    .have h0b:(sm==0)=false:=by simp[h0]
     have HJ2:=aa.mk (λ(j:Nat) (hj:j<d+1)=>if h:j=d then(show tC (nV ss (j:Int) ss.length)≠0 by rw[h,hsm];exact h0) else HJ.out j (by omega))
     clear h0 hsm
     go_wp2_with fail
     refine⟨⟨_,d+1,by omega,HJ2,i2,i3,WH,rfl⟩,?_⟩
     show old.length-(intOf (.int .i64 ((d:Int)+1))).toNat<old.length-(intOf (.int .i64 (d:Int))).toNat
     simp[intOf]
     omega
  .obtain rfl:d=old.length:=by omega
   go_wp2_with (with_reducible refine wpIn_wide.2 ?_)
   refine Marks.leaves (lo:=w.heap.size) (Inv:=λW=>Below w.heap.size w W) (λW D hlo hD hi=>hi.grown (grownBy_putObj' W D _) hi.size (λk e=>by cases e;exact hlo)) (λW hi=>?_) ds wr HM.out HB.out
   refine⟨_,results_tmp rfl _ _ _,?_,hi⟩
   show Ending.returned (.bool true)=_
   rw[Cq HJ.out]
end Go.Proofs.YtdekaocdmjndaaaGreat
namespace Go.Proofs.YtdekaocdmjndaaaGreat
open Go.RowKit Go.Shelf ah YtdekaocdmjndaaaGreatW.aj YtdekaocdmjndaaaGreatW.aH
def nW(old:List Int)(nw:Int)(ss:List eY)(js:List jU):Int:=
 if old.length<=4/\ss.length<=8/\js.length<=20 then
  (if old.length=0\/ss.length=0 then 1 else if(old.all (λn=>aX n 0 10000)&&(aX nw 1 4&&(ss.all (kF old.length nw)&&(jP old.length ss&&js.all (xJ ss.length)))))=true then 0 else 1) else 3
theorem JW{no:Nat}{nw:Int}{ss:List eY}(h:ss.all (kF no nw)=true):∀s ∈ ss,0<=s.f2/\s.f2<=1000:=by
 intro s hs
 have:=List.all_eq_true.1 h s hs
 unfold kF aX at this
 simp only[Bool.and_eq_true,decide_eq_true_eq] at this
 omega
theorem nP{A0:Option Addr}{c0:Nat}{old:List Int}{nw:Int}{A2:Option Addr}{c2:Nat}{ss:List eY}{A3:Option Addr}{c3:Nat}{js:List jU}{w:World}(h:RS w A0 c0 old A2 c2 ss A3 c3 js):
  Calls Tryz.prog 131 #[.agg #[.slice A0 old.length c0,.int .i64 nw,.slice A2 ss.length c2,.slice A3 js.length c3]] w λe w'=>e= .returned (.int .i64 (nW old nw ss js))/\Below w.heap.size w w':=by
 have H:=aa.mk h
 have hb0:=h.b0
 have hb2:=h.b2
 have hb3:=h.b3
 clear h
 go_enter Tryz.func131,Tryz.ntmps131
 go_wp2_with fail
 have HB0:=aa.mk (ae (Below.refl w.heap.size w) (.cells #[.slice A0 old.length c0,.int .i64 nw,.slice A2 ss.length c2,.slice A3 js.length c3] 146))
 have B10:=aa.mk (aV.new w [.slice A0 old.length c0,.int .i64 nw,.slice A2 ss.length c2,.slice A3 js.length c3] 146)
 generalize w.alloc (.cells #[.slice A0 old.length c0,.int .i64 nw,.slice A2 ss.length c2,.slice A3 js.length c3] 146)=w0 at HB0 B10 ⊢
 have h10:=B10.out.cell 0
 have h11:=B10.out.cell 1
 have h12:=B10.out.cell 2
 have uS:=B10.out.cell 3
 simp only[dZ,dY] at h10 h11 h12 uS
 go_region
 have HB1:=aa.mk (aN HB0.out)
 have B11:=aa.mk (B10.out.move rfl:aV w0.drew _ _ _)
 clear HB0 B10 h10 h11 h12 uS
 generalize w0.drew=w1 at HB1 B11 ⊢
 have h10:=B11.out.cell 0
 have h11:=B11.out.cell 1
 have h12:=B11.out.cell 2
 have uS:=B11.out.cell 3
 simp only[dZ,dY] at h10 h11 h12 uS
 by_cases c1:old.length<=4
 rotate_left
 .have c1b:decide (4<(old.length:Int))=true:=by simp;omega
  have HF:=aa.mk (show nW old nw ss js=3 by unfold nW;rw[if_neg (λx=>c1 x.1)])
  clear c1
  go_wp2_with fail
  go_ret
  rw[HF.out]
  exact⟨rfl,HB1.out⟩
 have c1b:decide (4<(old.length:Int))=false:=by simp;omega
 by_cases c2':ss.length<=8
 rotate_left
 .have c2b:decide (8<(ss.length:Int))=true:=by simp;omega
  have HF:=aa.mk (show nW old nw ss js=3 by unfold nW;rw[if_neg (λx=>c2' x.2.1)])
  clear c1 c2'
  go_wp2_with fail
  go_ret
  rw[HF.out]
  exact⟨rfl,HB1.out⟩
 have c2b:decide (8<(ss.length:Int))=false:=by simp;omega
 by_cases c3':js.length<=20
 rotate_left
 .have c3b:decide (20<(js.length:Int))=true:=by simp;omega
  have HF:=aa.mk (show nW old nw ss js=3 by unfold nW;rw[if_neg (λx=>c3' x.2.2)])
  clear c1 c2' c3'
  go_wp2_with fail
  go_ret
  rw[HF.out]
  exact⟨rfl,HB1.out⟩
 have c3b:decide (20<(js.length:Int))=false:=by simp;omega
 have HL:=aa.mk (show nW old nw ss js=if old.length=0\/ss.length=0 then 1 else if(old.all (λn=>aX n 0 10000)&&(aX nw 1 4&&(ss.all (kF old.length nw)&&(jP old.length ss&&js.all (xJ ss.length)))))=true then 0 else 1 by unfold nW;rw[if_pos ⟨c1,c2',c3'⟩])
 by_cases z1:old.length=0
 .have z1b:((old.length:Int)==0)=true:=by simp[z1]
  have HF:=aa.mk (show nW old nw ss js=1 by rw[HL.out,if_pos (.inl z1)])
  clear z1
  go_wp2_with fail
  go_ret
  rw[HF.out]
  exact⟨rfl,HB1.out⟩
 have z1b:((old.length:Int)==0)=false:=by rw[beq_eq_false_iff_ne];omega
 by_cases z2:ss.length=0
 .have z2b:((ss.length:Int)==0)=true:=by simp[z2]
  have HF:=aa.mk (show nW old nw ss js=1 by rw[HL.out,if_pos (.inr z2)])
  clear z1 z2
  go_wp2_with fail
  go_ret
  rw[HF.out]
  exact⟨rfl,HB1.out⟩
 have z2b:((ss.length:Int)==0)=false:=by rw[beq_eq_false_iff_ne];omega
 have HL:=aa.mk (show nW old nw ss js=if(old.all (λn=>aX n 0 10000)&&(aX nw 1 4&&(ss.all (kF old.length nw)&&(jP old.length ss&&js.all (xJ ss.length)))))=true then 0 else 1 by rw[HL.out,if_neg (by omega)])
 clear z1 z2 c1 c2'
 go_wp2_with fail
 refine(Dy 200 #[] #[] (enters Tryz.func200 (by kernel_rfl) rfl) (λn=>aX n 0 10000) A0 c0 old w1 (H.out.below HB1.out).UZ (by omega) (λW x hW=>A8 x W)).mono ?_
 rintro e w2 ⟨rfl,Hf⟩
 have HB2:=aa.mk (HB1.out.trans (Hf.mono HB1.out.size))
 have FU:=aa.mk (B11.out.below Hf)
 clear Hf HB1 B11 h10 h11 h12 uS
 cases a2:(old.all (λn=>aX n 0 10000))
 .have HF:=aa.mk (show nW old nw ss js=1 by rw[HL.out,a2];simp)
  go_wp2_with fail
  go_ret
  rw[HF.out]
  exact⟨rfl,HB2.out⟩
 have h10:=FU.out.cell 0
 have h11:=FU.out.cell 1
 have h12:=FU.out.cell 2
 have uS:=FU.out.cell 3
 simp only[dZ,dY] at h10 h11 h12 uS
 go_wp2_with fail
 refine(iW nw 1 4 w2).mono ?_
 rintro e w3 ⟨rfl,dK⟩
 have HB3:=aa.mk (HB2.out.trans (dK.mono HB2.out.size))
 have Uk:=aa.mk (FU.out.below dK)
 clear dK HB2 FU h10 h11 h12 uS
 cases a3:(aX nw 1 4)
 .have HF:=aa.mk (show nW old nw ss js=1 by rw[HL.out,a2,a3];simp)
  go_wp2_with fail
  go_ret
  rw[HF.out]
  exact⟨rfl,HB3.out⟩
 have h10:=Uk.out.cell 0
 have h11:=Uk.out.cell 1
 have h12:=Uk.out.cell 2
 have uS:=Uk.out.cell 3
 simp only[dZ,dY] at h10 h11 h12 uS
 have hnw:0<=nw/\nw<=1000:=by
  unfold aX at a3
  simp only[Bool.and_eq_true,decide_eq_true_eq] at a3
  omega
 go_wp2_with fail
 refine(H8 197 #[.agg #[.slice A0 old.length c0,.int .i64 nw,.slice A2 ss.length c2,.slice A3 js.length c3]] #[] (enters Tryz.func197 (by kernel_rfl) rfl) (kF old.length nw) A2 c2 ss w3 (H.out.below HB3.out).UY (by omega) (λW x hW=>Cu x W hb0 hnw)).mono ?_
 rintro e w4 ⟨rfl,dK⟩
 have pY:=aa.mk (HB3.out.trans (dK.mono HB3.out.size))
 have IJ:=aa.mk (Uk.out.below dK)
 clear dK HB3 Uk h10 h11 h12 uS
 cases a4:(ss.all (kF old.length nw))
 .have HF:=aa.mk (show nW old nw ss js=1 by rw[HL.out,a2,a3,a4];simp)
  go_wp2_with fail
  go_ret
  rw[HF.out]
  exact⟨rfl,pY.out⟩
 have h10:=IJ.out.cell 0
 have h11:=IJ.out.cell 1
 have h12:=IJ.out.cell 2
 have uS:=IJ.out.cell 3
 simp only[dZ,dY] at h10 h11 h12 uS
 have HWT:=aa.mk (JW a4)
 go_wp2_with fail
 refine(AJ (H.out.below pY.out) (by have:=of_decide_eq_false c2b;omega) (by have:=of_decide_eq_false c1b;omega) HWT.out).mono ?_
 rintro e w5 ⟨rfl,dK⟩
 have wM:=aa.mk (pY.out.trans (dK.mono pY.out.size))
 have WZ:=aa.mk (IJ.out.below dK)
 clear dK pY IJ h10 h11 h12 uS
 cases a5:(jP old.length ss)
 .have HF:=aa.mk (show nW old nw ss js=1 by rw[HL.out,a2,a3,a4,a5];simp)
  go_wp2_with fail
  go_ret
  rw[HF.out]
  exact⟨rfl,wM.out⟩
 have h10:=WZ.out.cell 0
 have h11:=WZ.out.cell 1
 have h12:=WZ.out.cell 2
 have uS:=WZ.out.cell 3
 simp only[dZ,dY] at h10 h11 h12 uS
 go_wp2_with fail
 refine(O0 198 #[.agg #[.slice A0 old.length c0,.int .i64 nw,.slice A2 ss.length c2,.slice A3 js.length c3]] #[] (enters Tryz.func198 (by kernel_rfl) rfl) (xJ ss.length) A3 c3 js w5 (H.out.below wM.out).kjo (by omega) (λW x hW=>GN x W hb2)).mono ?_
 rintro e w6 ⟨rfl,dK⟩
 have P7:=aa.mk (wM.out.trans (dK.mono wM.out.size))
 clear dK wM WZ h10 h11 h12 uS
 cases a6:(js.all (xJ ss.length))
 .have HF:=aa.mk (show nW old nw ss js=1 by rw[HL.out,a2,a3,a4,a5,a6];simp)
  go_wp2_with fail
  go_ret
  rw[HF.out]
  exact⟨rfl,P7.out⟩
 have HF:=aa.mk (show nW old nw ss js=0 by rw[HL.out,a2,a3,a4,a5,a6];simp)
 go_wp2_with fail
 go_ret
 rw[HF.out]
 exact⟨rfl,P7.out⟩
end Go.Proofs.YtdekaocdmjndaaaGreat
namespace Go.Proofs.YtdekaocdmjndaaaGreat
open Go.RowKit Go.Shelf ah YtdekaocdmjndaaaGreatW.aj YtdekaocdmjndaaaGreatW.aH
attribute [local go_sem] Oper.semAt_some
def Ppl(xs:List IS):Prop:=∀x ∈ xs,0<=x.2.f3.f0/\x.2.f3.f0<=x.2.f3.f1/\x.2.f3.f1<=10000
structure wF(no:Nat)(nw:Int)(s:eY):Prop where
 o0:0<=s.f0
 o1:s.f0<no
 n0:0<=s.f1
 n1:s.f1<nw
 w0:0<=s.f2
 w1:s.f2<=1000
 p0:0<=s.f3.f0
 p1:s.f3.f0<=s.f3.f1
 p2:s.f3.f1<=10000
theorem DX{no:Nat}{nw:Int}{s:eY}(h:kF no nw s=true):wF no nw s:=by
 unfold kF aX iC at h
 simp only[Bool.and_eq_true,decide_eq_true_eq] at h
 obtain⟨⟨h1,h2⟩,⟨h3,h4⟩,⟨h5,h6⟩,h7,h8,h9⟩:=h
 exact⟨h1,by omega,h3,by omega,h5,h6,h7,h8,h9⟩
theorem Rq{old:List Int}{nw:Int}{ss:List eY}{js:List jU}(h:nW old nw ss js=0):0<old.length/\old.length<=4/\0<ss.length/\ss.length<=8/\js.length<=20/\(∀n ∈ old,0<=n/\n<=10000)/\1<=nw/\nw<=4/\(∀s ∈ ss,wF old.length nw s)/\jP old.length ss=true/\js.all (xJ ss.length)=true:=by
 unfold nW at h
 by_cases h1:old.length<=4/\ss.length<=8/\js.length<=20
 .rw[if_pos h1] at h
  by_cases h2:old.length=0\/ss.length=0
  .rw[if_pos h2] at h;cases h
  .rw[if_neg h2] at h
   split at h
   .next h3=>
    simp only[Bool.and_eq_true] at h3
    obtain⟨a1,a2,a3,a4,a5⟩:=h3
    unfold aX at a2
    simp only[Bool.and_eq_true,decide_eq_true_eq] at a2
    refine⟨by omega,h1.1,by omega,h1.2.1,h1.2.2,λn hn=>?_,a2.1,a2.2,λs hs=>DX (List.all_eq_true.1 a3 s hs),a4,a5⟩
    have:=List.all_eq_true.1 a1 n hn
    unfold aX at this
    simpa using this
   .cases h
 .rw[if_neg h1] at h;cases h
end Go.Proofs.YtdekaocdmjndaaaGreat
namespace Go.Proofs.YtdekaocdmjndaaaGreat
open Go.RowKit Go.Shelf ah YtdekaocdmjndaaaGreatW.aj YtdekaocdmjndaaaGreatW.aH
theorem aV.setAt{w:World}{g:Nat}{cs:List Value}{t:TypeId}(h:aV w g cs t)(i:Nat)(v:Value):aV (w.setCell ⟨g,i,none⟩ v) g (cs.set i v) t:=by
 have:=fV h i v
 rw[List.setIfInBounds_toArray] at this
 exact this
set_option maxHeartbeats 4000000 in
theorem LM(g:Nat)(x y:Int)(w:World)(hx:w.cell? ⟨g,0,none⟩=some (.int .i64 x))(hy:w.cell? ⟨g,1,none⟩=some (.int .i64 y)):
  Calls Tryz.prog 148 #[.slice (some ⟨g,0,none⟩) 2 2] w λe w'=>e= .returned (.int .i64 (min x y))/\w'=w:=by
 go_enter Tryz.func148,Tryz.ntmps148
 go_wp2_with fail
 go_loopw [3,4] (λv3 v4 wr=>((v3= .int .i64 x/\v4= .int .i64 1)\/(v3= .int .i64 (min x y)/\v4= .int .i64 2))/\wr=w) (λ_ v4 _=>2-(intOf v4).toNat)
 case atStart=>exact⟨.inl ⟨rfl,rfl⟩,rfl⟩
 case round=>
  obtain⟨⟨rfl,rfl⟩|⟨rfl,rfl⟩,rfl⟩:=hrel
  .go_wp2_with fail
   have hmin:(if y<x then y else x)=min x y:=by
    by_cases h:y<x
    .rw[if_pos h];omega
    .rw[if_neg h];omega
   exact⟨⟨.inr ⟨by rw[hmin],rfl⟩,trivial⟩,by simp[intOf]⟩
  .go_wp2_with fail
   go_ret
   exact⟨rfl,rfl⟩
end Go.Proofs.YtdekaocdmjndaaaGreat
namespace Go.Proofs.YtdekaocdmjndaaaGreat
open Go.RowKit Go.Shelf ah YtdekaocdmjndaaaGreatW.aj YtdekaocdmjndaaaGreatW.aH YtdekaocdmjndaaaGreatW.eu
attribute [local go_sem] Oper.semAt_some nA qw
def pt.T9:Bool×List (List Nat×List Nat):=(true,[([],[]),([0],[0]),([1],[1]),([2],[2]),([],[]),([4],[4]),([],[]),([6],[6]),([5,7],[5,7]),([3,8],[3,8]),([0,0,1,2,3,4,5,6,7,8,9],[0]),([10,0,1,2,3,4,5,6,7,8,9],[10]),([11,9,8,0,1,2,3,4,5,6,7,8,9],[9,11])])
def pt.B9:List Nat:=[0,1,3,7,0,16,0,64,240,511,1023,2047,4095]
theorem pt.uf:bI pt.T9.2 pt.B9=true:=by kernel_rfl
def pt.Wo:Bool×List (List Nat×List Nat):=(true,[([],[]),([0],[0]),([1],[1]),([2],[2]),([],[]),([4],[4]),([],[]),([6],[6]),([5,7],[5,7]),([3,8],[3,8]),([0,0,1,2,3,4,5,6,7,8,9],[0]),([10,0,1,2,3,4,5,6,7,8,9],[10]),([11,9,8,0,1,2,3,4,5,6,7,8,9],[9,11])])
def pt.B10:List Nat:=[0,1,3,7,0,16,0,64,240,511,1023,2047,4095]
theorem pt.Du:bI pt.Wo.2 pt.B10=true:=by kernel_rfl
def pt.Wn:Bool×List (List Nat×List Nat):=(true,[([],[]),([0],[0]),([],[]),([2],[2]),([],[]),([3,4],[3,4]),([5],[5]),([],[]),([7],[7]),([6,8],[6,8]),([1,9],[1,9]),([],[]),([11],[11]),([],[]),([13],[13]),([],[]),([14,15],[14,15]),([16],[16]),([],[]),([18],[18]),([17,19],[17,19]),([12,20],[12,20]),([21],[21]),([10,22],[10,22]),([23,22,0,1,2,3,4,5,6,7,8,9,10,11,12,13,14,15,16,17,18,19,20,21,22,23],[23])])
def pt.B11:List Nat:=[0,1,0,4,0,28,60,0,128,508,1023,0,2048,0,8192,0,57344,122880,0,262144,1040384,2095104,4192256,8388607,16777215]
theorem pt.Dt:bI pt.Wn.2 pt.B11=true:=by kernel_rfl
structure Stp(gr:Nat)(W W':World):Prop where
 ko:KeepsOthers W W'
 os:W'.os=W.os
 tape:W'.tape=W.tape
 output:W'.output=W.output
 block:∀k,k<W.heap.size->k≠gr->W'.heap[k]?=W.heap[k]?
theorem Stp.refl(gr:Nat)(W:World):Stp gr W W:=⟨KeepsOthers.refl W,rfl,rfl,rfl,λ_ _ _=>rfl⟩
theorem Stp.below{gr:Nat}{W A B:World}(h:Stp gr W A)(hb:Below A.heap.size A B):Stp gr W B:=
 ⟨h.ko.trans ⟨hb.size,λk o hk _=>(hb.block k (Array.getElem?_eq_some_iff.1 hk).1).trans hk⟩,hb.os.trans h.os,hb.tape.trans h.tape,hb.output.trans h.output,λk hk hne=>(hb.block k (by have:=h.ko.size;omega)).trans (h.block k hk hne)⟩
theorem Stp.drew{gr:Nat}{W A:World}(h:Stp gr W A):Stp gr W A.drew:=⟨⟨h.ko.size,h.ko.same⟩,h.os,h.tape,h.output,h.block⟩
theorem Stp.set{gr:Nat}{W A:World}(h:Stp gr W A)(i:Nat)(v:Value):Stp gr W (A.setCell ⟨gr,i,none⟩ v):=
 ⟨h.ko.trans (KeepsOthers.setCell A _ v),h.os,h.tape,h.output,λk hk hne=>(Below.heap_setCell _ _ _ _ (by simpa using hne)).trans (h.block k hk hne)⟩
theorem Stp.keep{gr n:Nat}{S:Nat->Prop}{W W':World}(h:Stp gr W W')(hS:S gr\/n<=gr)(hn:n<=W.heap.size):aY n S W W':=
 ⟨h.os,h.tape,h.output,h.ko.size,λk hk hs=>h.block k (by omega) (λe=>by subst e;cases hS<;>first|contradiction|omega)⟩
theorem Stp.blk{gr g:Nat}{W W':World}{cs:List Value}{t:TypeId}(h:Stp gr W W')(hb:aV W g cs t)(hne:g≠gr):aV W' g cs t:=hb.move (h.block _ hb.lt hne)
theorem Stp.seq{gr B:Nat}{w W W':World}(h:Stp gr W W')(hb:Below B w W)(hB:B<=gr)(hBs:B<=W.heap.size):Below B w W':=
 ⟨h.os.trans hb.os,h.tape.trans hb.tape,h.output.trans hb.output,Nat.le_trans hb.size h.ko.size,λk hk=>(h.block k (by omega) (by omega)).trans (hb.block k hk)⟩
theorem Ppl.snoc{pre:List IS}{x:IS}(h:Ppl pre)(hx:0<=x.2.f3.f0/\x.2.f3.f0<=x.2.f3.f1/\x.2.f3.f1<=10000):Ppl (pre++[x]):=λy hy=>by
 rcases List.mem_append.1 hy with hy|hy
 .exact h y hy
 .obtain rfl:=List.mem_singleton.1 hy
  exact hx
theorem Nu(a b:Int):(if a<b then b else a)=max a b:=by
 by_cases h:a<b
 .rw[if_pos h];omega
 .rw[if_neg h];omega
end Go.Proofs.YtdekaocdmjndaaaGreat
namespace Go.Proofs.YtdekaocdmjndaaaGreat
open Go.RowKit Go.Shelf ah YtdekaocdmjndaaaGreatW.aj YtdekaocdmjndaaaGreatW.aH
theorem dO{W:World}{g:Nat}{cs:List Value}{t:TypeId}(h:aV W g cs t){p:Addr}(hne:g≠p.block)(v:Value):aV (W.setCell p v) g cs t:=h.move (Below.heap_setCell _ _ _ _ hne)
open Go.RowKit Go.Shelf ah YtdekaocdmjndaaaGreatW.aj YtdekaocdmjndaaaGreatW.aH YtdekaocdmjndaaaGreatW.eu
def bo.T8:Bool×List (List Nat×List Nat):=(true,[([],[]),([],[]),([],[]),([2],[2]),([],[]),([1,3,4,3],[1,3,4]),([5],[5]),([0,6,5],[0,6]),([7,7,0,1,2,3,4,5,6,7],[0,7])])
def bo.B8:List Nat:=[0,0,0,4,0,30,62,127,255]
theorem bo.Jk:bI bo.T8.2 bo.B8=true:=by kernel_rfl
end Go.Proofs.YtdekaocdmjndaaaGreat
