import Derived.Test.YtkjoilgpmngndaaGreatQ20
import Derived.Test.YtkjoilgpmngndaaGreatQ22
set_option linter.all false
namespace Go.Proofs.YtkjoilgpmngndaaGreat
open Go.RowKit Go.Shelf Go.Proofs.YtkjoilgpmngndaaGreat.av Go.Proofs.YtkjoilgpmngndaaGreatW.aA Go.Proofs.YtkjoilgpmngndaaGreatW.aJ
def lY{β:Type}(lo hi:Nat)(I:β->World->Prop):Prop:=∀s W W' row,I s W->W.grownBy W' row->(∀r,row=some r->lo<=r/\r<hi)->I s W'
theorem lY.alloc{β:Type}{lo hi:Nat}{I:β->World->Prop}(h:lY lo hi I){s:β}{W:World}(o:Obj)(hs:I s W):I s (W.alloc o):=h s W _ none hs (World.grownBy_alloc W o none) (fun r e=>by cases e)
theorem lY.putObj{β:Type}{lo hi:Nat}{I:β->World->Prop}(h:lY lo hi I){s:β}{W:World}{l:Nat}(o:Obj)(hs:I s W)(h1:lo<=l)(h2:l<hi):I s (W.putObj l o):=h s W _ (some l) hs (grownBy_putObj' W l o) (fun r e=>by cases e;exact⟨h1,h2⟩)
theorem lY.setCell{β:Type}{lo hi:Nat}{I:β->World->Prop}(h:lY lo hi I){s:β}{W:World}{p:Addr}(u:Value)(hs:I s W)(h1:lo<=p.block)(h2:p.block<hi):I s (W.setCell p u):=
 h s W _ (some p.block) hs ⟨rfl,rfl,rfl,(KeepsWalks.setCell W p u).size,fun k _ hk=>Below.heap_setCell W p u k (fun e=>hk (by rw[e]))⟩ (fun r e=>by cases e;exact⟨h1,h2⟩)
theorem lY.mono{β:Type}{lo hi lo' hi':Nat}{I:β->World->Prop}(h:lY lo hi I)(h1:lo<=lo')(h2:hi'<=hi):lY lo' hi' I:=fun s W W' row hs hg hr=>h s W W' row hs hg (fun r e=>by have:=hr r e;omega)
def TM{α:Type}(P:Program)(g:Nat)(lb:Array Value)(k:Nat)(X:α->World->Prop)(encs:α->Array Value)(Kp:World->World->Prop)(S:List α->Prop)(N:Nat)(w:World):Prop:=
 ∀(l:Nat) (J:List α->World->Prop) (W:World),Below w.heap.size w W->W.heap.size=w.heap.size+2->lY W.heap.size (W.heap.size+k) J ->
  (∀pre x W1,J pre W1->X x W1->pre.length<N->YieldAt Fence.wide 0 P l (encs x) W1 fun e W'=>e= .returned (.bool true)/\J (pre++[x]) W'/\Kp W1 W') ->
  J [] W ->
  Calls P g (#[.func (.yield l) #[] #[]]++lb) W fun e W'=>(∃v,e= .returned v)/\∃xs,S xs/\J xs W'
def RS{α:Type}(Kp:World->World->Prop)(I:List α->World->Prop)(B:Nat)(xs:List α)(W:World):Exit->Act->World->Prop
 | .normal,_,W'=>KeepsFrom B W W'/\Kp W W'/\I xs W'
 |_,_,_=>False
theorem PD{n k:Nat}{P:Program}{α:Type}{g:Operand}{ps:Array Tmp}{assign body:Code}{Q:Exit->Act->World->Prop}{a:Act}{w:World}
  (h1:1<=n) {gf:Nat} {lb:Array Value} (hg:a.eval g= .func (.func gf) #[] lb) (eg:∀args w,(callFunc gf args).run P w= .ok (.enter gf args) w)
  {X:α->World->Prop} {encs:α->Array Value} {Kp:World->World->Prop} {S:List α->Prop} {N:Nat} (hseq:TM P gf lb k X encs Kp S N w)
  (hKt:∀{A B C:World},Kp A B->Kp B C->Kp A C) (hKb:∀(W:World) (l:Nat) (o':Obj),w.heap.size<=l->l<w.heap.size+2->l<W.heap.size->Kp W (W.putObj l o')) (hps:∀x,(encs x).size=ps.size)
  (hX:∀x,lY w.heap.size (w.heap.size+2) (fun(_:Unit) W=>X x W))
  (fz f:Array Value->α->Array Value) (hz:∀t x,(ps.zip (encs x)).foldl (fun t (p,v)=>t.setIfInBounds p v) t=fz t x)
  (I:List α->World->Prop) (hI:lY w.heap.size (w.heap.size+2+k) I) (h0:I [] w)
  (hassign:∀(l:Nat) (x:α) (W:World) (K:Act->World->Prop),K {tmps:=f a.tmps x,defers:=[]} W ->
   assign.wpIn (Fence.wide.inRound l) (n-1-1) P (Exit.then K (fun _ _ _=>False)) {tmps:=fz a.tmps x,defers:=[]} W)
  (hbody:∀(l:Nat) (pre:List α) (x:α) (W:World),I pre W->X x W->pre.length<N->body.wpIn (Fence.wide.inRound l) (n-1-1) P (RS Kp I w.heap.size (pre++[x]) W) {tmps:=f a.tmps x,defers:=[]} W)
  (hdone:∀(D:Nat) (xs:List α) (W:World),D=w.heap.size->S xs->I xs W->W.heap[D]?=some (.deferred (some []))->Q .normal {a with defers:={target:= .collected D,args:=#[]}::a.defers} W):
  (Code.rangeFunc g ps assign body).wpIn Fence.wide n P Q a w:=by
 refine wpIn_rangeFunc ?_
 intro fn hfn
 rw[show Fence.wide.round=none from rfl]
 obtain⟨rec,hrec⟩:∃rec:LoopState->Option Code->Loop,rec=fun st pe=>{state:=st,pending:=pe,fn,tmps:=a.tmps,params:=ps,assign,body,defers:=w.heap.size}:=⟨_,rfl⟩
 obtain⟨W1,hW1⟩:∃W1,(w.alloc (.deferred (some []))).alloc (.loop (rec .ready none))=W1:=⟨_,rfl⟩
 have hL1:W1.heap[w.heap.size+1]?=some (.loop (rec .ready none)):=by
  rw[<- hW1];have:=World.alloc_heap_new (w.alloc (.deferred (some []))) (.loop (rec .ready none));rwa [World.size_alloc] at this
 have hK1:W1.heap[w.heap.size]?=some (.deferred (some [])):=by
  rw[<- hW1];exact(Below.heap_alloc _ _ _ (by simp)).trans (World.alloc_heap_new w _)
 have hI1:I [] W1:=by rw[<- hW1];exact hI.alloc _ (hI.alloc _ h0)
 have hb1:Below w.heap.size w W1:=by
  rw[<- hW1];exact(((Below.refl _ w).alloc (Nat.le_refl _) _).alloc (by simp) _)
 have hs1:W1.heap.size=w.heap.size+2:=by rw[<- hW1];simp
 refine⟨w.heap.size+1,[{target:= .collected w.heap.size,args:=#[]}],W1,{target:= .fn (.func gf) lb,args:=#[.func (.yield (w.heap.size+1)) #[] #[]]},W1,gf,
  #[.func (.yield (w.heap.size+1)) #[] #[]]++lb,W1,?_,?_,?_,?_,fun _=>h1,?_⟩
 .rw[<- hW1,hrec];exact run_enterLoop_outer _ _ _ _ _
 .simp only[resolve,hg]
  simp[go_sem]
 .intro f' hf';trivial
 .simp[invoke,go_sem,eg]
 .refine callsIn_wide.2 ((hseq (w.heap.size+1)
   (fun pre W=>I pre W/\W.heap[w.heap.size+1]?=some (.loop (rec .ready none))/\W.heap[w.heap.size]?=some (.deferred (some [])))
   W1 hb1 hs1
   (fun s A B row hs hg' hr=>⟨hI s A B row hs.1 hg' (fun r e=>by have:=hr r e;omega),?_,?_⟩)
   ?_ ⟨hI1,hL1,hK1⟩).mono ?_)
  .exact(hg'.block _ (Array.getElem?_eq_some_iff.1 hs.2.1).1 (fun e=>by have:=hr _ e.symm;omega)).trans hs.2.1
  .exact(hg'.block _ (Array.getElem?_eq_some_iff.1 hs.2.2).1 (fun e=>by have:=hr _ e.symm;omega)).trans hs.2.2
  .
   rintro pre x W ⟨hi,hl,hk⟩ hx hlen
   have hlt:w.heap.size+1<W.heap.size:=(Array.getElem?_eq_some_iff.1 hl).1
   have hy:=run_yield (P:=P) (args:=encs x) hl (by rw[hrec];exact hps x)
   rw[hrec] at hy
   refine YieldAt.any (m:=n-1-1) ⟨fn,_,assign,body,hy,roundIn_of_wpIn hfn ?_⟩
   rw[hz]
   refine hassign _ x W _ ?_
   clear hy
   refine⟨_,run_beginRound hl (by rw[hrec]),?_⟩
   have hl2:(W.putObj (w.heap.size+1) (.loop {rec .ready none with state:= .busy})).heap[w.heap.size+1]?=some (.loop {rec .ready none with state:= .busy}):=World.putObj_heap_same hlt
   have hk2:(W.putObj (w.heap.size+1) (.loop {rec .ready none with state:= .busy})).heap[w.heap.size]?=some (.deferred (some [])):=(World.putObj_heap_other (by omega)).trans hk
   have hw2:Kp W (W.putObj (w.heap.size+1) (.loop {rec .ready none with state:= .busy})):=hKb _ _ _ (by omega) (by omega) hlt
   refine wpIn_mono (hbody _ pre x _ (hI.putObj _ hi (by omega) (by omega)) ((hX x).putObj (s:=()) _ hx (by omega) (by omega)) hlen) ?_
   have fin:∀(jump:Option Code) (W3:World),KeepsFrom w.heap.size (W.putObj (w.heap.size+1) (.loop {rec .ready none with state:= .busy})) W3 ->
     (Instr.endRound (w.heap.size+1) jump).run P W3= .ok (.bool jump.isNone) (W3.putObj (w.heap.size+1) (.loop (rec (if jump.isNone then .ready else .done) jump))) /\
     W3.heap[w.heap.size+1]?=some (.loop {rec .ready none with state:= .busy}) /\
     (W3.putObj (w.heap.size+1) (.loop (rec (if jump.isNone then .ready else .done) jump))).heap[w.heap.size+1]?=some (.loop (rec (if jump.isNone then .ready else .done) jump)) /\
     (W3.putObj (w.heap.size+1) (.loop (rec (if jump.isNone then .ready else .done) jump))).heap[w.heap.size]?=some (.deferred (some [])):=fun jump W3 hk3=>by
    have hl3:=hk3.same _ _ (by omega) hl2 rfl
    have:=run_endRound (P:=P) jump hl3
    rw[hrec] at this ⊢
    exact⟨this,by rw[hrec] at hl3;exact hl3,World.putObj_heap_same (Array.getElem?_eq_some_iff.1 hl3).1,(World.putObj_heap_other (by omega)).trans (hk3.same _ _ (Nat.le_refl _) hk2 rfl)⟩
   rintro e a3 W3 hp
   cases e with
   |normal=>
    obtain⟨hk3,hkp3,hi3⟩:=hp
    obtain⟨hr,hl3,hl4,hk4⟩:=fin none W3 hk3
    exact⟨_,_,hr,rfl,⟨hI.putObj _ hi3 (by omega) (by omega),hl4,hk4⟩,hKt (hKt hw2 hkp3) (hKb _ _ _ (by omega) (by omega) (Array.getElem?_eq_some_iff.1 hl3).1)⟩
   |_=>exact hp.elim
  .
   rintro e W2 ⟨⟨v,rfl⟩,xs,hS,hi,hl,hk⟩
   exact⟨none,_,by have:=run_endLoop (P:=P) hl (by rw[hrec];simp);rw[hrec] at this;exact this,hdone _ xs _ rfl hS (hI.putObj _ hi (by omega) (by omega)) ((World.putObj_heap_other (by omega)).trans hk)⟩
end Go.Proofs.YtkjoilgpmngndaaGreat
namespace Go.Proofs.YtkjoilgpmngndaaGreat
open Go.RowKit Go.Shelf Go.Proofs.YtkjoilgpmngndaaGreat.av Go.Proofs.YtkjoilgpmngndaaGreatW.aA Go.Proofs.YtkjoilgpmngndaaGreatW.aJ
def mY(s:Nat->Int)(xs:List Int)(k:Nat)(c:Nat):Int:=if c<k then s c+xs.getD c 0 else s c
def oP(s:Nat->Int)(xs:List Int):Nat->Int:=mY s xs xs.length
def fA(s:Nat->Int):List Value:=[.int .i64 (s 0),.int .i64 (s 1),.int .i64 (s 2),.int .i64 (s 3)]
theorem JC(s:Nat->Int)(xs:List Int):mY s xs 0=s:=by funext c;simp[mY]
theorem JD(s:Nat->Int)(xs:List Int)(k:Nat)(hk:k<4):fA (mY s xs (k+1))=(fA (mY s xs k)).set k (.int .i64 (s k+xs.getD k 0)):=by
 rcases(show k=0\/k=1\/k=2\/k=3 by omega) with rfl|rfl|rfl|rfl<;>simp[fA,mY]
theorem Mj(s:Nat->Int)(xs:List Int)(k:Nat)(hk:k<4):(fA (mY s xs k))[k]?=some (.int .i64 (s k)):=by
 rcases(show k=0\/k=1\/k=2\/k=3 by omega) with rfl|rfl|rfl|rfl<;>simp[fA,mY]
set_option maxRecDepth 100000 in
theorem Ag(s:Nat->Int){A:Option Addr}{c:Nat}(xs:List Int)(w:World)(hx:(Kd.int .i64).C w A xs.length xs)(hl:xs.length<=4)(hs:∀i,0<=s i/\s i<=100000)(hxs:∀x ∈ xs,0<=x/\x<=100000):
  Calls Tryz.prog 117 #[.agg (fA s).toArray,.slice A xs.length c] w fun e w'=>e= .returned (.agg (fA (oP s xs)).toArray)/\Below w.heap.size w w':=by
 have HX:=aa.mk hx
 have HXS:=aa.mk hxs
 clear hx hxs
 unfold fA
 go_enter Tryz.func117,Tryz.ntmps117
 go_wp2_with fail
 have HB0:=aa.mk (ae (ae (Below.refl w.heap.size w) (.cells (fA s).toArray 181)) (.cells #[.int .i64 0,.int .i64 0,.int .i64 0,.int .i64 0] 181))
 have zI:=aa.mk ((aR.new w (fA s) 181).alloc (.cells #[.int .i64 0,.int .i64 0,.int .i64 0,.int .i64 0] 181))
 have Dv:=aa.mk (aR.second w (.cells (fA s).toArray 181) [.int .i64 0,.int .i64 0,.int .i64 0,.int .i64 0] 181)
 have e0:(w.alloc (.cells (fA s).toArray 181))=(w.alloc (.cells #[.int .i64 (s 0),.int .i64 (s 1),.int .i64 (s 2),.int .i64 (s 3)] 181)):=rfl
 rw[e0] at HB0 zI Dv
 generalize(w.alloc (.cells #[.int .i64 (s 0),.int .i64 (s 1),.int .i64 (s 2),.int .i64 (s 3)] 181)).alloc (.cells #[.int .i64 0,.int .i64 0,.int .i64 0,.int .i64 0] 181)=w0 at HB0 zI Dv ⊢
 have afV:=aa.mk (show aR w0 w.heap.size (fA (mY s xs 0)) 181 by rw[JC];exact zI.out)
 clear zI e0
 go_loopw [9] (fun v9 wr=>∃k:Nat,k<=xs.length/\v9= .int .i64 k/\aa (Below w.heap.size w wr)/\aa (aR wr w.heap.size (fA (mY s xs k)) 181)/\aa (aR wr (w.heap.size+1) [.int .i64 0,.int .i64 0,.int .i64 0,.int .i64 0] 181)) (fun v9 _=>xs.length-(intOf v9).toNat)
 case atStart=>exact⟨0,Nat.zero_le _,rfl,HB0,afV,Dv⟩
 case round=>
  clear HB0 afV Dv
  obtain⟨k,hk,rfl,HB,B2,B4⟩:=hrel
  by_cases hkl:k<xs.length
  .have hc:=B2.out.cell k
   have hcf:=B2.out.frozen k
   rw[Mj _ _ k (by omega)] at hc
   have hlt:=B2.out.lt
   obtain⟨ad,e,hx⟩:=Kd.dz (Kd.aK HX.out HB.out) (k:Int) (by omega) (by omega)
   cases e
   rw[Int.toNat_natCast] at hx
   have hr:rd xs (k:Int)=xs.getD k 0:=rfl
   have hb:=hs k
   have hb2:=HXS.out (xs.getD k 0) (by rw[List.getD_eq_getElem?_getD,List.getElem?_eq_getElem hkl];exact List.getElem_mem hkl)
   have hst:=JD s xs k (by omega)
   rw[hr] at hx
   obtain⟨x,hxe⟩:∃x,xs.getD k 0=x:=⟨_,rfl⟩
   obtain⟨y,hye⟩:∃y,s k=y:=⟨_,rfl⟩
   rw[hxe] at hx hb2 hst
   rw[hye] at hc hb hst
   have HST:=aa.mk hst
   have hk4:(k:Int)<4:=by omega
   clear hr hst hxe hye hs
   go_wp2_with fail
   refine⟨⟨k+1,by omega,rfl,⟨HB.out.setCell (p:=⟨w.heap.size,k,none⟩) (by simp only;omega) _⟩,⟨by rw[HST.out];exact B2.out.setAt k _⟩,⟨gF B4.out (p:=⟨w.heap.size,k,none⟩) (by simp only;omega) _⟩⟩,by simp[intOf];omega⟩
  .obtain rfl:k=xs.length:=by omega
   have h0:=B2.out.cell 0
   have h1:=B2.out.cell 1
   have h2:=B2.out.cell 2
   have h3:=B2.out.cell 3
   simp only[fA,List.getElem?_cons_zero,List.getElem?_cons_succ] at h0 h1 h2 h3
   have hg4:=B4.out.lt
   have r0:=B4.out.cell 0
   have r1:=B4.out.cell 1
   have r2:=B4.out.cell 2
   have r3:=B4.out.cell 3
   have f0:=B4.out.frozen 0
   have f1:=B4.out.frozen 1
   have f2:=B4.out.frozen 2
   have f3:=B4.out.frozen 3
   simp only[List.getElem?_cons_zero,List.getElem?_cons_succ] at r0 r1 r2 r3
   go_wp2_with fail
   refine bodyPost_ret (results_cell_row rfl _ _ (w.heap.size+1) 181 (fA (oP s xs)).toArray (0,0) _ rfl ?_ Tryz.underlying181 rfl (by kernel_rfl)) rfl ?_
   .exact(((B4.out.setAt 0 _).setAt 1 _).setAt 2 _).setAt 3 _
   .exact⟨rfl,(((HB.out.setCell (p:=⟨w.heap.size+1,0,none⟩) (by simp only;omega) _).setCell (p:=⟨w.heap.size+1,1,none⟩) (by simp only;omega) _).setCell (p:=⟨w.heap.size+1,2,none⟩) (by simp only;omega) _).setCell (p:=⟨w.heap.size+1,3,none⟩) (by simp only;omega) _⟩
def bV(rows:List (List Int)):Nat->Int:=rows.foldl oP (fun _=>0)
theorem yU(rows:List (List Int))(k:Nat)(hk:k<rows.length):bV (rows.take (k+1))=oP (bV (rows.take k)) (rows.getD k []):=by
 unfold bV
 rw[List.take_succ,List.foldl_append,List.getElem?_eq_getElem hk,List.getD_eq_getElem?_getD,List.getElem?_eq_getElem hk]
 rfl
theorem yJ{s:Nat->Int}{xs:List Int}{b:Int}(hs:∀i,0<=s i/\s i<=b){d:Int}(hd:0<=d)(hx:∀x ∈ xs,0<=x/\x<=d)(i:Nat):0<=oP s xs i/\oP s xs i<=b+d:=by
 unfold oP mY
 have h1:=hs i
 by_cases h:i<xs.length
 .rw[if_pos h]
  have:=hx (xs.getD i 0) (by rw[List.getD_eq_getElem?_getD,List.getElem?_eq_getElem h];exact List.getElem_mem h)
  omega
 .rw[if_neg h]
  omega
theorem nK{rows:List (List Int)}(h:∀r ∈ rows,∀x ∈ r,0<=x/\x<=10100):∀k i,k<=rows.length->0<=bV (rows.take k) i/\bV (rows.take k) i<=10100*k
 |0,i,_=>by simp[bV]
 |k+1,i,hk=>by
  rw[yU _ _ (by omega)]
  have h1:=yJ (b:=10100*k) (d:=10100) (fun i=>nK h k i (by omega)) (by omega) (h (rows.getD k []) (by rw[List.getD_eq_getElem?_getD,List.getElem?_eq_getElem (show k<rows.length by omega)];exact List.getElem_mem _)) i
  push_cast
  omega
set_option maxRecDepth 100000 in
theorem KO{A:Option Addr}{c:Nat}(rows:List (List Int))(w:World)(hx:(Kd.slice 3 (Kd.int .i64)).C w A rows.length rows)(hn:rows.length<=5)(hl:∀r ∈ rows,r.length<=4)(hr:∀r ∈ rows,∀x ∈ r,0<=x/\x<=10100):
  Calls Tryz.prog 148 #[.slice A rows.length c] w fun e w'=>e= .returned (.agg (fA (bV rows)).toArray)/\Below w.heap.size w w':=by
 have HX:=aa.mk hx
 have HL:=aa.mk hl
 have HR:=aa.mk hr
 clear hx hl hr
 go_enter Tryz.func148,Tryz.ntmps148
 go_wp2_with fail
 have HB0:=aa.mk (ae (Below.refl w.heap.size w) (.cells #[.int .i64 0,.int .i64 0,.int .i64 0,.int .i64 0] 181))
 have zI:=aa.mk (show aR _ w.heap.size (fA (bV (rows.take 0))) 181 from aR.new w [.int .i64 0,.int .i64 0,.int .i64 0,.int .i64 0] 181)
 generalize w.alloc (.cells #[.int .i64 0,.int .i64 0,.int .i64 0,.int .i64 0] 181)=w0 at HB0 zI ⊢
 go_loopw [7] (fun v7 wr=>∃k:Nat,k<=rows.length/\v7= .int .i64 k/\aa (Below w.heap.size w wr)/\aa (aR wr w.heap.size (fA (bV (rows.take k))) 181)) (fun v7 _=>rows.length-(intOf v7).toNat)
 case atStart=>exact⟨0,Nat.zero_le _,rfl,HB0,zI⟩
 case round=>
  clear HB0 zI
  obtain⟨k,hk,rfl,HB,B2⟩:=hrel
  have h0:=B2.out.cell 0
  have h1:=B2.out.cell 1
  have h2:=B2.out.cell 2
  have h3:=B2.out.cell 3
  simp only[fA,List.getElem?_cons_zero,List.getElem?_cons_succ] at h0 h1 h2 h3
  have f0:=B2.out.frozen 0
  have f1:=B2.out.frozen 1
  have f2:=B2.out.frozen 2
  have f3:=B2.out.frozen 3
  have hg2:=B2.out.lt
  by_cases hkl:k<rows.length
  .obtain⟨ad,A0,c0,e,hc,hc0,hC⟩:=KI (Kd.aK HX.out HB.out) (k:Int) (by omega) (by omega)
   cases e
   rw[Int.toNat_natCast] at hc
   have hst:=yU rows k hkl
   have hbd:=fun i=>nK HR.out k i (by omega)
   have hmem:rows.getD k [] ∈ rows:=by rw[List.getD_eq_getElem?_getD,List.getElem?_eq_getElem hkl];exact List.getElem_mem hkl
   have hr4:=HL.out _ hmem
   have hrx:=HR.out _ hmem
   have hrd:sZ rows (k:Int)=rows.getD k []:=rfl
   rw[hrd] at hc hc0 hC
   obtain⟨r,hre⟩:∃r,rows.getD k []=r:=⟨_,rfl⟩
   rw[hre] at hc hc0 hC hst hr4 hrx
   obtain⟨s,hse⟩:∃s,bV (rows.take k)=s:=⟨_,rfl⟩
   rw[hse] at h0 h1 h2 h3 hst hbd
   have HST:=aa.mk hst
   have HC:=aa.mk hC
   have HBD:=aa.mk hbd
   have HRX:=aa.mk hrx
   clear hst hmem hrd hre hse hC hbd hrx
   go_wp2_with fail
   refine(Ag s r _ HC.out hr4 (fun i=>?_) (fun x hx=>?_)).mono ?_
   .have:=HBD.out i
    omega
   .have:=HRX.out x hx
    omega
   rintro e w4 ⟨rfl,hb4⟩
   have kY:=aa.mk (HB.out.trans (hb4.mono HB.out.size))
   have B4:=aa.mk (B2.out.below hb4)
   have e0:=B4.out.cell 0
   have e1:=B4.out.cell 1
   have e2:=B4.out.cell 2
   have e3:=B4.out.cell 3
   have f0:=B4.out.frozen 0
   have f1:=B4.out.frozen 1
   have f2:=B4.out.frozen 2
   have f3:=B4.out.frozen 3
   have hg4:=B4.out.lt
   simp only[fA,List.getElem?_cons_zero,List.getElem?_cons_succ] at e0 e1 e2 e3 ⊢
   clear h0 h1 h2 h3
   go_wp2_with fail
   refine⟨⟨k+1,by omega,rfl,⟨(((kY.out.setCell (p:=⟨w.heap.size,0,none⟩) (by simp only;omega) _).setCell (p:=⟨w.heap.size,1,none⟩) (by simp only;omega) _).setCell (p:=⟨w.heap.size,2,none⟩) (by simp only;omega) _).setCell (p:=⟨w.heap.size,3,none⟩) (by simp only;omega) _⟩,⟨?_⟩⟩,by simp[intOf];omega⟩
   rw[HST.out]
   exact(((B4.out.setAt 0 _).setAt 1 _).setAt 2 _).setAt 3 _
  .obtain rfl:k=rows.length:=by omega
   go_wp2_with fail
   refine bodyPost_ret (results_cell_row rfl _ _ w.heap.size 181 (fA (bV rows)).toArray (0,0) _ rfl ?_ Tryz.underlying181 rfl (by kernel_rfl)) rfl ?_
   .exact(((B2.out.setAt 0 _).setAt 1 _).setAt 2 _).setAt 3 _
   .exact⟨rfl,(((HB.out.setCell (p:=⟨w.heap.size,0,none⟩) (by simp only;omega) _).setCell (p:=⟨w.heap.size,1,none⟩) (by simp only;omega) _).setCell (p:=⟨w.heap.size,2,none⟩) (by simp only;omega) _).setCell (p:=⟨w.heap.size,3,none⟩) (by simp only;omega) _⟩
end Go.Proofs.YtkjoilgpmngndaaGreat
namespace Go.Proofs.YtkjoilgpmngndaaGreat
open Go.RowKit Go.Shelf Go.Proofs.YtkjoilgpmngndaaGreat.av Go.Proofs.YtkjoilgpmngndaaGreatW.aA Go.Proofs.YtkjoilgpmngndaaGreatW.aJ
def KA.T5:Bool×List (List Nat×List Nat):=(true,[([],[]),([],[]),([1],[1]),([2],[2]),([],[]),([4],[4]),([5],[5]),([0,3,6],[0,3,6]),([7],[7])])
def KA.B5:List Nat:=[0,0,2,6,0,16,48,127,255]
theorem KA.Jf:eu .any (opsOf Tryz.f115 5)=KA.T5:=by kernel_rfl
theorem KA.yT:bO KA.T5.2 KA.B5=true:=by kernel_rfl
def KA.T8:Bool×List (List Nat×List Nat):=(true,[([],[]),([],[]),([1],[1]),([],[]),([3,2],[3]),([0,2,4,4],[0,2,4]),([5,5,0,1,2,3,4,5],[5])])
def KA.B8:List Nat:=[0,0,2,0,14,31,63]
theorem KA.Za:eu .any (opsOf Tryz.f115 8)=KA.T8:=by kernel_rfl
theorem KA.Tk:bO KA.T8.2 KA.B8=true:=by kernel_rfl
def qb(base n o:Int):Bool:=decide (ji base o=n)||decide (mi base o=n)
def y7(s:Nat->Int):Int:=[s 0,s 1,s 2,s 3].sum
def qM(base:Int)(rows:List (List Int))(s:Nat->Int):Bool:=((List.range (rows.getD 0 []).length).all fun c=>qb base (s c) (bV rows c))&&qb base (y7 s) (y7 (bV rows))
theorem Uj{w:World}{g:Nat}{s:Nat->Int}{t:TypeId}(h:aR w g (fA s) t):(Kd.int .i64).C w (some ⟨g,0,none⟩) 4 [s 0,s 1,s 2,s 3]:=by
 have h0:=h.cell 0
 have h1:=h.cell 1
 have h2:=h.cell 2
 have h3:=h.cell 3
 simp only[fA,List.getElem?_cons_zero,List.getElem?_cons_succ] at h0 h1 h2 h3
 refine⟨rfl,by decide,fun _=>⟨_,rfl,fun j p hj=>?_⟩⟩
 have hj4:j<4:=by simpa using (List.getElem?_eq_some_iff.1 hj).1
 rcases(show j=0\/j=1\/j=2\/j=3 by omega) with rfl|rfl|rfl|rfl<;>(simp only[List.getElem?_cons_zero,List.getElem?_cons_succ,Option.some.injEq] at hj;subst hj;refine⟨_,rfl,rfl,fun i u hu=>?_⟩;match i,hu with|0,hu=>(cases hu;first|exact h0|exact h1|exact h2|exact h3))
theorem Jb(xs:List Int)(h:∀x ∈ xs,0<=x/\x<=100000)(hl:xs.length<=10):∀(d k i:Nat) (acc:Int),i+d=xs.length->d<k->0<=acc->acc<=100000*i->dF.l0 k acc xs xs.length i=some (acc+(xs.drop i).sum)
 |0,k,i,acc,hi,hk,h0,h1=>by
  obtain⟨k,rfl⟩:∃m,k=m+1:=⟨k-1,by omega⟩
  rw[dF.l0,if_neg (by omega),List.drop_eq_nil_of_le (by omega)]
  simp
 |d+1,k,i,acc,hi,hk,h0,h1=>by
  obtain⟨k,rfl⟩:∃m,k=m+1:=⟨k-1,by omega⟩
  have hlt:i<xs.length:=by omega
  have hr:rd xs (i:Int)=xs[i]:=by
   show xs.getD (i:Int).toNat 0=xs[i]
   rw[List.getD_eq_getElem?_getD,Int.toNat_natCast,List.getElem?_eq_getElem hlt]
   rfl
  have hx:=h xs[i] (List.getElem_mem hlt)
  rw[dF.l0,if_pos (by omega),if_pos (by omega),if_pos (by omega),hr,show wrap64 (acc+xs[i])=acc+xs[i] by unfold wrap64;omega,show wrap64 ((i:Int)+1)=((i+1:Nat):Int) by unfold wrap64;push_cast;omega,Jb xs h hl d k (i+1) _ (by omega) (by omega) (by omega) (by push_cast;omega),List.drop_eq_getElem_cons hlt,List.sum_cons,Int.add_assoc]
theorem rz{A:Option Addr}{c:Nat}(xs:List Int)(w:World)(hx:(Kd.int .i64).C w A xs.length xs)(hc:xs.length<=c)(h:∀x ∈ xs,0<=x/\x<=100000)(hl:xs.length<=10):
  Calls Tryz.prog 137 #[.slice A xs.length c] w fun e w'=>e= .returned (.int .i64 xs.sum)/\Below w.heap.size w w':=
 (dF.calls 11 A c xs xs.sum w hx hc (by have:=Jb xs h hl xs.length 11 0 0 (by omega) (by omega) (by omega) (by omega);simpa[dF.f] using this)).mono fun _ _ h=>⟨h.1,h.2.below⟩
theorem rE(base n o:Int)(b:Bool)(hn_:qb base n o=b)(u1 u2:Value)(w:World)(hb:2<=base)(hb1:base<=100)(hn:0<=o)(hn1:o<=999000):
  Calls Tryz.prog 149 #[.agg #[.int .i64 base,u1,u2],.int .i64 n,.int .i64 o] w fun e w'=>e= .returned (.bool b)/\Below w.heap.size w w':=by
 subst hn_
 exact MG base n o u1 u2 w hb hb1 hn hn1
theorem Nf(s:Nat->Int)(k:Nat)(hk:k<4):(fA s)[k]?=some (.int .i64 (s k)):=by
 rcases(show k=0\/k=1\/k=2\/k=3 by omega) with rfl|rfl|rfl|rfl<;>rfl
structure xx(w:World)(A:Option Addr)(c:Nat)(base:Int)(rows:List (List Int))(Af:Option Addr)(cf:Nat)(fx:List dJ):Prop where
 kr:(Kd.slice 3 (Kd.int .i64)).C w A rows.length rows
 hc:rows.length<=c
 kf:AL.C w Af fx.length fx
 hcf:fx.length<=cf
 b0:2<=base
 b1:base<=100
 n:rows.length<=5
 n1:0<rows.length
 l:∀r ∈ rows,r.length=(rows.getD 0 []).length
 l4:(rows.getD 0 []).length<=4
 x:∀r ∈ rows,∀x ∈ r,0<=x/\x<=10100
theorem xx.later{w w':World}{A:Option Addr}{c:Nat}{base:Int}{rows:List (List Int)}{Af:Option Addr}{cf:Nat}{fx:List dJ}(h:xx w A c base rows Af cf fx)(hb:Below w.heap.size w w'):xx w' A c base rows Af cf fx:=
 {h with kr:=Kd.aK h.kr hb,kf:=Kd.aK h.kf hb}
set_option maxRecDepth 100000 in
theorem Ik{A:Option Addr}{c:Nat}{base:Int}{rows:List (List Int)}{Af:Option Addr}{cf:Nat}{fx:List dJ}(s:Nat->Int)(w:World)(hT:xx w A c base rows Af cf fx)(hs:∀i,0<=s i/\s i<=100000):
  Calls Tryz.prog 115 #[.agg #[.int .i64 base,.slice A rows.length c,.slice Af fx.length cf],.agg (fA s).toArray] w fun e w'=>e= .returned (.bool (qM base rows s))/\Below w.heap.size w w':=by
 have HT:=aa.mk hT
 have HS:=aa.mk hs
 have hb0:=hT.b0
 have hb1:=hT.b1
 clear hT hs
 unfold fA
 go_enter Tryz.func115,Tryz.ntmps115
 go_wp2_with fail
 have HB0:=aa.mk (ae (ae (Below.refl w.heap.size w) (.cells #[.int .i64 base,.slice A rows.length c,.slice Af fx.length cf] 110)) (.cells #[.int .i64 (s 0),.int .i64 (s 1),.int .i64 (s 2),.int .i64 (s 3)] 181))
 have zI:=aa.mk ((aR.new w [.int .i64 base,.slice A rows.length c,.slice Af fx.length cf] 110).alloc (.cells #[.int .i64 (s 0),.int .i64 (s 1),.int .i64 (s 2),.int .i64 (s 3)] 181))
 have IQ:=aa.mk (show aR _ (w.heap.size+1) (fA s) 181 from aR.second w (.cells #[.int .i64 base,.slice A rows.length c,.slice Af fx.length cf] 110) [.int .i64 (s 0),.int .i64 (s 1),.int .i64 (s 2),.int .i64 (s 3)] 181)
 generalize(w.alloc (.cells #[.int .i64 base,.slice A rows.length c,.slice Af fx.length cf] 110)).alloc (.cells #[.int .i64 (s 0),.int .i64 (s 1),.int .i64 (s 2),.int .i64 (s 3)] 181)=w0 at HB0 zI IQ ⊢
 refine(KO rows w0 (HT.out.later HB0.out).kr HT.out.n (fun r hr=>by rw[HT.out.l r hr];exact HT.out.l4) HT.out.x).mono ?_
 rintro e w1 ⟨rfl,jR⟩
 have HB1:=aa.mk (HB0.out.trans (jR.mono HB0.out.size))
 have xK:=aa.mk (zI.out.below jR)
 have xJ:=aa.mk (IQ.out.below jR)
 clear jR HB0 zI IQ
 have h20:=xK.out.cell 0
 have h21:=xK.out.cell 1
 have h22:=xK.out.cell 2
 simp only[fA,List.getElem?_cons_zero,List.getElem?_cons_succ] at h20 h21 h22 ⊢
 have hg2:=xK.out.lt
 go_wp2_with fail
 have HB2:=aa.mk (ae HB1.out (.cells #[.int .i64 (bV rows 0),.int .i64 (bV rows 1),.int .i64 (bV rows 2),.int .i64 (bV rows 3)] 181))
 have I9:=aa.mk (xK.out.alloc (.cells #[.int .i64 (bV rows 0),.int .i64 (bV rows 1),.int .i64 (bV rows 2),.int .i64 (bV rows 3)] 181))
 have BM:=aa.mk (xJ.out.alloc (.cells #[.int .i64 (bV rows 0),.int .i64 (bV rows 1),.int .i64 (bV rows 2),.int .i64 (bV rows 3)] 181))
 have QU:=aa.mk (show aR _ w1.heap.size (fA (bV rows)) 181 from aR.new w1 [.int .i64 (bV rows 0),.int .i64 (bV rows 1),.int .i64 (bV rows 2),.int .i64 (bV rows 3)] 181)
 have hg5:w.heap.size+1<w1.heap.size:=xJ.out.lt
 clear HB1 xK xJ h20 h21 h22 hg2
 generalize w1.alloc (.cells #[.int .i64 (bV rows 0),.int .i64 (bV rows 1),.int .i64 (bV rows 2),.int .i64 (bV rows 3)] 181)=w2 at HB2 I9 BM QU ⊢
 generalize w1.heap.size=g5 at QU hg5 ⊢
 refine(fV.calls base A c rows Af cf fx ((rows.getD 0 []).length:Int) w2 (HT.out.later HB2.out).kr HT.out.hc (HT.out.later HB2.out).kf HT.out.hcf ?_).mono ?_
 .have:=HT.out.n1
  unfold fV.f
  rw[if_neg (by omega),if_pos (by omega)]
  rfl
 rintro e w3 ⟨rfl,jR⟩
 have HB3:=aa.mk (HB2.out.trans (jR.mono HB2.out.size))
 have Q9:=aa.mk (I9.out.below jR)
 have B33:=aa.mk (BM.out.below jR)
 have B53:=aa.mk (QU.out.below jR)
 clear jR HB2 I9 BM QU
 have UA:(rows.getD 0 []).length<=4:=HT.out.l4
 have HM:=aa.mk (rfl:(rows.getD 0 []).length=(rows.getD 0 []).length)
 obtain⟨m,hm⟩:∃m,(rows.getD 0 []).length=m:=⟨_,rfl⟩
 have HMM:=aa.mk hm
 rw[hm] at UA ⊢
 clear hm HM
 go_wp2_with fail
 go_loopw [12] (fun v12 wr=>∃k:Nat,k<=m/\v12= .int .i64 k/\aa (∀c:Nat,c<k->qb base (s c) (bV rows c)=true)/\aa (Below w.heap.size w wr)/\aa (aR wr w.heap.size [.int .i64 base,.slice A rows.length c,.slice Af fx.length cf] 110)/\aa (aR wr (w.heap.size+1) (fA s) 181)/\aa (aR wr g5 (fA (bV rows)) 181)) (fun v12 _=>m-(intOf v12).toNat)
 case atStart=>exact⟨0,Nat.zero_le _,rfl,⟨fun c hc=>absurd hc (by omega)⟩,HB3,Q9,B33,B53⟩
 case round=>
  clear HB3 Q9 B33 B53
  obtain⟨k,hk,rfl,HN,HB,B2,B3,B5⟩:=hrel
  have h20:=B2.out.cell 0
  have h21:=B2.out.cell 1
  have h22:=B2.out.cell 2
  simp only[List.getElem?_cons_zero,List.getElem?_cons_succ] at h20 h21 h22
  by_cases hkl:k<m
  .have h3:=B3.out.cell k
   have h5:=B5.out.cell k
   rw[Nf _ k (by omega)] at h3 h5
   have hk4:(k:Int)<4:=by omega
   have hl3:=B3.out.lt
   have hl5:=B5.out.lt
   have hbd:=nK HT.out.x rows.length k (by omega)
   rw[List.take_length] at hbd
   have hn5:=HT.out.n
   obtain⟨y,hy⟩:∃y,bV rows k=y:=⟨_,rfl⟩
   obtain⟨x,hx⟩:∃x,s k=x:=⟨_,rfl⟩
   rw[hy] at h5 hbd
   rw[hx] at h3
   obtain⟨b,hb⟩:∃b,qb base x y=b:=⟨_,rfl⟩
   have HXY:=aa.mk (show qb base (s k) (bV rows k)=b by rw[hx,hy];exact hb)
   have XW:=fun w=>rE base x y b hb (.slice A rows.length c) (.slice Af fx.length cf) w hb0 hb1 hbd.1 (by omega)
   have HNR:=aa.mk XW
   clear XW hx hy hb
   go_wp2_with fail
   refine gz (n:=9) (S:=fun w'=>w'.cell? ⟨w.heap.size,0,none⟩=some (.int .i64 base)/\w'.cell? ⟨w.heap.size,1,none⟩=some (.slice A rows.length c)/\w'.cell? ⟨w.heap.size,2,none⟩=some (.slice Af fx.length cf)/\w'.cell? ⟨w.heap.size+1,k,none⟩=some (.int .i64 x)/\w'.cell? ⟨g5,k,none⟩=some (.int .i64 y)) (ds:=[7]) #[O,O,O,O,O,O,O,O,O] (by kernel_rfl) rfl rfl ⟨h20,h21,h22,h3,h5⟩ (fun hHeld=>?_);refine bK KA.Jf KA.yT (fun aC bW=>?_)
   replace HB:=aa.mk (bG HB.out)
   replace B2:=aa.mk (B2.out.move rfl:aR wr.drew _ _ _)
   replace B3:=aa.mk (B3.out.move rfl:aR wr.drew _ _ _)
   replace B5:=aa.mk (B5.out.move rfl:aR wr.drew _ _ _)
   clear h20 h21 h22 h3 h5
   generalize wr.drew=wd at HB B2 B3 B5 hHeld ⊢
   refine eP 0 15 #[I,O,O,O,O,O,O,O,O] aC bW hHeld (hy:=by(rintro w' ⟨s0,s1,s2,s3,s4⟩;go_simp;with_reducible rfl)) (h:=?_)
   refine bI 1 16 #[I,I,O,O,O,O,O,O,O] aC (h:=?_)
   refine bI 2 17 #[I,I,I,O,O,O,O,O,O] aC (h:=?_)
   refine eP 3 18 #[I,I,I,I,O,O,O,O,O] aC bW hHeld (hy:=by(rintro w' ⟨s0,s1,s2,s3,s4⟩;go_simp;with_reducible rfl)) (h:=?_)
   refine bI 4 19 #[I,I,I,I,I,O,O,O,O] aC (h:=?_)
   refine bI 5 20 #[I,I,I,I,I,I,O,O,O] aC (h:=?_)
   refine eP 6 21 #[I,I,I,I,I,I,I,O,O] aC bW hHeld (hy:=by(rintro w' ⟨s0,s1,s2,s3,s4⟩;go_simp;with_reducible rfl)) (h:=?_)
   refine dW (i:=7) (N:=some 22) #[I,I,I,I,I,I,I,I,O] rfl rfl (aN aC.out (by kernel_rfl)) (by decide) (fun K hK=>?_)
   refine fD Tryz.func149 (by kernel_rfl) rfl #[.agg #[.int .i64 base,.slice A rows.length c,.slice Af fx.length cf],.int .i64 x,.int .i64 y] (by rfl) rfl rfl (by(try simp only[List.map_toArray,List.map_cons,List.map_nil]);rfl) ?_
   refine(HNR.out _).mono ?_
   rintro e_ w_ ⟨rfl,hbx⟩
   refine⟨_,rfl,hK.out _ _ ?_⟩
   clear hK K
   have xN:=aa.mk (HB.out.trans (hbx.mono HB.out.size))
   have B2':=aa.mk (B2.out.below hbx)
   have B3':=aa.mk (B3.out.below hbx)
   have B5':=aa.mk (B5.out.below hbx)
   clear HB B2 B3 B5 hHeld
   refine bF (by simp only[Act.put,List.setIfInBounds_toArray,List.set_cons_zero,List.set_cons_succ];rfl) ?_
   refine bI 8 23 #[I,I,I,I,I,I,I,I,I] aC (h:=?_)
   refine fF (bQ aC.out (by kernel_rfl)) ?_
   cases b
   .go_wp2_with fail
    go_ret
    refine⟨?_,xN.out⟩
    have:qM base rows s=false:=by
     unfold qM
     rw[show((List.range (rows.getD 0 []).length).all fun c=>qb base (s c) (bV rows c))=false from List.all_eq_false.2 ⟨k,by rw[HMM.out];exact List.mem_range.2 hkl,by rw[HXY.out];simp⟩]
     rfl
    rw[this]
    rfl
   .go_wp2_with fail
    refine⟨⟨k+1,by omega,by go_num,⟨fun c hc=>?_⟩,xN,B2',B3',B5'⟩,by simp[intOf];omega⟩
    rcases Nat.lt_or_ge c k with h|h
    .exact HN.out c h
    .rw[show c=k by omega];exact HXY.out
  .obtain rfl:k=m:=by omega
   go_wp2_with fail
   have hbd:=fun i=>nK HT.out.x rows.length i (by omega)
   rw[List.take_length] at hbd
   have hn5:=HT.out.n
   have Kg:=fun i=>HS.out i
   have e0:qM base rows s=qb base (y7 s) (y7 (bV rows)):=by
    unfold qM
    rw[show((List.range (rows.getD 0 []).length).all fun c=>qb base (s c) (bV rows c))=true from List.all_eq_true.2 fun c hc=>HN.out c (by rw[HMM.out] at hc;exact List.mem_range.1 hc)]
    rfl
   obtain⟨b,hb⟩:∃b,qb base (y7 s) (y7 (bV rows))=b:=⟨_,rfl⟩
   have HE:=aa.mk (e0.trans hb)
   have HX:=aa.mk (show ∀w,Calls _ _ _ w _ from fun w=>rE base (y7 s) (y7 (bV rows)) b hb (.slice A rows.length c) (.slice Af fx.length cf) w hb0 hb1 (by have h0:=hbd 0;have h1:=hbd 1;have h2:=hbd 2;have h3:=hbd 3;simp[y7];omega) (by have h0:=hbd 0;have h1:=hbd 1;have h2:=hbd 2;have h3:=hbd 3;simp[y7];omega))
   have HS0:=aa.mk (show ∀x ∈ [s 0,s 1,s 2,s 3],0<=x/\x<=100000 by have h0:=Kg 0;have h1:=Kg 1;have h2:=Kg 2;have h3:=Kg 3;simp;omega)
   have HA0:=aa.mk (show ∀x ∈ [bV rows 0,bV rows 1,bV rows 2,bV rows 3],0<=x/\x<=100000 by have h0:=hbd 0;have h1:=hbd 1;have h2:=hbd 2;have h3:=hbd 3;simp;omega)
   clear hbd hn5 Kg e0 hb
   refine gz (n:=7) (S:=fun w'=>w'.cell? ⟨w.heap.size,0,none⟩=some (.int .i64 base)/\w'.cell? ⟨w.heap.size,1,none⟩=some (.slice A rows.length c)/\w'.cell? ⟨w.heap.size,2,none⟩=some (.slice Af fx.length cf)) (ds:=[5]) #[O,O,O,O,O,O,O] (by kernel_rfl) rfl rfl ⟨h20,h21,h22⟩ (fun hHeld=>?_);refine bK KA.Za KA.Tk (fun aC bW=>?_)
   replace HB:=aa.mk (bG HB.out)
   have B2_:=aa.mk (B2.out.move rfl:aR wr.drew _ _ _)
   have B3_:=aa.mk (B3.out.move rfl:aR wr.drew _ _ _)
   have B5_:=aa.mk (B5.out.move rfl:aR wr.drew _ _ _)
   clear h20 h21 h22 B2 B3 B5
   generalize wr.drew=wd at HB B2_ B3_ B5_ hHeld ⊢
   refine eP 0 25 #[I,O,O,O,O,O,O] aC bW hHeld (hy:=by(rintro w' ⟨s0,s1,s2⟩;go_simp;with_reducible rfl)) (h:=?_)
   refine bI 1 26 #[I,I,O,O,O,O,O] aC (h:=?_)
   refine bI 3 28 #[I,I,O,I,O,O,O] aC (h:=?_)
   refine iC (i:=2) (N:=some 27) #[I,I,I,I,O,O,O] rfl rfl (aN aC.out (by kernel_rfl)) (by decide) (fun K hK=>?_)
   refine fD Tryz.func137 (by kernel_rfl) rfl #[.slice (some ⟨w.heap.size+1,0,none⟩) 4 4] (by rfl) rfl rfl (by(try simp only[List.map_toArray,List.map_cons,List.map_nil]);rfl) ?_
   refine(rz [s 0,s 1,s 2,s 3] _ (Uj B3_.out) (by simp) HS0.out (by simp)).mono ?_
   rintro e_ w_ ⟨rfl,hbx⟩
   refine⟨_,rfl,hK.out _ _ ⟨(by simpa using (B2_.out.below hbx).cell 0),(by simpa using (B2_.out.below hbx).cell 1),(by simpa using (B2_.out.below hbx).cell 2)⟩ (fun hHeld=>?_)⟩
   clear hK K
   have HB1:=aa.mk (HB.out.trans (hbx.mono HB.out.size))
   have XH:=aa.mk (B2_.out.below hbx)
   have al3:=aa.mk (B3_.out.below hbx)
   have afO:=aa.mk (B5_.out.below hbx)
   refine bF (by simp only[Act.put,List.setIfInBounds_toArray,List.set_cons_zero,List.set_cons_succ];rfl) ?_
   refine iC (i:=4) (N:=some 29) #[I,I,I,I,I,O,O] rfl rfl (aN aC.out (by kernel_rfl)) (by decide) (fun K hK=>?_)
   refine fD Tryz.func137 (by kernel_rfl) rfl #[.slice (some ⟨g5,0,none⟩) 4 4] (by rfl) rfl rfl (by(try simp only[List.map_toArray,List.map_cons,List.map_nil]);rfl) ?_
   refine(rz [bV rows 0,bV rows 1,bV rows 2,bV rows 3] _ (Uj afO.out) (by simp) HA0.out (by simp)).mono ?_
   rintro e_ w_ ⟨rfl,hbx⟩
   refine⟨_,rfl,hK.out _ _ ⟨(by simpa using (XH.out.below hbx).cell 0),(by simpa using (XH.out.below hbx).cell 1),(by simpa using (XH.out.below hbx).cell 2)⟩ (fun hHeld=>?_)⟩
   clear hK K
   have HB2:=aa.mk (HB1.out.trans (hbx.mono HB1.out.size))
   have arU:=aa.mk (XH.out.below hbx)
   have arR:=aa.mk (al3.out.below hbx)
   have arN:=aa.mk (afO.out.below hbx)
   refine bF (by simp only[Act.put,List.setIfInBounds_toArray,List.set_cons_zero,List.set_cons_succ];rfl) ?_
   refine dW (i:=5) (N:=some 30) #[I,I,I,I,I,I,O] rfl rfl (aN aC.out (by kernel_rfl)) (by decide) (fun K hK=>?_)
   refine fD Tryz.func149 (by kernel_rfl) rfl #[.agg #[.int .i64 base,.slice A rows.length c,.slice Af fx.length cf],.int .i64 (y7 s),.int .i64 (y7 (bV rows))] (by rfl) rfl rfl (by(try simp only[List.map_toArray,List.map_cons,List.map_nil]);rfl) ?_
   refine(HX.out _).mono ?_
   rintro e_ w_ ⟨rfl,hbx⟩
   refine⟨_,rfl,hK.out _ _ ?_⟩
   clear hK K
   have xN:=aa.mk (HB2.out.trans (hbx.mono HB2.out.size))
   clear hHeld
   refine bF (by simp only[Act.put,List.setIfInBounds_toArray,List.set_cons_zero,List.set_cons_succ];rfl) ?_
   refine bI 6 4 #[I,I,I,I,I,I,I] aC (h:=?_)
   refine fF (bQ aC.out (by kernel_rfl)) ?_
   go_wp2_with fail
   go_ret
   exact⟨by(rw[HE.out];rfl),xN.out⟩
end Go.Proofs.YtkjoilgpmngndaaGreat
