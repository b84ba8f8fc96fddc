import Derived.BigRegion
import Derived.BigRegionIn
import Derived.CallsIn
import Derived.OrdersIn
import Derived.RangeFuncFrom
import Derived.Test.YtkjoilgpmngndaaGreatQ8
set_option linter.all false
namespace Go.Proofs.YtkjoilgpmngndaaGreat.Wk
open Go.RowKit au YtkjoilgpmngndaaGreatW.aj
def upd{α:Type}(c:Nat->α)(i:Nat)(v:α):Nat->α:=λn=>if n=i then v else c n
theorem upd_same{α:Type}(c:Nat->α)(i:Nat)(v:α):upd c i v i=v:=by simp[upd]
theorem jF{α:Type}(c:Nat->α)(i j:Nat)(v:α)(h:j≠i):upd c i v j=c j:=by simp[upd,h]
def iH(st:Nat->Bool)(c:Nat->Int):Nat->Int
 |0=> -1
 |k+1=>if st k=false/\(iH st c k<0\/c k<c (iH st c k).toNat) then(k:Int) else iH st c k
theorem rU(st:Nat->Bool)(c:Nat->Int)(k:Nat):iH st c k= -1/\(∀j,j<k->st j=true)\/∃p:Nat,iH st c k=(p:Int)/\p<k/\st p=false:=by
 induction k with
 |zero=>exact .inl ⟨rfl,λj hj=>absurd hj (Nat.not_lt_zero _)⟩
 |succ k ih=>
  unfold iH
  by_cases h:st k=false/\(iH st c k<0\/c k<c (iH st c k).toNat)
  .rw[if_pos h]
   exact .inr ⟨k,rfl,by omega,h.1⟩
  .rw[if_neg h]
   rcases ih with⟨h1,h2⟩|⟨p,h1,h2,h3⟩
   .refine .inl ⟨h1,λj hj=>?_⟩
    rcases Nat.lt_succ_iff_lt_or_eq.1 hj with h'|h'
    .exact h2 j h'
    .subst h'
     cases hs:st j with
     |true=>rfl
     |false=>exact absurd ⟨hs,.inl (by omega)⟩ h
   .exact .inr ⟨p,h1,by omega,h3⟩
theorem Oh{st:Nat->Bool}{c:Nat->Int}{k:Nat}(h:st k=true):iH st c (k+1)=iH st c k:=by
 rw[iH,if_neg (λx=>by rw[h] at x;cases x.1)]
theorem Qz{st:Nat->Bool}{c:Nat->Int}{k p:Nat}(hp:iH st c k=(p:Int))(h:¬c k<c p):iH st c (k+1)=iH st c k:=by
 rw[iH,if_neg]
 rintro⟨_,x⟩
 rw[hp,Int.toNat_natCast] at x
 rcases x with x|x
 .omega
 .exact h x
theorem Oi{st:Nat->Bool}{c:Nat->Int}{k p:Nat}(hs:st k=false)(hp:iH st c k=(p:Int))(h:c k<c p):iH st c (k+1)=(k:Int):=by
 rw[iH,if_pos ⟨hs,.inr (by rw[hp,Int.toNat_natCast];exact h)⟩]
theorem JK{st:Nat->Bool}{c:Nat->Int}{k:Nat}(hs:st k=false)(hp:iH st c k= -1):iH st c (k+1)=(k:Int):=by
 rw[iH,if_pos ⟨hs,.inl (by omega)⟩]
def gX(p:Nat)(s:(Nat->Int)×(Nat->Int))(x:Int×Int):(Nat->Int)×(Nat->Int):=
 if s.1 p+x.2<s.1 x.1.toNat then(upd s.1 x.1.toNat (s.1 p+x.2),upd s.2 x.1.toNat (p:Int)) else s
structure Col where
 st:Nat->Bool
 c:Nat->Int
 f:Nat->Int
def uV(R:List aV)(N:Nat)(s:Col):Col:=
 let p:=(iH s.st s.c N).toNat
 let cf:=(mV R (p:Int)).foldl (gX p) (s.c,s.f)
 ⟨upd s.st p true,cf.1,cf.2⟩
def xX(N g:Nat):Col:=
 ⟨λ_=>false,λn=>if n=g then 0 else if n<N then 1048576 else 0,λn=>if n=g then(g:Int) else 0⟩
def iq(R:List aV)(N g:Nat):Nat->Col
 |0=>xX N g
 |i+1=>uV R N (iq R N g i)
def tm(R:List aV)(N n g:Nat):Int:=if g<N then(iq R N g N).c n else 0
def fs(R:List aV)(N n g:Nat):Int:=if g<N then(iq R N g N).f n else 0
structure jN(N:Nat)(r:aV):Prop where
 a0:0<=r.f0
 a1:r.f0<N
 b0:0<=r.f1
 b1:r.f1<N
 ne:r.f0≠r.f1
 lo:1<=r.f2.f0
 le:r.f2.f0<=r.f2.f1
 hi:r.f2.f1<=50
theorem QL{N:Nat}{n:Int}{r:aV}(h:jN N r){x:Int×Int}(hx:zM n r=some x):0<=x.1/\x.1<N/\x.1≠n/\1<=x.2/\x.2<=50:=by
 unfold zM at hx
 have h1:=h.a0;have h2:=h.a1;have h3:=h.b0;have h4:=h.b1;have h5:=h.ne;have h6:=h.lo;have h7:=h.le;have h8:=h.hi
 by_cases p0:n=r.f0
 .rw[if_pos p0,if_pos h3] at hx
  obtain rfl:=Option.some.inj hx
  subst p0
  exact⟨h3,h4,λe=>h5 e.symm,by simp only;omega,h8⟩
 .rw[if_neg p0] at hx
  by_cases p1:n=r.f1
  .rw[if_pos p1,if_pos h1] at hx
   obtain rfl:=Option.some.inj hx
   subst p1
   exact⟨h1,h2,h5,by simp only;omega,h8⟩
  .rw[if_neg p1] at hx
   cases hx
theorem xy{N:Nat}{n:Int}{R:List aV}(h:∀r ∈ R,jN N r):∀x ∈ mV R n,0<=x.1/\x.1<N/\x.1≠n/\1<=x.2/\x.2<=50:=by
 intro x hx
 obtain⟨r,hr,he⟩:=List.mem_filterMap.1 hx
 exact QL (h r hr) he
def Bounded(c:Nat->Int):Prop:=∀n,0<=c n/\c n<=1048576
theorem vF{p:Nat}{s:(Nat->Int)×(Nat->Int)}{x:Int×Int}(hs:Bounded s.1)(hx:1<=x.2):Bounded (gX p s x).1:=by
 intro n
 unfold gX
 by_cases h:s.1 p+x.2<s.1 x.1.toNat
 .rw[if_pos h]
  simp only[upd]
  by_cases e:n=x.1.toNat
  .rw[if_pos e]
   have h1:=hs p
   have h2:=hs x.1.toNat
   omega
  .rw[if_neg e]
   exact hs n
 .rw[if_neg h]
  exact hs n
theorem sZ(N g:Nat):Bounded (xX N g).c:=by
 intro n
 simp only[xX]
 by_cases h:n=g
 .rw[if_pos h];omega
 .rw[if_neg h]
  by_cases h':n<N
  .rw[if_pos h'];omega
  .rw[if_neg h'];omega
theorem vI{p:Nat}(l:List (Int×Int)):∀(s:(Nat->Int)×(Nat->Int)),Bounded s.1->(∀x ∈ l,1<=x.2)->Bounded (l.foldl (gX p) s).1:=by
 induction l with
 |nil=>exact λs hs _=>hs
 |cons x l ih=>
  intro s hs hl
  rw[List.foldl_cons]
  exact ih _ (vF hs (hl x List.mem_cons_self)) (λy hy=>hl y (List.mem_cons_of_mem _ hy))
theorem vL{R:List aV}{N:Nat}(hR:∀r ∈ R,jN N r)(g i:Nat):Bounded (iq R N g i).c:=by
 induction i with
 |zero=>exact sZ N g
 |succ i ih=>
  simp only[iq,uV]
  exact vI _ _ ih (λx hx=>(xy hR x hx).2.2.2.1)
def open_(st:Nat->Bool)(N:Nat):Nat:=((List.range N).filter λn=>!st n).length
theorem Ot(st:Nat->Bool)(N p:Nat)(hp:p<N)(hs:st p=false):open_ (upd st p true) N+1=open_ st N:=by
 unfold open_
 induction N with
 |zero=>omega
 |succ N ih=>
  rw[List.range_succ,List.filter_append,List.filter_append,List.length_append,List.length_append]
  by_cases e:p=N
  .subst e
   have h1:(List.range p).filter (λn=>!upd st p true n)=(List.range p).filter (λn=>!st n):=by
    apply List.filter_congr
    intro x hx
    rw[jF _ _ _ _ (by have:=List.mem_range.1 hx;omega)]
   rw[h1]
   simp[upd_same,hs]
  .have:=ih (by omega)
   have h2:(upd st p true) N=st N:=jF _ _ _ _ (by omega)
   have h3:(List.filter (λn=>!upd st p true n) [N]).length=(List.filter (λn=>!st n) [N]).length:=by
    simp only[List.filter_cons,List.filter_nil,h2]
   omega
theorem He(st:Nat->Bool)(N:Nat)(h:∀j,j<N->st j=true):open_ st N=0:=by
 unfold open_
 rw[List.length_eq_zero_iff,List.filter_eq_nil_iff]
 intro a ha
 simp[h a (List.mem_range.1 ha)]
theorem QH(N:Nat):open_ (λ_=>false) N=N:=by
 unfold open_
 rw[List.filter_eq_self.2 (by intros;rfl),List.length_range]
theorem Cg(R:List aV)(N g:Nat):∀i,i<=N->open_ (iq R N g i).st N=N-i
 |0,_=>QH N
 |i+1,h=>by
  have ih:=Cg R N g i (by omega)
  rcases rU (iq R N g i).st (iq R N g i).c N with⟨h1,h2⟩|⟨p,h1,h2,h3⟩
  .have:=He _ N h2
   omega
  .have:=Ot _ N p h2 h3
   simp only[iq,uV]
   rw[h1,Int.toNat_natCast]
   omega
theorem Cf(R:List aV)(N g i:Nat)(hi:i<N):∃p:Nat,iH (iq R N g i).st (iq R N g i).c N=(p:Int)/\p<N/\(iq R N g i).st p=false:=by
 rcases rU (iq R N g i).st (iq R N g i).c N with⟨h1,h2⟩|h
 .have h3:=He _ N h2
  have h4:=Cg R N g i (by omega)
  omega
 .exact h
def places(s:Nat):List Nat:=(List.range 8).filter (λn=>s.testBit n)
def fM(s n:Nat):Nat:=if s.testBit n then s-2^n else s
theorem QQ:∀s:Fin 256,bU.f 9 (s.1:Int)=some ((places s.1).map (λn:Nat=>(n:Int))):=by decide +kernel
theorem Rz:∀s:Fin 256,∀n:Fin 8,Go.bits .andNot .i64 (s.1:Int) (wrap64 (2^n.1))=(fM s.1 n.1:Int):=by decide +kernel
theorem EX{s:Nat}(h:s<256):bU.f 9 (s:Int)=some ((places s).map (λn:Nat=>(n:Int))):=QQ ⟨s,h⟩
theorem M3{s n:Nat}(h:s<256)(hn:n<8):Go.bits .andNot .i64 (s:Int) (wrap64 (2^n))=(fM s n:Int):=Rz ⟨s,h⟩ ⟨n,hn⟩
theorem kC{s n:Nat}:n ∈ places s↔n<8/\s.testBit n=true:=by
 unfold places
 rw[List.mem_filter,List.mem_range]
theorem Bj(s:Nat):(places s).length<=8:=by
 have:=List.length_filter_le (λn=>s.testBit n) (List.range 8)
 rwa [List.length_range] at this
theorem xV{s n:Nat}(h:n ∈ places s):fM s n<s:=by
 have hb:=(kC.1 h).2
 unfold fM
 rw[if_pos hb]
 have h1:0<2^n:=Nat.two_pow_pos n
 have h2:s≠0:=by
  rintro rfl
  simp at hb
 omega
def oz(T:Nat->Nat->Int)(g:Nat->Nat->Int×Int)(at_ left:Nat)(RS:Int×Int)(n:Nat):Int×Int:=
 if T at_ n+(g n (fM left n)).1<RS.1 then(T at_ n+(g n (fM left n)).1,(n:Int)) else RS
def iE(T:Nat->Nat->Int):Nat->Nat->Nat->Int×Int
 |0,at_,_=>(T at_ 0,0)
 |f+1,at_,left=>if left=0 then(T at_ 0,0) else(places left).foldl (oz T (iE T f) at_ left) (1048576,-1)
def rest(T:Nat->Nat->Int)(at_ left:Nat):Int×Int:=iE T left at_ left
theorem foldl_congr{α β:Type}{f g:β->α->β}(l:List α):∀(b:β),(∀b x,x ∈ l->f b x=g b x)->l.foldl f b=l.foldl g b:=by
 induction l with
 |nil=>intros;rfl
 |cons x l ih=>
  intro b h
  rw[List.foldl_cons,List.foldl_cons,h b x List.mem_cons_self]
  exact ih _ (λb y hy=>h b y (List.mem_cons_of_mem _ hy))
theorem Bb(T:Nat->Nat->Int):∀(f g at_ left:Nat),left<=f->left<=g->iE T f at_ left=iE T g at_ left
 |0,0,_,_,_,_=>rfl
 |0,g+1,at_,left,h,_=>by
  obtain rfl:left=0:=by omega
  simp[iE]
 |f+1,0,at_,left,_,h=>by
  obtain rfl:left=0:=by omega
  simp[iE]
 |f+1,g+1,at_,left,h,h'=>by
  unfold iE
  by_cases e:left=0
  .rw[if_pos e,if_pos e]
  .rw[if_neg e,if_neg e]
   refine foldl_congr _ _ (λb n hn=>?_)
   unfold oz
   have:=xV hn
   rw[Bb T f g n (fM left n) (by omega) (by omega)]
theorem Ba(T:Nat->Nat->Int)(at_ left:Nat)(h:left≠0):rest T at_ left=(places left).foldl (oz T (rest T) at_ left) (1048576,-1):=by
 obtain⟨f,rfl⟩:∃f,left=f+1:=⟨left-1,by omega⟩
 unfold rest
 rw[iE,if_neg h]
 refine foldl_congr _ _ (λb n hn=>?_)
 unfold oz
 have:=xV hn
 rw[Bb T f (fM (f+1) n) n (fM (f+1) n) (by omega) (Nat.le_refl _)]
def kL(T:Nat->Nat->Int):Prop:=∀i j,0<=T i j/\T i j<=1048576
def Xc(T:Nat->Nat->Int)(at_ left:Nat)(l:List Nat)(b:Int×Int):Prop:=
 0<=b.1/\b.1<=1048576/\(b.1<1048576->∃n,n ∈ l/\b.2=(n:Int)/\T at_ n+(rest T n (fM left n)).1=b.1)
theorem wG{T:Nat->Nat->Int}(hT:kL T)(at_ left:Nat)(hr:∀n,n ∈ places left->0<=(rest T n (fM left n)).1):∀(l pre:List Nat) (b:Int×Int),(∀n,n ∈ l->n ∈ places left)->Xc T at_ left pre b->Xc T at_ left (pre++l) (l.foldl (oz T (rest T) at_ left) b)
 |[],pre,b,_,h=>by simpa using h
 |n::l,pre,b,hl,h=>by
  rw[List.foldl_cons,show pre++n::l=(pre++[n])++l by simp]
  refine wG hT at_ left hr l (pre++[n]) _ (λm hm=>hl m (List.mem_cons_of_mem _ hm)) ?_
  unfold oz
  obtain⟨h1,h2,h3⟩:=h
  have h4:=hr n (hl n List.mem_cons_self)
  have h5:=hT at_ n
  by_cases e:T at_ n+(rest T n (fM left n)).1<b.1
  .rw[if_pos e]
   exact⟨by simp only;omega,by simp only;omega,λ_=>⟨n,by simp,rfl,rfl⟩⟩
  .rw[if_neg e]
   refine⟨h1,h2,λh=>?_⟩
   obtain⟨m,hm,hm2⟩:=h3 h
   exact⟨m,by simp[hm],hm2⟩
theorem Mo{T:Nat->Nat->Int}(hT:kL T):∀(k left at_:Nat),left<=k->0<=(rest T at_ left).1/\(rest T at_ left).1<=1048576
 |0,left,at_,h=>by
  obtain rfl:left=0:=by omega
  exact hT at_ 0
 |k+1,left,at_,h=>by
  by_cases e:left=0
  .subst e;exact hT at_ 0
  .rw[Ba T at_ left e]
   have:=wG hT at_ left (λn hn=>(Mo hT k _ n (by have:=xV hn;omega)).1) (places left) [] (1048576,-1) (λ_ h=>h) ⟨by simp only;omega,by simp only;omega,λh=>by simp at h⟩
   exact⟨this.1,this.2.1⟩
theorem jT{T:Nat->Nat->Int}(hT:kL T)(at_ left:Nat):0<=(rest T at_ left).1/\(rest T at_ left).1<=1048576:=Mo hT left left at_ (Nat.le_refl _)
theorem N9{T:Nat->Nat->Int}(hT:kL T)(at_ left:Nat)(h0:left≠0)(h:(rest T at_ left).1<1048576):∃n,n ∈ places left/\(rest T at_ left).2=(n:Int)/\T at_ n+(rest T n (fM left n)).1=(rest T at_ left).1:=by
 have:=wG hT at_ left (λn hn=>(jT hT n _).1) (places left) [] (1048576,-1) (λ_ h=>h) ⟨by simp only;omega,by simp only;omega,λh=>by simp at h⟩
 rw[<- Ba T at_ left h0] at this
 simpa using this.2.2 h
def tZ(T:Nat->Nat->Int)(at_ left k:Nat):Int×Int:=((places left).take k).foldl (oz T (rest T) at_ left) (1048576,-1)
theorem J8(T:Nat->Nat->Int)(at_ left k:Nat)(h:k<(places left).length):tZ T at_ left (k+1)=oz T (rest T) at_ left (tZ T at_ left k) ((places left)[k]):=by
 unfold tZ
 rw[List.take_succ_eq_append_getElem h,List.foldl_append]
 rfl
theorem Ox(T:Nat->Nat->Int)(at_ left:Nat)(h:left≠0):tZ T at_ left (places left).length=rest T at_ left:=by
 unfold tZ
 rw[List.take_length,Ba T at_ left h]
theorem jo{R:List aV}{N:Nat}(hR:∀r ∈ R,jN N r):kL (tm R N):=by
 intro i j
 unfold tm
 by_cases h:j<N
 .rw[if_pos h]
  exact vL hR j N i
 .rw[if_neg h]
  omega
end Go.Proofs.YtkjoilgpmngndaaGreat.Wk
namespace Go.Proofs.YtkjoilgpmngndaaGreat.Wk
open Go.RowKit Go.Shelf au YtkjoilgpmngndaaGreatW.aj YtkjoilgpmngndaaGreatW.aJ
attribute [local go_sem] Oper.semAt_some
def yH(T:Nat->Nat->Int)(i j:Nat)(v:Int):Nat->Nat->Int:=λa b=>if a=i/\b=j then v else T a b
structure CU(w:World)(ga:Nat)(vW vR:Value)(T F:Nat->Nat->Int)(mb:Nat):Prop where
 blk:∃cs:Array Value,w.heap[ga]?=some (.cells cs 156 (0,0))/\cs.size=131/\cs[0]?=some vW/\cs[1]?=some vR/\cs[130]?=some (.map (some mb)) /\
  (∀i j,i<8->j<8->cs[2+i*8+j]?=some (.int .i64 (T i j))/\cs[66+i*8+j]?=some (.int .i64 (F i j)))
theorem CU.move{w w':World}{ga:Nat}{vW vR:Value}{T F:Nat->Nat->Int}{mb:Nat}(h:CU w ga vW vR T F mb)(e:w'.heap[ga]?=w.heap[ga]?):CU w' ga vW vR T F mb:=by
 obtain⟨cs,h0,h1⟩:=h.blk
 exact⟨cs,e.trans h0,h1⟩
theorem CU.lt{w:World}{ga:Nat}{vW vR:Value}{T F:Nat->Nat->Int}{mb:Nat}(h:CU w ga vW vR T F mb):ga<w.heap.size:=by
 obtain⟨cs,h0,h1⟩:=h.blk
 exact iC h0
theorem CU.time{w:World}{ga:Nat}{vW vR:Value}{T F:Nat->Nat->Int}{mb:Nat}(h:CU w ga vW vR T F mb){i j:Nat}(hi:i<8)(hj:j<8):w.cell? ⟨ga,2+i*8+j,none⟩=some (.int .i64 (T i j)):=by
 obtain⟨cs,h0,h1,h2,h3,h4,h5⟩:=h.blk
 rw[aA h0]
 exact(h5 i j hi hj).1
theorem CU.first{w:World}{ga:Nat}{vW vR:Value}{T F:Nat->Nat->Int}{mb:Nat}(h:CU w ga vW vR T F mb){i j:Nat}(hi:i<8)(hj:j<8):w.cell? ⟨ga,66+i*8+j,none⟩=some (.int .i64 (F i j)):=by
 obtain⟨cs,h0,h1,h2,h3,h4,h5⟩:=h.blk
 rw[aA h0]
 exact(h5 i j hi hj).2
theorem CU.map{w:World}{ga:Nat}{vW vR:Value}{T F:Nat->Nat->Int}{mb:Nat}(h:CU w ga vW vR T F mb):w.cell? ⟨ga,0,none⟩=some vW/\w.cell? ⟨ga,1,none⟩=some vR/\w.cell? ⟨ga,130,none⟩=some (.map (some mb)):=by
 obtain⟨cs,h0,h1,h2,h3,h4,h5⟩:=h.blk
 rw[aA h0,aA h0,aA h0]
 exact⟨h2,h3,h4⟩
theorem CU.frozen{w:World}{ga:Nat}{vW vR:Value}{T F:Nat->Nat->Int}{mb:Nat}(h:CU w ga vW vR T F mb)(o:Nat):w.frozen? ⟨ga,o,none⟩=false:=by
 obtain⟨cs,h0,h1⟩:=h.blk
 exact aD h0 o
theorem CU.xn{w:World}{ga:Nat}{vW vR:Value}{T F:Nat->Nat->Int}{mb:Nat}(h:CU w ga vW vR T F mb){i j:Nat}(hi:i<8)(hj:j<8)(v:Int):CU (w.setCell ⟨ga,2+i*8+j,none⟩ (.int .i64 v)) ga vW vR (yH T i j v) F mb:=by
 obtain⟨cs,h0,h1,h2,h3,h4,h5⟩:=h.blk
 refine⟨cs.setIfInBounds (2+i*8+j) (.int .i64 v),df h0 _ _,by simp[h1],?_,?_,?_,λa b ha hb=>⟨?_,?_⟩⟩
 .rw[Array.getElem?_setIfInBounds_ne (by omega)];exact h2
 .rw[Array.getElem?_setIfInBounds_ne (by omega)];exact h3
 .rw[Array.getElem?_setIfInBounds_ne (by omega)];exact h4
 .unfold yH
  by_cases e:a=i/\b=j
  .rw[if_pos e,e.1,e.2,Array.getElem?_setIfInBounds_self_of_lt (by omega)]
  .rw[if_neg e,Array.getElem?_setIfInBounds_ne (by
    intro e'
    exact e (by omega))]
   exact(h5 a b ha hb).1
 .rw[Array.getElem?_setIfInBounds_ne (by omega)]
  exact(h5 a b ha hb).2
theorem CU.NZ{w:World}{ga:Nat}{vW vR:Value}{T F:Nat->Nat->Int}{mb:Nat}(h:CU w ga vW vR T F mb){i j:Nat}(hi:i<8)(hj:j<8)(v:Int):CU (w.setCell ⟨ga,66+i*8+j,none⟩ (.int .i64 v)) ga vW vR T (yH F i j v) mb:=by
 obtain⟨cs,h0,h1,h2,h3,h4,h5⟩:=h.blk
 refine⟨cs.setIfInBounds (66+i*8+j) (.int .i64 v),df h0 _ _,by simp[h1],?_,?_,?_,λa b ha hb=>⟨?_,?_⟩⟩
 .rw[Array.getElem?_setIfInBounds_ne (by omega)];exact h2
 .rw[Array.getElem?_setIfInBounds_ne (by omega)];exact h3
 .rw[Array.getElem?_setIfInBounds_ne (by omega)];exact h4
 .rw[Array.getElem?_setIfInBounds_ne (by omega)]
  exact(h5 a b ha hb).1
 .unfold yH
  by_cases e:a=i/\b=j
  .rw[if_pos e,e.1,e.2,Array.getElem?_setIfInBounds_self_of_lt (by omega)]
  .rw[if_neg e,Array.getElem?_setIfInBounds_ne (by
    intro e'
    exact e (by omega))]
   exact(h5 a b ha hb).2
def Bools(w:World)(g:Nat)(st:Nat->Bool):Prop:=∃cs:Array Value,w.heap[g]?=some (.cells cs 197 (0,0))/\cs.size=8/\∀i,i<8->cs[i]?=some (.bool (st i))
theorem Bools.move{w w':World}{g:Nat}{st:Nat->Bool}(h:Bools w g st)(e:w'.heap[g]?=w.heap[g]?):Bools w' g st:=by
 obtain⟨cs,h0,h1⟩:=h
 exact⟨cs,e.trans h0,h1⟩
theorem Bools.lt{w:World}{g:Nat}{st:Nat->Bool}(h:Bools w g st):g<w.heap.size:=by
 obtain⟨cs,h0,h1⟩:=h
 exact iC h0
theorem Bools.at_{w:World}{g:Nat}{st:Nat->Bool}(h:Bools w g st){i:Nat}(hi:i<8):w.cell? ⟨g,i,none⟩=some (.bool (st i)):=by
 obtain⟨cs,h0,h1,h2⟩:=h
 rw[aA h0]
 exact h2 i hi
theorem Bools.frozen{w:World}{g:Nat}{st:Nat->Bool}(h:Bools w g st)(o:Nat):w.frozen? ⟨g,o,none⟩=false:=by
 obtain⟨cs,h0,h1⟩:=h
 exact aD h0 o
theorem Bools.set{w:World}{g:Nat}{st:Nat->Bool}(h:Bools w g st){i:Nat}(hi:i<8)(b:Bool):Bools (w.setCell ⟨g,i,none⟩ (.bool b)) g (upd st i b):=by
 obtain⟨cs,h0,h1,h2⟩:=h
 refine⟨cs.setIfInBounds i (.bool b),df h0 _ _,by simp[h1],λj hj=>?_⟩
 unfold upd
 by_cases e:j=i
 .rw[if_pos e,e,Array.getElem?_setIfInBounds_self_of_lt (by omega)]
 .rw[if_neg e,Array.getElem?_setIfInBounds_ne (λx=>e x.symm)]
  exact h2 j hj
theorem aR.move{w w':World}{g:Nat}{cs:List Value}{t:TypeId}(h:aR w g cs t)(e:w'.heap[g]?=w.heap[g]?):aR w' g cs t:=e.trans h
theorem aR.set1{w:World}{g:Nat}{v:Value}{t:TypeId}(h:aR w g [v] t)(u:Value):aR (w.setCell ⟨g,0,none⟩ u) g [u] t:=by
 have:=df h 0 u
 exact this
def Marks(lo:Nat)(W:World):List Deferred->Prop
 |[]=>True
 |d::ds=>(∃D,d={target:= .collected D,args:=#[]}/\lo<=D/\W.heap[D]?=some (.deferred (some []))/\∀d' ∈ ds,d'.target≠ .collected D)/\Marks lo W ds
def wL(F:Fence)(n:Nat)(P:Program)(fn:Func)(R:Ending->World->Prop):Exit->Act->World->Prop
 | .normal,a,w | .ret,a,w=>LeavesInM F n P fn a.tmps R a.defers .returning w
 |_,_,_=>False
theorem dS{P:Program}{F:Fence}{n:Nat}{f:FuncId}{fn:Func}{c:Code}{args:Array Value}{w:World}{R:Ending->World->Prop}
  (hf:P.funcs[f]?=some fn) (hb:fn.body=some c) (hF:F.fn f)
  (h:c.wpIn F n P (wL F n P fn R) {tmps:=args++Array.replicate (fn.ntmps-args.size) undef,defers:=[]} w) (hro:F.round=none:=by rfl):CallsIn F n P f args w R:=
 callsIn_of_wp_marks hf hb hF (wpIn_mono h (λe a w hq=>by cases e<;>first|exact hq|exact hq.elim)) hro
def fE(T:Nat->Nat->Int)(k:Nat)(c:Nat->Int):Nat->Nat->Int:=λn j=>if j=k then c n else T n j
theorem nG(T:Nat->Nat->Int)(k:Nat)(c:Nat->Int)(n:Nat)(v:Int):yH (fE T k c) n k v=fE T k (upd c n v):=by
 funext a b
 unfold yH fE upd
 by_cases h1:a=n<;>by_cases h2:b=k<;>simp[h1,h2]
theorem rM(T:Nat->Nat->Int)(k:Nat)(c:Nat->Int)(n:Nat):fE T k c n k=c n:=by simp[fE]
theorem AR(T:Nat->Nat->Int)(k:Nat)(c:Nat->Int)(h:∀n,T n k=c n):fE T k c=T:=by
 funext a b
 unfold fE
 by_cases e:b=k
 .rw[if_pos e,e,h]
 .rw[if_neg e]
structure AW(w wr:World)(gm mb ga gv:Nat)(vW vR:Value)(T F:Nat->Nat->Int):Prop where
 below:Below w.heap.size w wr
 m:aR wr gm [vW,vR] 78
 v:aR wr gv [.pointer (some ⟨ga,0,none⟩)] 151
 hm:wr.heap[mb]?=some (.map #[] 0)
 eZ:CU wr ga vW vR T F mb
 lo:w.heap.size<=gm
 l1:gm<mb
 l2:mb<ga
 l3:ga<gv
section
variable {w wr:World} {gm mb ga gv:Nat} {vW vR:Value} {T F:Nat->Nat->Int}
theorem AW.alloc(h:AW w wr gm mb ga gv vW vR T F)(o:Obj):AW w (wr.alloc o) gm mb ga gv vW vR T F:=
 ⟨ae h.below o,h.m.alloc o,h.v.alloc o,ay h.hm o,h.eZ.move (Below.heap_alloc wr o ga h.eZ.lt),h.lo,h.l1,h.l2,h.l3⟩
theorem AW.drewN(h:AW w wr gm mb ga gv vW vR T F)(n:Nat):AW w (wr.drewN n) gm mb ga gv vW vR T F:=⟨ag h.below n,h.m,h.v,h.hm,h.eZ.move rfl,h.lo,h.l1,h.l2,h.l3⟩
theorem AW.drew(h:AW w wr gm mb ga gv vW vR T F):AW w wr.drew gm mb ga gv vW vR T F:=⟨aM h.below,h.m,h.v,h.hm,h.eZ.move rfl,h.lo,h.l1,h.l2,h.l3⟩
theorem AW.acG(h:AW w wr gm mb ga gv vW vR T F):gv<wr.heap.size:=h.v.lt
theorem AW.other(h:AW w wr gm mb ga gv vW vR T F){p:Addr}(hp:gv<p.block)(u:Value):AW w (wr.setCell p u) gm mb ga gv vW vR T F:=by
 have h0:=h.lo;have h1:=h.l1;have h2:=h.l2;have h3:=h.l3
 exact⟨h.below.setCell (by omega) u,h.m.move (Below.heap_setCell _ _ _ _ (by omega)),h.v.move (Below.heap_setCell _ _ _ _ (by omega)),(Below.heap_setCell _ _ _ _ (by omega)).trans h.hm,h.eZ.move (Below.heap_setCell _ _ _ _ (by omega)),h.lo,h.l1,h.l2,h.l3⟩
theorem AW.xn(h:AW w wr gm mb ga gv vW vR T F){i j:Nat}(hi:i<8)(hj:j<8)(v:Int):AW w (wr.setCell ⟨ga,2+i*8+j,none⟩ (.int .i64 v)) gm mb ga gv vW vR (yH T i j v) F:=by
 have h0:=h.lo;have h1:=h.l1;have h2:=h.l2;have h3:=h.l3
 exact⟨h.below.setCell (by simp only;omega) _,h.m.move (Below.heap_setCell _ _ _ _ (by simp only;omega)),h.v.move (Below.heap_setCell _ _ _ _ (by simp only;omega)),(Below.heap_setCell _ _ _ _ (by simp only;omega)).trans h.hm,h.eZ.xn hi hj v,h.lo,h.l1,h.l2,h.l3⟩
theorem AW.NZ(h:AW w wr gm mb ga gv vW vR T F){i j:Nat}(hi:i<8)(hj:j<8)(v:Int):AW w (wr.setCell ⟨ga,66+i*8+j,none⟩ (.int .i64 v)) gm mb ga gv vW vR T (yH F i j v):=by
 have h0:=h.lo;have h1:=h.l1;have h2:=h.l2;have h3:=h.l3
 exact⟨h.below.setCell (by simp only;omega) _,h.m.move (Below.heap_setCell _ _ _ _ (by simp only;omega)),h.v.move (Below.heap_setCell _ _ _ _ (by simp only;omega)),(Below.heap_setCell _ _ _ _ (by simp only;omega)).trans h.hm,h.eZ.NZ hi hj v,h.lo,h.l1,h.l2,h.l3⟩
end
def TT(R:List aV)(N k:Nat):Nat->Nat->Int:=λn j=>if j<k then(iq R N j N).c n else 0
def FF(R:List aV)(N k:Nat):Nat->Nat->Int:=λn j=>if j<k then(iq R N j N).f n else 0
theorem Vm(R:List aV)(N k:Nat):fE (TT R N k) k (iq R N k N).c=TT R N (k+1):=by
 funext a b
 unfold fE TT
 by_cases e:b=k
 .subst e;simp
 .rw[if_neg e]
  by_cases h:b<k
  .rw[if_pos h,if_pos (by omega)]
  .rw[if_neg h,if_neg (by omega)]
theorem VL(R:List aV)(N k:Nat):fE (FF R N k) k (iq R N k N).f=FF R N (k+1):=by
 funext a b
 unfold fE FF
 by_cases e:b=k
 .subst e;simp
 .rw[if_neg e]
  by_cases h:b<k
  .rw[if_pos h,if_pos (by omega)]
  .rw[if_neg h,if_neg (by omega)]
theorem XB:Tryz.zeroCells156.size=131/\(∀i,i<128->Tryz.zeroCells156[2+i]?=some (.int .i64 0)):=by
 constructor
 .kernel_rfl
 .intro i hi
  have:∀i:Fin 128,(Tryz.zeroCells156[2+i.1]?.map λv=>match v with | .int .i64 0=>true|_=>false)=some true:=by decide +kernel
  have h:=this ⟨i,hi⟩
  simp only at h
  cases hv:Tryz.zeroCells156[2+i]? with
  |none=>rw[hv] at h;cases h
  |some v=>
   rw[hv] at h
   simp only[Option.map_some,Option.some.injEq] at h
   split at h
   .rfl
   .cases h
theorem Vf(W:World)(vW vR:Value)(mb:Nat)(R:List aV)(N:Nat)(hv:vW.oneCell'=true):
  CU (W.alloc (.cells (((Tryz.zeroCells156.setIfInBounds 0 vW).setIfInBounds 1 vR).setIfInBounds 130 (.map (some mb))) 156)) W.heap.size vW vR (TT R N 0) (FF R N 0) mb:=by
 obtain⟨z1,z2⟩:=XB
 refine⟨_,heap_alloc_new W _,by simp[z1],?_,?_,?_,λi j hi hj=>⟨?_,?_⟩⟩
 .rw[Array.getElem?_setIfInBounds_ne (by omega),Array.getElem?_setIfInBounds_ne (by omega),Array.getElem?_setIfInBounds_self_of_lt (by omega)]
 .rw[Array.getElem?_setIfInBounds_ne (by omega),Array.getElem?_setIfInBounds_self_of_lt (by simp[z1])]
 .rw[Array.getElem?_setIfInBounds_self_of_lt (by simp[z1])]
 .rw[Array.getElem?_setIfInBounds_ne (by omega),Array.getElem?_setIfInBounds_ne (by omega),Array.getElem?_setIfInBounds_ne (by omega),show 2+i*8+j=2+(i*8+j) from by omega,z2 _ (by omega)]
  simp[TT]
 .rw[Array.getElem?_setIfInBounds_ne (by omega),Array.getElem?_setIfInBounds_ne (by omega),Array.getElem?_setIfInBounds_ne (by omega),show 66+i*8+j=2+(64+i*8+j) from by omega,z2 _ (by omega)]
  simp[FF]
structure GW(w wr:World)(gm mb ga gv:Nat)(vW vR:Value)(T F:Nat->Nat->Int)(gg gs:Nat)(k:Nat)(st:Nat->Bool):Prop where
 aw:AW w wr gm mb ga gv vW vR T F
 goal:aR wr gg [.int .i64 (k:Int)] 3
 set:Bools wr gs st
 l4:gv<gg
 l5:gg<gs
section
variable {w wr:World} {gm mb ga gv:Nat} {vW vR:Value} {T F:Nat->Nat->Int} {gg gs k:Nat} {st:Nat->Bool}
theorem GW.alloc(h:GW w wr gm mb ga gv vW vR T F gg gs k st)(o:Obj):GW w (wr.alloc o) gm mb ga gv vW vR T F gg gs k st:=
 ⟨h.aw.alloc o,h.goal.alloc o,h.set.move (Below.heap_alloc wr o gs h.set.lt),h.l4,h.l5⟩
theorem GW.drewN(h:GW w wr gm mb ga gv vW vR T F gg gs k st)(n:Nat):GW w (wr.drewN n) gm mb ga gv vW vR T F gg gs k st:=⟨h.aw.drewN n,h.goal,h.set,h.l4,h.l5⟩
theorem GW.drew(h:GW w wr gm mb ga gv vW vR T F gg gs k st):GW w wr.drew gm mb ga gv vW vR T F gg gs k st:=⟨h.aw.drew,h.goal,h.set,h.l4,h.l5⟩
theorem GW.other(h:GW w wr gm mb ga gv vW vR T F gg gs k st){p:Addr}(hp:gs<p.block)(u:Value):GW w (wr.setCell p u) gm mb ga gv vW vR T F gg gs k st:=by
 have h4:=h.l4;have h5:=h.l5
 exact⟨h.aw.other (by omega) u,h.goal.move (Below.heap_setCell _ _ _ _ (by omega)),h.set.move (Below.heap_setCell _ _ _ _ (by omega)),h.l4,h.l5⟩
theorem GW.xn(h:GW w wr gm mb ga gv vW vR T F gg gs k st){i j:Nat}(hi:i<8)(hj:j<8)(v:Int):GW w (wr.setCell ⟨ga,2+i*8+j,none⟩ (.int .i64 v)) gm mb ga gv vW vR (yH T i j v) F gg gs k st:=by
 have h3:=h.aw.l3;have h4:=h.l4;have h5:=h.l5
 exact⟨h.aw.xn hi hj v,h.goal.move (Below.heap_setCell _ _ _ _ (by simp only;omega)),h.set.move (Below.heap_setCell _ _ _ _ (by simp only;omega)),h.l4,h.l5⟩
theorem GW.NZ(h:GW w wr gm mb ga gv vW vR T F gg gs k st){i j:Nat}(hi:i<8)(hj:j<8)(v:Int):GW w (wr.setCell ⟨ga,66+i*8+j,none⟩ (.int .i64 v)) gm mb ga gv vW vR T (yH F i j v) gg gs k st:=by
 have h3:=h.aw.l3;have h4:=h.l4;have h5:=h.l5
 exact⟨h.aw.NZ hi hj v,h.goal.move (Below.heap_setCell _ _ _ _ (by simp only;omega)),h.set.move (Below.heap_setCell _ _ _ _ (by simp only;omega)),h.l4,h.l5⟩
theorem GW.agz(h:GW w wr gm mb ga gv vW vR T F gg gs k st){i:Nat}(hi:i<8)(b:Bool):GW w (wr.setCell ⟨gs,i,none⟩ (.bool b)) gm mb ga gv vW vR T F gg gs k (upd st i b):=by
 have h4:=h.l4;have h5:=h.l5
 exact⟨h.aw.other (by simp only;omega) _,h.goal.move (Below.heap_setCell _ _ _ _ (by simp only;omega)),h.set.set hi b,h.l4,h.l5⟩
theorem GW.xe(h:GW w wr gm mb ga gv vW vR T F gg gs k st):wr.cell? ⟨gv,0,none⟩=some (.pointer (some ⟨ga,0,none⟩)):=by simpa using h.aw.v.cell 0
theorem GW.xO(h:GW w wr gm mb ga gv vW vR T F gg gs k st):wr.cell? ⟨gg,0,none⟩=some (.int .i64 (k:Int)):=by simpa using h.goal.cell 0
theorem GW.m0(h:GW w wr gm mb ga gv vW vR T F gg gs k st):wr.cell? ⟨gm,0,none⟩=some vW:=by simpa using h.aw.m.cell 0
theorem GW.m1(h:GW w wr gm mb ga gv vW vR T F gg gs k st):wr.cell? ⟨gm,1,none⟩=some vR:=by simpa using h.aw.m.cell 1
end
theorem O6(R:List aV)(N k:Nat):fE (TT R N k) k (λn=>if n<0 then 1048576 else 0)=TT R N k:=AR _ _ _ (λn=>by simp[TT])
theorem O7(R:List aV)(N k i:Nat):yH (fE (TT R N k) k (λn=>if n<i then 1048576 else 0)) i k 1048576=fE (TT R N k) k (λn=>if n<i+1 then 1048576 else 0):=by
 rw[nG]
 congr 1
 funext n
 unfold upd
 by_cases h:n=i
 .rw[if_pos h,if_pos (by omega)]
 .rw[if_neg h]
  by_cases h':n<i
  .simp only[if_pos h',if_pos (show n<i+1 by omega)]
  .simp only[if_neg h',if_neg (show ¬n<i+1 by omega)]
theorem RB(R:List aV)(N k:Nat):yH (fE (TT R N k) k (λn=>if n<N then 1048576 else 0)) k k 0=fE (TT R N k) k (iq R N k 0).c:=by
 rw[nG]
 congr 1
theorem O8(R:List aV)(N k:Nat):yH (FF R N k) k k (k:Int)=fE (FF R N k) k (iq R N k 0).f:=by
 have:FF R N k=fE (FF R N k) k (λ_=>0):=(AR _ _ _ (λn=>by simp[FF])).symm
 rw[this,nG]
 funext a b
 unfold fE
 by_cases e:b=k
 .rw[if_pos e,if_pos e];rfl
 .rw[if_neg e,if_neg e,if_neg e]
theorem Pn(W:World)(h:Tryz.prog.info? 4=Tryz.prog.info? 4):Bools (W.alloc (.cells #[.bool false,.bool false,.bool false,.bool false,.bool false,.bool false,.bool false,.bool false] 197)) W.heap.size (λ_=>false):=by
 refine⟨_,heap_alloc_new W _,rfl,λi hi=>?_⟩
 have:i=0\/i=1\/i=2\/i=3\/i=4\/i=5\/i=6\/i=7:=by omega
 rcases this with rfl|rfl|rfl|rfl|rfl|rfl|rfl|rfl<;>rfl
theorem Marks.move{lo:Nat}{W W':World}(hm:∀D:Nat,W.heap[D]?=some (Obj.deferred (some []))->W'.heap[D]?=some (Obj.deferred (some []))):∀{ds:List Deferred},Marks lo W ds->Marks lo W' ds
 |[],_=>trivial
 |_::_,⟨⟨D,h1,h2,h3,h4⟩,h5⟩=>⟨⟨D,h1,h2,hm D h3,h4⟩,Marks.move hm h5⟩
theorem Marks.alloc{lo:Nat}{W:World}{ds:List Deferred}(h:Marks lo W ds)(o:Obj):Marks lo (W.alloc o) ds:=Marks.move (λD hd=>ay hd o) h
theorem Marks.drewN{lo:Nat}{W:World}{ds:List Deferred}(h:Marks lo W ds)(n:Nat):Marks lo (W.drewN n) ds:=Marks.move (W:=W) (W':=W.drewN n) (λ_ hd=>hd) h
theorem Marks.drew{lo:Nat}{W:World}{ds:List Deferred}(h:Marks lo W ds):Marks lo W.drew ds:=Marks.move (W:=W) (W':=W.drew) (λ_ hd=>hd) h
theorem Marks.setCell{lo:Nat}{W:World}{ds:List Deferred}(h:Marks lo W ds)(p:Addr)(u:Value):Marks lo (W.setCell p u) ds:=by
 refine Marks.move (λD hd=>?_) h
 simp only[World.setCell,Array.getElem?_modify]
 by_cases e:p.block=D
 .rw[if_pos e,hd]
  rfl
 .rw[if_neg e]
  exact hd
def gY.Sd:Bool×List (List Nat×List Nat):=(true,[([],[]),([],[]),([],[]),([],[]),([],[]),([],[]),([],[]),([0],[0]),([7],[7]),([8,1],[1,8]),([9,2,0,1,2],[2,9]),([10,0,1,2],[10]),([3],[3]),([12],[12]),([13,4],[4,13]),([14,5,0,1,2,3,4,5,6,7,8,9,10,11],[5,14]),([15,6,11,0,1,2,3,4,5,6,7,8,9,10,11],[6,15])])
def gY.B11:List Nat:=[0,0,0,0,0,0,0,1,129,387,903,1927,8,4104,12312,32767,65535]
theorem gY.vE:dW .any (opsOf Tryz.f64 11)=gY.Sd:=by kernel_rfl
theorem gY.qH:bJ gY.Sd.2 gY.B11=true:=by kernel_rfl
def gY.T25:Bool×List (List Nat×List Nat):=(true,[([],[]),([],[]),([],[]),([0],[0]),([3],[3]),([4,1],[1,4]),([5,2],[2,5]),([6],[6]),([],[]),([7,8],[7,8]),([9,0,1,2,3,4,5,6,7,8,9],[9])])
def gY.yF:List Nat:=[0,0,0,1,9,27,63,127,0,511,1023]
theorem gY.aaZ:dW .any (opsOf Tryz.f64 25)=gY.T25:=by kernel_rfl
theorem gY.Zq:bJ gY.T25.2 gY.yF=true:=by kernel_rfl
def gY.T26:Bool×List (List Nat×List Nat):=(true,[([],[]),([],[]),([],[]),([],[]),([1],[1]),([4],[4]),([5,2],[2,5]),([6,3],[3,6]),([7],[7]),([0,8],[0,8])])
def gY.PT:List Nat:=[0,0,0,0,2,18,54,126,254,511]
theorem gY.V3:dW .any (opsOf Tryz.f64 26)=gY.T26:=by kernel_rfl
theorem gY.RO:bJ gY.T26.2 gY.PT=true:=by kernel_rfl
def gY.T27:Bool×List (List Nat×List Nat):=(true,[([],[]),([],[]),([],[]),([],[]),([],[]),([],[]),([],[]),([],[]),([0],[0]),([8],[8]),([9,1],[1,9]),([10,2,0,1,2,6],[2,10]),([11,6,0,1,2,6],[6,11]),([3],[3]),([13],[13]),([14,4],[4,14]),([15,5,0,1,2,3,4,5,6,7,8,9,10,11,12],[5,15]),([16,7,12,0,1,2,3,4,5,6,7,8,9,10,11,12],[7,16])])
def gY.B27:List Nat:=[0,0,0,0,0,0,0,0,1,257,771,1863,3911,8,8200,24600,65535,131071]
theorem gY.aaY:dW .any (opsOf Tryz.f64 27)=gY.T27:=by kernel_rfl
theorem gY.Zp:bJ gY.T27.2 gY.B27=true:=by kernel_rfl
end Go.Proofs.YtkjoilgpmngndaaGreat.Wk
namespace Go.Proofs.YtkjoilgpmngndaaGreat.Wk
open Go.RowKit Go.Shelf au YtkjoilgpmngndaaGreatW.aj YtkjoilgpmngndaaGreatW.aJ
def ow(ops:Array Oper):Bool:=ops.all λo=>match o.op with | .defer _=>false|_=>true
theorem rW{ops:Array Oper}(h:ow ops=true){i:Nat}{o:Oper}(ho:ops[i]?=some o)(c:Call):o.op≠ .defer c:=by
 intro e
 obtain⟨hi,he⟩:=Array.getElem?_eq_some_iff.1 ho
 unfold ow at h
 rw[Array.all_eq_true] at h
 have:=h i hi
 rw[he,e] at this
 cases this
theorem ky{r n:Nat}{P:Program}{o:Oper}{a:Act}{K K':Act->World->Prop}{Q:Exit->Act->World->Prop}(hK:∀a w,K a w->K' a w){x:Result Next}(h:o.upon P a K Q x):o.uponIn (Fence.wide.inRound r) n P a K' Q x:=by
 have hno:(Fence.wide.inRound r).depth.isSome=true->1<=n:=λe=>absurd e (by simp[Fence.wide])
 cases x with
 |ok v w'=>
  cases v with
  |value v=>exact hK _ _ h
  |skip=>exact hK _ _ h
  |defer d=>exact hK _ _ h
  |enter f args=>exact⟨hno,CallsIn.inRound r (callsIn_wide.2 (Calls.mono h (λe w'' he=>by cases e<;>first|exact hK _ _ he|exact he)))⟩
  |row row args=>exact⟨hno,λc cs _=>Exists.elim (h c cs) λv h'=>Exists.elim h' λw'' h''=>⟨v,w'',hK _ _ h''.1,stepsIn_wide.2 h''.2⟩⟩
  |_=>exact h.elim
 |halt o w'=>
  cases o with
  |panic v=>exact h
  |_=>exact h.elim
theorem fA{r n:Nat}{P:Program}{ops:Array Oper}{Q:Exit->Act->World->Prop}(hd:ow ops=true)(hQ:¬LetsOut Q):∀(l:List Nat) (a:Act) (w:World),wpOps P ops Q l a w->wpOpsIn (Fence.wide.inRound r) n P ops Q l a w
 |[],a,w,h=>h
 |i::rest,a,w,h=>by
  unfold wpOps at h
  unfold wpOpsIn
  cases ho:ops[i]? with
  |none=>
   rw[ho] at h
   exact fA hd hQ rest a w h
  |some o=>
   rw[ho] at h
   simp only at h ⊢
   by_cases hw:Region.wanted o (yielded ops a.tmps)=true
   .rw[if_pos hw] at h ⊢
    rcases h with h|h
    .refine⟨λ_ _=>trivial,?_⟩
     rw[Oper.semAt_eq _ _ _ (rW hd ho)]
     exact ky (fA hd hQ rest) h
    .exact absurd h.2 hQ
   .rw[if_neg hw] at h ⊢
    exact⟨λ_ _=>trivial,fA hd hQ rest _ w h⟩
theorem lG{r m id n:Nat}{P:Program}{ops:Array Oper}{Q:Exit->Act->World->Prop}{S:World->Prop}{ds:List Nat}{a:Act}{w:World}(hQ:¬LetsOut Q)(hd:ow ops=true)(l:Array Bool)(hm:P.follows .mixedOrders=true)(hn:ops.size=n)(hl:Array.replicate n false=l)(hS:S w.drew)
  (h:S w.drew->bC P .any ops Q S ds n l a w.drew):(Code.region id ops true).wpIn (Fence.wide.inRound r) m P Q a w:=by
 subst hn
 subst hl
 refine wpIn_region_draw λt=>fA hd hQ _ _ _ ?_
 simp only[Region.schedule,hm,Bool.true_or,if_true]
 exact wpAny_sound _ t _ a _ (ng _ _ _ _ (h hS))
theorem AW.kept{w wr W':World}{gm mb ga gv:Nat}{vW vR:Value}{T F:Nat->Nat->Int}(h:AW w wr gm mb ga gv vW vR T F){B:Nat}{row:Option Nat}(hB:gv<B)(hg:wr.grownBy W' row)(hr:∀r,row=some r->B<=r):AW w W' gm mb ga gv vW vR T F:=by
 have h0:=h.lo;have h1:=h.l1;have h2:=h.l2;have h3:=h.l3;have h4:=h.acG
 have hk:∀k,k<=gv->W'.heap[k]?=wr.heap[k]?:=λk hk=>hg.block k (by omega) (λe=>by have:=hr k e.symm;omega)
 exact⟨h.below.grown hg h.below.size (λk e=>by have:=hr k e;omega),h.m.move (hk _ (by omega)),h.v.move (hk _ (by omega)),(hk _ (by omega)).trans h.hm,h.eZ.move (hk _ (by omega)),h0,h1,h2,h3⟩
theorem GW.kept{w wr W':World}{gm mb ga gv:Nat}{vW vR:Value}{T F:Nat->Nat->Int}{gg gs k:Nat}{st:Nat->Bool}(h:GW w wr gm mb ga gv vW vR T F gg gs k st){B:Nat}{row:Option Nat}(hB:gs<B)(hg:wr.grownBy W' row)(hr:∀r,row=some r->B<=r):GW w W' gm mb ga gv vW vR T F gg gs k st:=by
 have h4:=h.l4;have h5:=h.l5;have h6:=h.set.lt
 have hk:∀k,k<=gs->W'.heap[k]?=wr.heap[k]?:=λk hk=>hg.block k (by omega) (λe=>by have:=hr k e.symm;omega)
 exact⟨h.aw.kept (B:=B) (by omega) hg hr,h.goal.move (hk _ (by omega)),h.set.move (hk _ (by omega)),h4,h5⟩
theorem aR.kept{wr W':World}{g:Nat}{cs:List Value}{t:TypeId}(h:aR wr g cs t){B:Nat}{row:Option Nat}(hB:g<B)(hg:wr.grownBy W' row)(hr:∀r,row=some r->B<=r):aR W' g cs t:=
 h.move (hg.block g h.lt (λe=>by have:=hr g e.symm;omega))
def gN(a b:World):Prop:=∀D:Nat,a.heap[D]?=some (Obj.deferred (some []))->b.heap[D]?=some (Obj.deferred (some []))
theorem gN.refl(a:World):gN a a:=λ_ h=>h
theorem gN.setCell{a b:World}(h:gN a b)(p:Addr)(u:Value):gN a (b.setCell p u):=λD hd=>(KeepsOthers.setCell b p u).same D _ (h D hd) rfl
theorem gN.drew{a b:World}(h:gN a b):gN a b.drew:=h
theorem gN.kept{a b c:World}(h:gN a b){B:Nat}{row:Option Nat}(hB:a.heap.size<=B)(hg:b.grownBy c row)(hr:∀r,row=some r->B<=r):gN a c:=λD hd=>by
 have h1:D<a.heap.size:=(Array.getElem?_eq_some_iff.1 hd).1
 have h2:D<b.heap.size:=(Array.getElem?_eq_some_iff.1 (h D hd)).1
 exact(hg.block D h2 (λe=>by have:=hr D e.symm;omega)).trans (h D hd)
theorem Marks.cons{lo:Nat}{a b:World}{ds:List Deferred}(h:Marks lo a ds)(hm:gN a b){D:Nat}(hD:a.heap.size<=D)(hlo:lo<=a.heap.size)(CX:b.heap[D]?=some (.deferred (some []))):Marks lo b ({target:= .collected D,args:=#[]}::ds):=by
 refine⟨⟨D,rfl,by omega,CX,?_⟩,Marks.move hm h⟩
 clear CX hm hlo
 induction ds with
 |nil=>exact λd hd=>by cases hd
 |cons d ds ih=>
  obtain⟨⟨D',rfl,h2,h3,h4⟩,h5⟩:=h
  have h6:D'<a.heap.size:=(Array.getElem?_eq_some_iff.1 h3).1
  intro d' hd'
  rcases List.mem_cons.1 hd' with rfl|hd'
  .simp only[ne_eq,Target.collected.injEq]
   omega
  .exact ih h5 d' hd'
theorem fK(W:World){D k:Nat}(o:Obj)(h:k≠D):(W.putObj D o).heap[k]?=W.heap[k]?:=World.putObj_heap_other h
theorem Marks.put{lo:Nat}{W:World}{D:Nat}(o:Obj):∀{ds:List Deferred},Marks lo W ds->(∀d' ∈ ds,d'.target≠ .collected D)->Marks lo (W.putObj D o) ds
 |[],_,_=>trivial
 |d::ds,⟨⟨D',h1,h2,h3,h4⟩,h5⟩,hd=>by
  refine⟨⟨D',h1,h2,?_,h4⟩,Marks.put o h5 (λd' hd'=>hd d' (List.mem_cons_of_mem _ hd'))⟩
  rw[fK W o (by rintro rfl;exact hd d List.mem_cons_self (by rw[h1]))]
  exact h3
theorem Marks.leaves{lo:Nat}{F:Fence}{n:Nat}{P:Program}{fn:Func}{tmps:Array Value}{R:Ending->World->Prop}{Inv:World->Prop}(hInv:∀(W:World) (D:Nat),lo<=D->W.heap[D]?=some (.deferred (some []))->Inv W->Inv (W.putObj D (.deferred none)))
  (hend:∀W,Inv W->LeavesIn F n P fn tmps R [] .returning W):∀(ds:List Deferred) (W:World),Marks lo W ds->Inv W->LeavesInM F n P fn tmps R ds .returning W
 |[],W,_,hi=>hend W hi
 |d::ds,W,⟨⟨D,h1,h2,h3,h4⟩,h5⟩,hi=>⟨by simp,.inl ⟨D,_,by rw[h1],run_takeDeferred h3,Marks.leaves hInv hend ds _ (h5.put _ h4) (hInv W D h2 h3 hi)⟩⟩
theorem AW.put{w wr:World}{gm mb ga gv:Nat}{vW vR:Value}{T F:Nat->Nat->Int}(h:AW w wr gm mb ga gv vW vR T F){D:Nat}(hlo:w.heap.size<=D)(hD:wr.heap[D]?=some (.deferred (some [])))(o:Obj):AW w (wr.putObj D o) gm mb ga gv vW vR T F:=by
 have hne:∀{k:Nat} {ob:Obj},wr.heap[k]?=some ob->ob≠ .deferred (some [])->(wr.putObj D o).heap[k]?=wr.heap[k]?:=λ{k ob} hk ho=>fK _ _ (by rintro rfl;rw[hk] at hD;exact ho (Option.some.inj hD))
 obtain⟨cs,h0,_⟩:=h.eZ.blk
 exact⟨h.below.grown (grownBy_putObj' wr D o) h.below.size (λk e=>by cases e;exact hlo),h.m.move (hne h.m (by simp)),h.v.move (hne h.v (by simp)),(hne h.hm (by simp)).trans h.hm,h.eZ.move (hne h0 (by simp)),h.lo,h.l1,h.l2,h.l3⟩
theorem Jv{p n:Nat}{s:(Nat->Int)×(Nat->Int)}{g:Int}(h:s.1 p+g<s.1 n):gX p s ((n:Int),g)=(upd s.1 n (s.1 p+g),upd s.2 n (p:Int)):=by
 unfold gX
 rw[Int.toNat_natCast,if_pos h]
theorem Ob{p n:Nat}{s:(Nat->Int)×(Nat->Int)}{g:Int}(h:¬s.1 p+g<s.1 n):gX p s ((n:Int),g)=s:=by
 unfold gX
 rw[Int.toNat_natCast,if_neg h]
def Lb(N:Nat)(x:Int×Int):Prop:=0<=x.1/\x.1<N/\1<=x.2/\x.2<=50
theorem Uc{N:Nat}{n:Int}{R:List aV}(h:∀r ∈ R,jN N r):∀r ∈ R,∀x,zM n r=some x->Lb N x:=λr hr x hx=>
 let ⟨h1,h2,_,h4,h5⟩:=QL (h r hr) hx
 ⟨h1,h2,h4,h5⟩
def after{N:Nat}(p:Nat)(c f:Nat->Int)(xs:List {x // Lb N x}):(Nat->Int)×(Nat->Int):=(xs.map (·.1)).foldl (gX p) (c,f)
theorem K3{N:Nat}(p:Nat)(c f:Nat->Int)(xs:List {x // Lb N x})(x:{x // Lb N x}):after p c f (xs++[x])=gX p (after p c f xs) x.1:=by
 unfold after
 rw[List.map_append,List.foldl_append]
 rfl
theorem DN{N:Nat}(p:Nat){c f:Nat->Int}(h:Bounded c)(xs:List {x // Lb N x}):Bounded (after p c f xs).1:=by
 unfold after
 refine vI _ _ h (λx hx=>?_)
 obtain⟨y,_,rfl⟩:=List.mem_map.1 hx
 exact y.2.2.2.1
theorem GK{A0:Option Addr}{c0:Nat}{Wk:List dP}{A1:Option Addr}{c1:Nat}{R:List aV}{w:World}(h:IsMap w A0 c0 Wk A1 c1 R)(h0:0<R.length):∀ad,A1=some ad->ad.block<w.heap.size:=by
 intro ad e
 have hb:=h.br
 obtain⟨ad',e',h1,_⟩:=sN h.roads ((0:Nat):Int) (by omega) (by omega)
 rw[e] at e'
 obtain rfl:=Option.some.inj e'
 have hbk:∀(d:Addr) (i:Nat),(d.add i).block=d.block:=λd i=>by unfold Addr.add;split<;>rfl
 have:=World.block_lt_of_cell? _ _ h1
 rwa [hbk] at this
theorem NH(t:Array Value)(i j:Tmp)(a b:Value):(#[i,j].zip #[a,b]).foldl (λt (p,v)=>t.setIfInBounds p v) t=(t.setIfInBounds i a).setIfInBounds j b:=by simp
theorem Bd{F:Fence}{n:Nat}{P:Program}{α:Type}{g:Operand}{ps:Array Tmp}{assign body:Code}{Q:Exit->Act->World->Prop}{a:Act}{w:World}
  (hro:F.round=none) (h1:1<=n) {gf:Nat} {lb:Array Value} (hg:a.eval g= .func (.func gf) #[] lb) (hFg:F.fn gf) (eg:∀args w,(callFunc gf args).run P w= .ok (.enter gf args) w)
  {encs:α->Array Value} {Kp:World->World->Prop} {S Sp:List α->Prop} {N:Nat} (hseq:SeqStopsK F (n-1) P gf lb encs Kp S Sp N w)
  (hKt:∀{A B C:World},Kp A B->Kp B C->Kp A C) (hKb:∀(W:World) (l:Nat) (o o':Obj),w.heap.size<=l->W.heap[l]?=some o->o.isCells=false->o.isWalk=false->Kp W (W.putObj l o')) (hps:∀x,(encs x).size=ps.size)
  (fz f:Array Value->α->Array Value) (hz:∀t x,(ps.zip (encs x)).foldl (λt (p,v)=>t.setIfInBounds p v) t=fz t x) (I:List α->World->Prop) (hI:OwnFrom w.heap.size I) (h0:I [] w)
  (hassign:∀(l:Nat) (x:α) (W:World) (K:Act->World->Prop),K {tmps:=f a.tmps x,defers:=[]} W ->
   assign.wpIn (F.inRound l) (n-1-1) P (Exit.then K (λ_ _ _=>False)) {tmps:=fz a.tmps x,defers:=[]} W)
  (hbody:∀(l:Nat) (pre:List α) (x:α) (W:World),I pre W->pre.length<N->body.wpIn (F.inRound l) (n-1-1) P (ownPostK Kp I (λ_ _ _=>False) (pre++[x]) W) {tmps:=f a.tmps x,defers:=[]} W)
  (hdone:∀(D:Nat) (xs:List α) (W:World),w.heap.size<=D->S xs->I xs W->W.heap[D]?=some (.deferred (some []))->Q .normal {a with defers:={target:= .collected D,args:=#[]}::a.defers} W):
  (Code.rangeFunc g ps assign body).wpIn F n P Q a w:=
 wpIn_rangeFunc_ownF hro h1 hg hFg eg hseq (λh k=>hKt h k) hKb (Below.refl _ _) hps I (λ_ _ _=>False) hI (λ_ _ _ _ _ h=>h.elim) h0 (λx=>{tmps:=f a.tmps x,defers:=[]}) (λl x W K hK=>by rw[hz];exact hassign l x W K hK) hbody hdone (λ_ _ _ _ _ _ h=>h.elim)
end Go.Proofs.YtkjoilgpmngndaaGreat.Wk
