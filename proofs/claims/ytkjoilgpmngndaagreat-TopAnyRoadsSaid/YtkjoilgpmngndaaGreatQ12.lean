import Derived.Test.YtkjoilgpmngndaaGreatQ10
import Derived.Test.YtkjoilgpmngndaaGreatQ11
set_option maxHeartbeats 40000000
set_option maxRecDepth 100000
set_option linter.all false
namespace Go.Proofs.YtkjoilgpmngndaaGreat.Wk
open Go.RowKit Go.Shelf au YtkjoilgpmngndaaGreatW.aj YtkjoilgpmngndaaGreatW.aJ
attribute [local go_sem] yP yO
def Cv(Wk:List dP):Prop:=∀r ∈ Wk,0<=r.f0/\r.f0<=r.f1/\r.f1<=50
structure lD(w0 w:World)(A0:Option Addr)(c0:Nat)(Wk:List dP)(A1:Option Addr)(c1:Nat)(R:List aV)(ga mb:Nat)(T F:Nat->Nat->Int):Prop where
 map:IsMap w0 A0 c0 Wk A1 c1 R
 below:Below w0.heap.size w0 w
 lo:w0.heap.size<=mb
 eZ:pM w ga (.slice A0 Wk.length c0) (.slice A1 R.length c1) T F mb
section
variable {w0 w w':World} {A0:Option Addr} {c0:Nat} {Wk:List dP} {A1:Option Addr} {c1:Nat} {R:List aV} {ga mb:Nat} {T F:Nat->Nat->Int}
theorem lD.keep(h:lD w0 w A0 c0 Wk A1 c1 R ga mb T F){n:Nat}(hn:w0.heap.size<=n)(k:bq n (λb=>b=mb) w w')(ha:pM w' ga (.slice A0 Wk.length c0) (.slice A1 R.length c1) T F mb):lD w0 w' A0 c0 Wk A1 c1 R ga mb T F:=
 ⟨h.map,h.below.trans ⟨k.os,k.tape,k.output,k.size,λi hi=>k.block i (by omega) (by have:=h.lo;omega)⟩,h.lo,ha⟩
theorem lD.now(h:lD w0 w A0 c0 Wk A1 c1 R ga mb T F):IsMap w A0 c0 Wk A1 c1 R:=h.map.below h.below
theorem lD.later(h:lD w0 w A0 c0 Wk A1 c1 R ga mb T F)(hb:Below w.heap.size w w'):lD w0 w' A0 c0 Wk A1 c1 R ga mb T F:=
 ⟨h.map,h.below.trans (hb.mono h.below.size),h.lo,h.eZ.keep hb⟩
theorem lD.drew(h:lD w0 w A0 c0 Wk A1 c1 R ga mb T F):lD w0 w.drew A0 c0 Wk A1 c1 R ga mb T F:=⟨h.map,aM h.below,h.lo,h.eZ.drew⟩
theorem lD.drewN(h:lD w0 w A0 c0 Wk A1 c1 R ga mb T F)(n:Nat):lD w0 (w.drewN n) A0 c0 Wk A1 c1 R ga mb T F:=⟨h.map,ag h.below n,h.lo,h.eZ.drewN n⟩
theorem lD.gt(h:lD w0 w A0 c0 Wk A1 c1 R ga mb T F):w0.heap.size<=w.heap.size:=h.below.size
end
def oh(Wk:List dP)(s k:Nat):Int:=(((places s).take k).map λp=>(dJ Wk p).f1).sum
def jA(T:Nat->Nat->Int)(Wk:List dP)(s:Nat):Int:=(rest T 0 s).1+oh Wk s (places s).length
theorem wV(Wk:List dP)(s:Nat):oh Wk s 0=0:=rfl
theorem wW(Wk:List dP)(s k:Nat)(h:k<(places s).length):oh Wk s (k+1)=oh Wk s k+(dJ Wk ((places s)[k])).f1:=by
 unfold oh
 rw[List.take_succ_eq_append_getElem h,List.map_append,List.sum_append]
 simp
theorem Mq(Wk:List dP)(k:Nat)(h:k<Wk.length):dJ Wk k ∈ Wk:=by
 have:dJ Wk k=Wk[k]:=by simp[dJ,iA,List.getD,h]
 rw[this]
 exact List.getElem_mem h
theorem ni{Wk:List dP}(hW:Cv Wk)(s:Nat)(hp:∀p ∈ places s,p<Wk.length):∀k,k<=(places s).length->0<=oh Wk s k/\oh Wk s k<=50*k
 |0,_=>by simp[wV]
 |k+1,h=>by
  rw[wW Wk s k (by omega)]
  have:=ni hW s hp k (by omega)
  have h2:=hW _ (Mq Wk _ (hp _ (List.getElem_mem (show k<(places s).length by omega))))
  omega
theorem jq{w0 w:World}{A0:Option Addr}{c0:Nat}{Wk:List dP}{A1:Option Addr}{c1:Nat}{R:List aV}{ga mb:Nat}{T F:Nat->Nat->Int}(hT:kL T)(hW:Cv Wk)(s:Nat)(hs:s<256)(hp:∀p ∈ places s,p<Wk.length)(h:lD w0 w A0 c0 Wk A1 c1 R ga mb T F):
  Calls Tryz.prog 68 #[.pointer (some ⟨ga,0,none⟩),.int .i64 s] w λe w'=>e= .returned (.int .i64 (jA T Wk s))/\lD w0 w' A0 c0 Wk A1 c1 R ga mb T F/\bq w.heap.size (λb=>b=mb) w w':=by
 have HT:=aa.mk hT
 have HW:=aa.mk hW
 have HP:=aa.mk hp
 have HA:=aa.mk h
 have hbw:=h.map.bw
 clear hT hW hp h
 go_enter Tryz.func68,Tryz.ntmps68
 go_wp2_with fail
 refine(oV HT.out s hs 0 (by omega) w HA.out.eZ).mono ?_
 rintro e w1 ⟨rfl,hA1,hK1⟩
 have HA1:=aa.mk (HA.out.keep HA.out.gt hK1 hA1)
 have qN:=aa.mk hK1
 obtain⟨⟨r0,r1⟩,hr⟩:∃x,rest T 0 s=x:=⟨_,rfl⟩
 have hrb:=jT HT.out 0 s
 rw[hr] at hrb ⊢
 simp only at hrb
 have HR:=aa.mk hr
 unfold jV
 clear hA1 hK1 hr HA
 go_wp2_with fail
 refine(bU.calls 9 s _ w1 (EX hs)).mono ?_
 rintro e wl ⟨v_,rfl,hRl,hbl⟩
 obtain⟨Al,cl,rfl,hcl,hil⟩:=yR hRl
 rw[List.length_map] at hcl ⊢
 have HIL:=aa.mk hil
 have HAl:=aa.mk (HA1.out.later hbl)
 have HKl:=aa.mk (qN.out.trans (bq.of_below (S:=λb=>b=mb) hbl qN.out.size))
 have hpl:=Bj s
 clear hRl hil hbl HA1 qN
 go_wp2_with fail
 go_loopw [5,16] (λv5 v16 wr=>∃k:Nat,k<=(places s).length/\v16= .int .i64 k/\v5= .int .i64 (r0+oh Wk s k)/\wr=wl) (λ_ v16 _=>(places s).length-(intOf v16).toNat)
 case atStart=>exact⟨0,Nat.zero_le _,rfl,by rw[wV];simp,rfl⟩
 case round=>
  obtain⟨k,hk,rfl,rfl,rfl⟩:=hrel
  by_cases hkl:k<(places s).length
  .obtain⟨n,hn⟩:∃n,(places s)[k]=n:=⟨_,rfl⟩
   have hnm:n ∈ places s:=by rw[<- hn];exact List.getElem_mem hkl
   have hnl:=HP.out n hnm
   have ahm:(n:Int)<Wk.length:=by omega
   obtain⟨gl,hgl,yX,uh,ry⟩:=HIL.out k (by rw[List.length_map];exact hkl)
   subst hgl
   have hgd:((places s).map (λn:Nat=>(n:Int))).getD k 0=(n:Int):=by simp[List.getD,hkl,hn]
   rw[hgd] at ry
   clear hgd
   have hM0:=HAl.out.eZ.eZ.map.1
   obtain⟨ad,rfl,hc0,hc1⟩:=Cr HAl.out.now.work n (by omega) ahm
   simp only[Int.toNat_natCast] at hc0 hc1
   have hwb:=ni HW.out s HP.out k hk
   have hws:=wW Wk s k hkl
   rw[hn] at hws
   have hwr:=HW.out _ (Mq Wk n hnl)
   unfold dJ at hws hwr
   obtain⟨r,hrr⟩:∃r,iA Wk (n:Int)=r:=⟨_,rfl⟩
   rw[hrr] at hc0 hc1 hws hwr
   have Xe:=aa.mk hws
   clear hrr hws
   obtain⟨sm,hsm⟩:∃x,oh Wk s k=x:=⟨_,rfl⟩
   rw[hsm] at hwb Xe
   rw[hsm]
   have hsum:wrap64 (r0+sm+r.f1)=r0+sm+r.f1:=IntWalk.wrap64_in _ (by omega)
   clear hsm uh
   go_wp2_with fail
   go_roundw
   case rel=>exact⟨k+1,by omega,by go_num,by rw[Xe.out,Int.add_assoc],trivial⟩
   case measure=>simp[intOf];omega
  .obtain rfl:k=(places s).length:=by omega
   go_wp2_with fail
   go_ret
   exact⟨by unfold jA;rw[HR.out];rfl,HAl.out,HKl.out⟩
end Go.Proofs.YtkjoilgpmngndaaGreat.Wk
namespace Go.Proofs.YtkjoilgpmngndaaGreat.Wk
open Go.RowKit au YtkjoilgpmngndaaGreatW.aj
theorem Bz{lo hi a b:Int}(h:iO lo hi a b=true):a<=lo/\lo<=hi/\hi<=b:=by
 unfold iO at h
 simp only[Bool.and_eq_true,decide_eq_true_eq] at h
 exact⟨h.1,h.2.1,h.2.2⟩
theorem qQ{n:Nat}{x:Int}(h:ib n x=true):0<=x/\x<n:=by
 unfold ib aK at h
 simp only[Bool.and_eq_true,decide_eq_true_eq] at h
 omega
theorem mD{W:List dP}{R:List aV}(h:bD W R=0):0<W.length/\W.length<=8/\R.length<=20/\Cv W/\(∀r ∈ R,jN W.length r)/\jZ W R=true:=by
 unfold bD at h
 by_cases h1:W.length<=8/\R.length<=20
 .rw[if_pos h1] at h
  by_cases h2:W.length=0
  .rw[if_pos h2] at h;cases h
  .rw[if_neg h2] at h
   cases h3:W.all AQ with
   |false=>rw[h3] at h;cases h
   |true=>
    rw[h3,if_pos rfl] at h
    cases h4:jZ W R with
    |false=>rw[h4] at h;cases h
    |true=>
     refine⟨by omega,h1.1,h1.2,λr hr=>Bz (List.all_eq_true.1 h3 r hr),λr hr=>?_,rfl⟩
     obtain⟨k,hk,rfl⟩:=List.getElem_of_mem hr
     have h5:=List.all_eq_true.1 (show((List.range R.length).all (qA W R))=true from h4) k (List.mem_range.2 hk)
     have e:bM R k=R[k]:=by simp[bM,bZ,List.getD,hk]
     unfold qA at h5
     rw[e] at h5
     simp only[Bool.and_eq_true,Bool.not_eq_true',beq_eq_false_iff_ne,ne_eq] at h5
     obtain⟨p1,p2,p3,p4,_⟩:=h5
     have q1:=qQ p1
     have q2:=qQ p2
     have q3:=Bz p4
     exact⟨q1.1,q1.2,q2.1,q2.2,p3,q3.1,q3.2.1,q3.2.2⟩
 .rw[if_neg h1] at h;cases h
def rz(r:aV):aV:=⟨r.f1,r.f0,r.f2⟩
def jP(r:aV):aV:=if r.f0<=r.f1 then r else rz r
theorem rV(r:aV):jP r=r\/jP r=rz r:=by
 unfold jP
 split
 .exact .inl rfl
 .exact .inr rfl
theorem Ov(r:aV):jP (rz r)=jP r:=by
 unfold jP
 by_cases h:r.f0<=r.f1
 .rw[if_pos h]
  by_cases h':(rz r).f0<=(rz r).f1
  .rw[if_pos h']
   have:r.f0=r.f1:=by have:r.f1<=r.f0:=h';omega
   cases r
   simp only at this
   subst this
   rfl
  .rw[if_neg h']
   rfl
 .rw[if_neg h,if_pos (show(rz r).f0<=(rz r).f1 from(show r.f1<=r.f0 by omega))]
def EW(N:Nat)(r:aV):Bool:=ib N r.f0&&(ib N r.f1&&(!(r.f0==r.f1)&&iO r.f2.f0 r.f2.f1 1 50))
theorem QP(N:Nat)(r:aV):EW N (rz r)=EW N r:=by
 have e:(r.f1==r.f0)=(r.f0==r.f1):=Bool.beq_comm
 unfold EW
 show(ib N r.f1&&(ib N r.f0&&(!(r.f1==r.f0)&&iO r.f2.f0 r.f2.f1 1 50)))=_
 rw[e]
 cases ib N r.f0<;>cases ib N r.f1<;>rfl
theorem Hm(N:Nat)(r:aV):EW N (jP r)=EW N r:=by
 rcases rV r with h|h
 .rw[h]
 .rw[h,QP]
def NJ(r s:aV):Prop:=fq r s.f0 s.f1=false
theorem Eh(r s:aV):fq r s.f0 s.f1=true↔(r.f0=s.f0/\r.f1=s.f1)\/(r.f0=s.f1/\r.f1=s.f0):=by
 unfold fq
 simp only[Bool.or_eq_true,Bool.and_eq_true,beq_iff_eq]
theorem FX(r s:aV):NJ r s↔¬((r.f0=s.f0/\r.f1=s.f1)\/(r.f0=s.f1/\r.f1=s.f0)):=by
 unfold NJ
 rw[<- Eh]
 simp
theorem yo{r s:aV}(h:NJ r s):NJ s r:=by
 rw[FX] at h ⊢
 omega
theorem Sn(r s:aV):NJ (rz r) s↔NJ r s:=by
 rw[FX,FX]
 show ¬((r.f1=s.f0/\r.f0=s.f1)\/(r.f1=s.f1/\r.f0=s.f0))↔_
 omega
theorem CB(r s:aV):NJ (jP r) s↔NJ r s:=by
 rcases rV r with h|h
 .rw[h]
 .rw[h,Sn]
theorem Nq(r s:aV):NJ (jP r) (jP s)↔NJ r s:=by
 rw[CB]
 constructor
 .intro h;exact yo ((CB s r).1 (yo h))
 .intro h;exact yo ((CB s r).2 (yo h))
theorem acK{α:Type}(p:α->Bool):∀(xs:List α) (i k:Nat) (hk:k<xs.length),p xs[k]=true->(fi p xs i=((i+k:Nat):Int)↔∀(j:Nat) (hj:j<k),p (xs[j]'(by omega))=false):=by
 intro xs
 induction xs with
 |nil=>intro i k hk;simp at hk
 |cons x xs ih=>
  intro i k hk hp
  unfold fi
  cases k with
  |zero=>
   have hp':p x=true:=hp
   rw[if_pos hp']
   simp
  |succ k=>
   have hk':k<xs.length:=by simpa using hk
   have hp':p xs[k]=true:=hp
   by_cases hx:p x=true
   .rw[if_pos hx]
    constructor
    .intro h;omega
    .intro h
     have:=h 0 (by omega)
     simp[hx] at this
   .rw[if_neg hx]
    have:=ih (i+1) k hk' hp'
    rw[show i+(k+1)=i+1+k by omega,this]
    constructor
    .intro h j hj
     cases j with
     |zero=>simpa using hx
     |succ j=>exact h j (by omega)
    .intro h j hj
     exact h (j+1) (by omega)
theorem wh(W:List dP)(R:List aV):jZ W R=true↔(∀r ∈ R,EW W.length r=true)/\R.Pairwise NJ:=by
 have hk:∀k (hk:k<R.length),qA W R k=true↔EW W.length R[k]=true/\∀(j:Nat) (hj:j<k),NJ (R[j]'(by omega)) R[k]:=by
  intro k hk
  have e:bM R k=R[k]:=by simp[bM,bZ,List.getD,hk]
  unfold qA
  rw[e]
  have hj:fq R[k] R[k].f0 R[k].f1=true:=(Eh _ _).2 (.inl ⟨rfl,rfl⟩)
  have:=acK (λr=>fq r R[k].f0 R[k].f1) R 0 k hk hj
  rw[Nat.zero_add] at this
  have e2:(il R R[k].f0 R[k].f1==(k:Int))=true↔∀(j:Nat) (hj:j<k),NJ (R[j]'(by omega)) R[k]:=by
   rw[beq_iff_eq]
   exact this
  unfold EW
  simp only[Bool.and_eq_true] at e2 ⊢
  rw[e2]
  constructor
  .rintro⟨a,b,c,d,e⟩;exact⟨⟨a,b,c,d⟩,e⟩
  .rintro⟨⟨a,b,c,d⟩,e⟩;exact⟨a,b,c,d,e⟩
 unfold jZ
 rw[List.all_eq_true,List.pairwise_iff_getElem]
 constructor
 .intro h
  refine⟨λr hr=>?_,λi j hi hj hij=>?_⟩
  .obtain⟨k,h1,rfl⟩:=List.getElem_of_mem hr
   exact((hk k h1).1 (h k (List.mem_range.2 h1))).1
  .exact((hk j hj).1 (h j (List.mem_range.2 hj))).2 i hij
 .rintro⟨h1,h2⟩ k Ww
  have hkl:=List.mem_range.1 Ww
  exact(hk k hkl).2 ⟨h1 _ (List.getElem_mem hkl),λj hj=>h2 j k _ hkl hj⟩
def fO(R R':List aV):Prop:=(R.map jP).Perm (R'.map jP)
theorem fO.symm{R R':List aV}(h:fO R R'):fO R' R:=List.Perm.symm h
theorem fO.len{R R':List aV}(h:fO R R'):R'.length=R.length:=by
 have:=List.Perm.length_eq h
 simpa using this.symm
theorem Jp(W:List dP)(R:List aV):jZ W R=true↔(∀r ∈ R.map jP,EW W.length r=true)/\(R.map jP).Pairwise NJ:=by
 rw[wh,List.pairwise_map]
 constructor
 .rintro⟨h1,h2⟩
  refine⟨λr hr=>?_,h2.imp (λh=>(Nq _ _).2 h)⟩
  obtain⟨s,hs,rfl⟩:=List.mem_map.1 hr
  rw[Hm]
  exact h1 s hs
 .rintro⟨h1,h2⟩
  refine⟨λr hr=>?_,h2.imp (λh=>(Nq _ _).1 h)⟩
  rw[<- Hm]
  exact h1 _ (List.mem_map_of_mem hr)
theorem fO.Qr{R R':List aV}(h:fO R R')(W:List dP)(hr:jZ W R=true):jZ W R'=true:=by
 rw[Jp] at hr ⊢
 refine⟨λr hm=>hr.1 r ((List.Perm.mem_iff h).2 hm),?_⟩
 exact(List.Perm.pairwise_iff (λh=>yo h) h).1 hr.2
theorem fO.roads{R R':List aV}(h:fO R R')(W:List dP):jZ W R'=jZ W R:=by
 cases h1:jZ W R with
 |true=>exact h.Qr W h1
 |false=>
  cases h2:jZ W R' with
  |false=>rfl
  |true=>rw[h.symm.Qr W h2] at h1;cases h1
theorem fO.TA{R R':List aV}(h:fO R R')(W:List dP):bD W R'=bD W R:=by
 unfold bD
 rw[h.roads W,h.len]
theorem QN{N:Nat}{r:aV}(hr:jN N r)(n:Int):zM n (rz r)=zM n r:=by
 have h1:=hr.a0;have h2:=hr.b0;have h3:=hr.ne
 unfold zM
 show(if n=r.f1 then(if 0<=r.f0 then some (r.f0,r.f2.f1) else none) else if n=r.f0 then(if 0<=r.f1 then some (r.f1,r.f2.f1) else none) else none)=_
 by_cases p:n=r.f0
 .rw[if_neg (by omega),if_pos p,if_pos p]
 .rw[if_neg p,if_neg p]
theorem QM{N:Nat}{r:aV}(hr:jN N r)(n:Int):zM n (jP r)=zM n r:=by
 rcases rV r with h|h
 .rw[h]
 .rw[h,QN hr]
theorem uk{α β:Type}(f g:α->Option β):∀(l:List α),(∀x ∈ l,f x=g x)->l.filterMap f=l.filterMap g
 |[],_=>rfl
 |x::l,h=>by
  rw[List.filterMap_cons,List.filterMap_cons,h x List.mem_cons_self,uk f g l (λy hy=>h y (List.mem_cons_of_mem _ hy))]
theorem Ee{N:Nat}{R:List aV}(hR:∀r ∈ R,jN N r)(n:Int):mV R n=mV (R.map jP) n:=by
 unfold mV
 rw[List.filterMap_map]
 exact uk _ _ R (λr hr=>(QM (hR r hr) n).symm)
theorem fO.mV{N:Nat}{R R':List aV}(h:fO R R')(hR:∀r ∈ R,jN N r)(hR':∀r ∈ R',jN N r)(n:Int):(mV R n).Perm (mV R' n):=by
 rw[Ee hR,Ee hR']
 exact List.Perm.filterMap _ h
theorem Hl{N:Nat}{n:Int}{r:aV}(hr:jN N r){x:Int×Int}(h:zM n r=some x):(n=r.f0/\x.1=r.f1)\/(n=r.f1/\x.1=r.f0):=by
 have h1:=hr.a0;have h2:=hr.b0;have h3:=hr.ne
 unfold zM at h
 by_cases p:n=r.f0
 .rw[if_pos p,if_pos h2] at h
  obtain rfl:=Option.some.inj h
  exact .inl ⟨p,rfl⟩
 .rw[if_neg p] at h
  by_cases q:n=r.f1
  .rw[if_pos q,if_pos h1] at h
   obtain rfl:=Option.some.inj h
   exact .inr ⟨q,rfl⟩
  .rw[if_neg q] at h;cases h
theorem J5{N:Nat}{R:List aV}(hR:∀r ∈ R,jN N r)(hp:R.Pairwise NJ)(n:Int):(mV R n).Pairwise (λx y=>x.1≠y.1):=by
 unfold Go.Proofs.YtkjoilgpmngndaaGreat.Wk.mV
 rw[List.pairwise_filterMap]
 refine List.Pairwise.imp_of_mem ?_ hp
 intro r s hr hs hn x hx y hy e
 rw[FX] at hn
 have h1:=Hl (hR r hr) hx
 have h2:=Hl (hR s hs) hy
 omega
theorem Gn{α:Type}(c:Nat->α)(i j:Nat)(u v:α)(h:i≠j):upd (upd c i u) j v=upd (upd c j v) i u:=by
 funext n
 unfold upd
 by_cases h1:n=j
 .subst h1
  rw[if_pos rfl,if_neg (λe=>h e.symm),if_pos rfl]
 .rw[if_neg h1]
  by_cases h2:n=i
  .rw[if_pos h2,if_pos h2]
  .rw[if_neg h2,if_neg h2,if_neg h1]
theorem uJ(p:Nat)(s:(Nat->Int)×(Nat->Int))(x:Int×Int)(m:Nat)(h:m≠x.1.toNat):(gX p s x).1 m=s.1 m:=by
 unfold gX
 split
 .exact jF _ _ _ _ h
 .rfl
theorem Jw(p:Nat)(s:(Nat->Int)×(Nat->Int))(x y:Int×Int)(hx:p≠x.1.toNat)(hy:p≠y.1.toNat)(hn:x.1.toNat≠y.1.toNat):gX p (gX p s x) y=gX p (gX p s y) x:=by
 have e1:=uJ p s x p hx
 have e2:=uJ p s y p hy
 have e3:=uJ p s x y.1.toNat (λe=>hn e.symm)
 have e4:=uJ p s y x.1.toNat hn
 have u1:gX p (gX p s x) y=if s.1 p+y.2<s.1 y.1.toNat then(upd (gX p s x).1 y.1.toNat (s.1 p+y.2),upd (gX p s x).2 y.1.toNat (p:Int)) else gX p s x:=by
  rw[gX.eq_def p (gX p s x) y,e1,e3]
 have u2:gX p (gX p s y) x=if s.1 p+x.2<s.1 x.1.toNat then(upd (gX p s y).1 x.1.toNat (s.1 p+x.2),upd (gX p s y).2 x.1.toNat (p:Int)) else gX p s y:=by
  rw[gX.eq_def p (gX p s y) x,e2,e4]
 rw[u1,u2]
 unfold gX
 by_cases c1:s.1 p+x.2<s.1 x.1.toNat
 .by_cases c2:s.1 p+y.2<s.1 y.1.toNat
  .simp only[if_pos c1,if_pos c2]
   rw[Gn _ _ _ _ _ hn,Gn s.2 _ _ _ _ hn]
  .simp only[if_pos c1,if_neg c2]
 .by_cases c2:s.1 p+y.2<s.1 y.1.toNat
  .simp only[if_neg c1,if_pos c2]
  .simp only[if_neg c1,if_neg c2]
theorem OZ(p:Nat){l l':List (Int×Int)}(h:l.Perm l'):(∀x ∈ l,0<=x.1/\x.1≠(p:Int))->l.Pairwise (λx y=>x.1≠y.1)->∀s,l.foldl (gX p) s=l'.foldl (gX p) s:=by
 induction h with
 |nil=>intros;rfl
 |cons x h ih=>
  intro h1 h2 s
  rw[List.foldl_cons,List.foldl_cons]
  exact ih (λy hy=>h1 y (List.mem_cons_of_mem _ hy)) (List.pairwise_cons.1 h2).2 _
 |swap x y l=>
  intro h1 h2 s
  rw[List.foldl_cons,List.foldl_cons,List.foldl_cons,List.foldl_cons]
  have a:=h1 y List.mem_cons_self
  have b:=h1 x (List.mem_cons_of_mem _ List.mem_cons_self)
  have c:=(List.pairwise_cons.1 h2).1 x List.mem_cons_self
  rw[Jw p s y x (by omega) (by omega) (by omega)]
 |trans h3 h4 ih1 ih2=>
  intro h1 h2 s
  rw[ih1 h1 h2 s]
  refine ih2 (λy hy=>h1 y (h3.mem_iff.2 hy)) ?_ s
  exact(List.Perm.pairwise_iff (λh e=>h e.symm) h3).1 h2
theorem fO.col{R R':List aV}(h:fO R R'){N:Nat}(hR:∀r ∈ R,jN N r)(hR':∀r ∈ R',jN N r)(hp:R.Pairwise NJ)(g:Nat):∀i,iq R N g i=iq R' N g i
 |0=>rfl
 |i+1=>by
  unfold iq
  rw[h.col hR hR' hp g i]
  unfold uV
  simp only
  obtain⟨p,hpp⟩:∃p,(iH (iq R' N g i).st (iq R' N g i).c N).toNat=p:=⟨_,rfl⟩
  rw[hpp]
  rw[OZ p (h.mV hR hR' (p:Int)) (λx hx=>by have:=xy hR x hx;exact⟨this.1,this.2.2.1⟩) (J5 hR hp _)]
theorem fO.tm{R R':List aV}(h:fO R R'){W:List dP}(hc:bD W R=0):tm R' W.length=tm R W.length:=by
 obtain⟨_,_,_,_,hR,hB⟩:=mD hc
 obtain⟨_,_,_,_,hR',_⟩:=mD ((h.TA W).trans hc)
 have hp:=((wh W R).1 hB).2
 funext n g
 unfold Go.Proofs.YtkjoilgpmngndaaGreat.Wk.tm
 rw[h.col hR hR' hp]
open Go.RowKit Go.Shelf au YtkjoilgpmngndaaGreatW.aj YtkjoilgpmngndaaGreatW.aJ
theorem nO{A0:Option Addr}{c0:Nat}{Wk:List dP}{A1:Option Addr}{c1:Nat}{R:List aV}{w:World}(h:IsMap w A0 c0 Wk A1 c1 R)(hN:Wk.length<=8)(hR:∀r ∈ R,jN Wk.length r):
  Calls Tryz.prog 64 #[.agg #[.slice A0 Wk.length c0,.slice A1 R.length c1]] w λe w'=>∃ga mb,e= .returned (.pointer (some ⟨ga,0,none⟩))/\w.heap.size<=ga/\lD w w' A0 c0 Wk A1 c1 R ga mb (tm R Wk.length) (fs R Wk.length)/\Below w.heap.size w w':=by
 refine(callsIn_wide.1 (RU h hN hR)).mono ?_
 rintro e w' ⟨ga,mb,rfl,h1,h2,h3,h4,h5⟩
 refine⟨ga,mb,rfl,h3,⟨h,h5,h4,h1,yt.new h2,?_⟩,h5⟩
 rintro rfl
 obtain⟨cs,h6,_⟩:=h1.blk
 rw[h6] at h2
 cases h2
theorem Ua:∀n:Fin 8,wrap64 (2^n.1)=((2^n.1:Nat):Int)/\places (2^n.1)=[n.1]/\2^n.1<256:=by decide +kernel
theorem JY{n:Nat}(h:n<8):wrap64 (2^n)=((2^n:Nat):Int)/\places (2^n)=[n]/\2^n<256:=Ua ⟨n,h⟩
def Sc(T F:Nat->Nat->Int)(N:Nat):Prop:=∀n g,n<N->g<N->T n g<1048576->n≠g->∃p:Nat,F n g=(p:Int)/\p<N/\T p g<T n g
theorem DZ{ga mb N:Nat}{vW vR:Value}{T F:Nat->Nat->Int}(hN:N<=8)(hT:kL T)(hF:Sc T F N)(fr jH:Nat)(hfr:fr<N)(hto:jH<N)(hlt:T fr jH<1048576)(w:World)(hA:pM w ga vW vR T F mb):
  Calls Tryz.prog 65 #[.pointer (some ⟨ga,0,none⟩),.int .i64 fr,.int .i64 jH] w λe w'=>∃v xs,e= .returned v/\(Kd.int .i64).R 3 w' w.heap.size (λ_=>True) v xs/\0<xs.length/\xs.length<=1048577/\(N=1->xs.length=1)/\Below w.heap.size w w':=by
 have HT:=aa.mk hT
 have HF:=aa.mk hF
 have HA:=aa.mk hA
 have HL:=aa.mk hlt
 have hga:=hA.eZ.lt
 clear hT hF hA hlt
 go_enter Tryz.func65,Tryz.ntmps65
 go_wp2_with ((with_reducible refine cZ (N:=9) rfl ?_);refine Kd.IB (Kd.int .i64) _ 3 ?hg (N:=9) ?hd (xs:=([(fr:Int)]:List Int)) (inner:=[.int .i64 (fr:Int)]) (ok:=λ_=>True) (okp:=λ_=>True) ?hr ?hp (λ_ hk=>hk) trivial (Below.refl _ _) (Nat.le_refl _) (by simp) ?_;(case hd=>rfl);(case hg=>rfl);(case hr=>first|(go_simp;done)|(go_simp;rfl));(case hp=>exact(eG.one (show Kd.M (Kd.int .i64) _ _ _ (fr:Int) [.int .i64 (fr:Int)] from rfl) (eG.none _ _)));intro v1 w1 hr1 hb1 hg1 vk)
 have HB1:=aa.mk hb1
 have HR1:=aa.mk hr1
 clear hb1 hr1 hg1 vk
 have hT0:=HT.out fr jH
 have HL0:=aa.mk HL.out
 go_loopw [1,7] (λv1 v7 wr=>∃(n:Nat) (xs:List Int),n<N/\v1= .int .i64 n/\T n jH<1048576/\aa ((Kd.int .i64).R 3 wr w.heap.size (λ_=>True) v7 xs)/\0<xs.length/\(xs.length:Int)+T n jH<=1048577/\aa (N=1->xs.length=1)/\aa (Below w.heap.size w wr)) (λv1 _ _=>(T (intOf v1).toNat jH).toNat)
 case atStart=>exact⟨fr,[(fr:Int)],hfr,rfl,HL.out,HR1,by simp,by have:=HL.out;simp only[List.length_cons,List.length_nil];omega,⟨λ_=>rfl⟩,HB1⟩
 case round=>
  clear HB1 HR1 hT0
  obtain⟨n,xs,hn,rfl,WH,HR,hx0,hxl,HN1,HB⟩:=hrel
  have YW:=HT.out n jH
  by_cases e:n=jH
  .subst e
   have heq:((n:Int)==(n:Int))=true:=by simp
   go_wp2_with fail
   go_ret
   exact⟨_,_,rfl,HR.out,hx0,by omega,HN1.out,HB.out⟩
  .have heq:((n:Int)==(jH:Int))=false:=by simp only[beq_eq_false_iff_ne,ne_eq];omega
   obtain⟨p,hp,hpN,hpl⟩:=HF.out n jH hn hto WH e
   have hFc:=(HA.out.keep HB.out).eZ.first (i:=n) (j:=jH) (by omega) (by omega)
   rw[hp] at hFc
   have PX:(n:Int)<8:=by omega
   have ht8:(jH:Int)<8:=by omega
   have hTp:=HT.out p jH
   clear hp
   go_wp2_with ((with_reducible refine cz (b:= .append) (xs:=#[.tmp 21,.tmp 23]) rfl ?_);at_builtin;refine Kd.jk (Kd.int .i64) (w0:=w) w.heap.size rfl (.tmp 21) (.tmp 23) 22 3 (.int .i64 0) 8 rfl Tryz.underlying22 info3 rfl (by decide) (by omega) u7 xs (p:Int) [.int .i64 (p:Int)] (λ_=>True) (λ_=>False) rfl rfl ?aP (λ_ hk=>hk.elim) ?aF ?aO ?aB ?aS ?aL ?_;(case aP=>exact rfl);(case aB=>exact(by repeat(first|(with_reducible first|exact HB.out|apply ae|apply ag|apply ah)|exact HB.out)));(case aF=>exact(λ_ _=>trivial));(case aO=>exact(by(with_reducible repeat(first|apply Kd.bK|apply Kd.dh|apply Kd.cO));exact HR.out));(case aS=>exact(aW (by repeat(first|(with_reducible first|exact HB.out|apply ae|apply ag|apply ah)|exact HB.out))));(case aL=>omega);intro vn wn hon hbn hgn fP;have qK:=aa.mk hbn;have Ey:=aa.mk hon;clear hon hbn hgn fP)
   go_roundw
   case rel=>exact⟨p,xs++[(p:Int)],hpN,rfl,by omega,Ey,by simp,by simp only[List.length_append,List.length_cons,List.length_nil];omega,⟨λh=>absurd (show n=jH by omega) e⟩,qK⟩
   case measure=>simp[intOf];omega
structure CO(N g:Nat)(s:(Nat->Int)×(Nat->Int)):Prop where
 b:Bounded s.1
 z:s.1 g=0
 f:∀n,n<N->n≠g->s.1 n<1048576->∃q:Nat,s.2 n=(q:Int)/\q<N/\s.1 q<s.1 n
theorem FJ{N g p:Nat}(hp:p<N){s:(Nat->Int)×(Nat->Int)}{x:Int×Int}(h:CO N g s)(h0:0<=x.1)(h1:x.1≠p)(h2:1<=x.2):CO N g (gX p s x):=by
 refine⟨vF h.b h2,?_,?_⟩
 .unfold gX
  by_cases e:s.1 p+x.2<s.1 x.1.toNat
  .rw[if_pos e]
   simp only[upd]
   by_cases e2:g=x.1.toNat
   .rw[<- e2,h.z] at e
    have:=(h.b p).1
    omega
   .rw[if_neg e2,h.z]
  .rw[if_neg e,h.z]
 .intro n hn hg hlt
  unfold gX at hlt ⊢
  by_cases e:s.1 p+x.2<s.1 x.1.toNat
  .rw[if_pos e] at hlt ⊢
   have hpx:p≠x.1.toNat:=by omega
   simp only[upd] at hlt ⊢
   by_cases e2:n=x.1.toNat
   .rw[if_pos e2]
    refine⟨p,rfl,hp,?_⟩
    rw[if_neg hpx,if_pos e2]
    omega
   .rw[if_neg e2] at hlt ⊢
    obtain⟨q,h3,h4,h5⟩:=h.f n hn hg hlt
    refine⟨q,h3,h4,?_⟩
    rw[if_neg e2]
    by_cases e3:q=x.1.toNat
    .rw[if_pos e3]
     rw[e3] at h5
     omega
    .rw[if_neg e3]
     exact h5
  .rw[if_neg e] at hlt ⊢
   exact h.f n hn hg hlt
theorem Ik{N g p:Nat}(hp:p<N)(l:List (Int×Int)):∀(s:(Nat->Int)×(Nat->Int)),CO N g s->(∀x ∈ l,0<=x.1/\x.1≠p/\1<=x.2)->CO N g (l.foldl (gX p) s):=by
 induction l with
 |nil=>exact λs h _=>h
 |cons x l ih=>
  intro s h hl
  rw[List.foldl_cons]
  have:=hl x List.mem_cons_self
  exact ih _ (FJ hp h this.1 this.2.1 this.2.2) (λy hy=>hl y (List.mem_cons_of_mem _ hy))
theorem En{R:List aV}{N g:Nat}(hR:∀r ∈ R,jN N r)(hg:g<N):∀i,i<=N->CO N g ((iq R N g i).c,(iq R N g i).f)
 |0,_=>by
  refine⟨sZ N g,by simp[iq,xX],λn hn hng hlt=>?_⟩
  simp only[iq,xX,if_neg hng,if_pos hn] at hlt
  omega
 |i+1,hi=>by
  have ih:=En hR hg i (by omega)
  obtain⟨p,hp,hpN,_⟩:=Cf R N g i (by omega)
  have:=Ik hpN (mV R (p:Int)) _ ih (λx hx=>⟨(xy hR x hx).1,(xy hR x hx).2.2.1,(xy hR x hx).2.2.2.1⟩)
  simp only[iq,uV,hp,Int.toNat_natCast]
  exact this
theorem Gl{R:List aV}{N:Nat}(hR:∀r ∈ R,jN N r):Sc (tm R N) (fs R N) N:=by
 intro n g hn hg hlt hne
 unfold tm fs at *
 rw[if_pos hg] at *
 obtain⟨q,h1,h2,h3⟩:=(En hR hg N (Nat.le_refl _)).f n hn hne hlt
 exact⟨q,h1,h2,by rw[if_pos hg,if_pos hg];exact h3⟩
end Go.Proofs.YtkjoilgpmngndaaGreat.Wk
namespace Go.Proofs.YtkjoilgpmngndaaGreat.Wk
open Go.RowKit Go.Shelf au YtkjoilgpmngndaaGreatW.aj YtkjoilgpmngndaaGreatW.aJ
attribute [local go_sem] yP yO
theorem FE:∀s:Fin 256,∀n:Fin 8,∀m:Fin 8,(fM s.1 n.1).testBit m.1=true->s.1.testBit m.1=true:=by decide +kernel
theorem Ry{s n m:Nat}(hs:s<256)(hn:n<8)(h:m ∈ places (fM s n)):m ∈ places s:=by
 obtain⟨h1,h2⟩:=kC.1 h
 exact kC.2 ⟨h1,FE ⟨s,hs⟩ ⟨n,hn⟩ ⟨m,h1⟩ h2⟩
theorem lD.other{w0 w:World}{A0:Option Addr}{c0:Nat}{Wk:List dP}{A1:Option Addr}{c1:Nat}{R:List aV}{ga mb:Nat}{T F:Nat->Nat->Int}(h:lD w0 w A0 c0 Wk A1 c1 R ga mb T F){p:Addr}(h0:w0.heap.size<=p.block)(h1:p.block≠ga)(h2:p.block≠mb)(u:Value):lD w0 (w.setCell p u) A0 c0 Wk A1 c1 R ga mb T F:=
 ⟨h.map,h.below.setCell h0 u,h.lo,h.eZ.other h1 h2 u⟩
theorem Jg{w0 w:World}{A0:Option Addr}{c0:Nat}{Wk:List dP}{A1:Option Addr}{c1:Nat}{R:List aV}{ga mb:Nat}{T F:Nat->Nat->Int}(hN:Wk.length<=8)(hN0:0<Wk.length)(hT:kL T)(hF:Sc T F Wk.length)(s:Nat)(hs:s<256)(hp:∀p ∈ places s,p<Wk.length)(hlt:(rest T 0 s).1<1048576)(h:lD w0 w A0 c0 Wk A1 c1 R ga mb T F):
  Calls Tryz.prog 69 #[.pointer (some ⟨ga,0,none⟩),.int .i64 s] w λe w'=>(∃a1 n1 d1 a2 n2 d2,e= .returned (.agg #[.slice a1 n1 d1,.slice a2 n2 d2])/\(Wk.length=1->n1=1))/\lD w0 w' A0 c0 Wk A1 c1 R ga mb T F/\bq w.heap.size (λb=>b=mb) w w':=by
 have HT:=aa.mk hT
 have HF:=aa.mk hF
 have HP:=aa.mk hp
 have HL:=aa.mk hlt
 have HA:=aa.mk h
 have hga:=h.eZ.eZ.lt
 have hmb:=h.eZ.memo.lt
 have hw0:=h.gt
 clear hT hF hp hlt h
 go_enter Tryz.func69,Tryz.ntmps69
 go_wp2_with ((with_reducible refine cZ (N:=8) rfl ?_);refine Kd.IB (Kd.int .i64) _ 3 ?hg (N:=8) ?hd (xs:=([(0:Int)]:List Int)) (inner:=[.int .i64 (0:Int)]) (ok:=(λk=>w.heap.size<=k)) (okp:=(λk=>w.heap.size<=k)) ?hr ?hp (λ_ hk=>hk) (by simp) (Below.refl _ _) (Nat.le_refl _) (by simp) ?_;(case hd=>rfl);(case hg=>rfl);(case hr=>first|(go_simp;done)|(go_simp;rfl));(case hp=>exact(eG.one (show Kd.M (Kd.int .i64) _ _ _ (0:Int) [.int .i64 (0:Int)] from rfl) (eG.none _ _)));intro v1 w1 hr1 hb1 hg1 vk)
 have hs1:(w.alloc (.cells #[.slice none 0 0,.slice none 0 0] 80)).heap.size=w.heap.size+1:=by simp
 rw[hs1] at hr1 hb1 vk
 have HA1:=aa.mk (((HA.out.later (ae (Below.refl _ _) (.cells #[.slice none 0 0,.slice none 0 0] 80))).later (by rw[hs1];exact hb1)).later (ae (Below.refl _ _) (.cells #[.int .i64 0,.int .i64 s] 205)))
 have B4:=aa.mk (((aR.new w [.slice none 0 0,.slice none 0 0] 80).below (by rw[hs1];exact hb1)).alloc (.cells #[.int .i64 0,.int .i64 s] 205))
 have B6:=aa.mk (aR.new w1 [.int .i64 0,.int .i64 s] 205)
 have hw1:=hb1.size
 rw[hs1] at hw1
 have KW:=aa.mk ((((bq.refl w.heap.size (λb=>b=mb) w).alloc (Nat.le_refl _) (.cells #[.slice none 0 0,.slice none 0 0] 80)).trans (bq.of_below hb1 (by omega))).alloc (by omega) (.cells #[.int .i64 0,.int .i64 s] 205))
 obtain⟨g6,hg6⟩:∃g,w1.heap.size=g:=⟨_,rfl⟩
 have HRr:=aa.mk (Kd.bK (Kd.bB (ok':=λk=>w.heap.size<k/\k≠g6) (Kd.bE hr1) (λk hk=>⟨by have:=hk.2.1;omega,by have:=hk.2.2.1;omega⟩)) (.cells #[.int .i64 0,.int .i64 s] 205))
 rw[hg6] at B6 hw1 ⊢
 have hsz:(w1.alloc (.cells #[.int .i64 0,.int .i64 s] 205)).heap.size=g6+1:=by simp[hg6]
 clear hs1 hr1 hb1 hg1 vk hg6 HA
 generalize w1.alloc (.cells #[.int .i64 0,.int .i64 s] 205)=ws at HA1 B4 B6 KW HRr hsz ⊢
 go_loopw [5] (λv5 wr=>∃(a l:Nat) (xs:List Int),l<256/\a<Wk.length/\(∀p ∈ places l,p<Wk.length)/\(rest T a l).1<1048576/\(xs.length+1048577*l<=1+1048577*256)/\g6<wr.heap.size/\aa (Wk.length=1->xs.length=1)/\aa (lD w0 wr A0 c0 Wk A1 c1 R ga mb T F)/\aa (aR wr w.heap.size [.slice none 0 0,.slice none 0 0] 80)/\aa (aR wr g6 [.int .i64 a,.int .i64 l] 205)/\aa (bq w.heap.size (λb=>b=mb) w wr)/\aa ((Kd.int .i64).R 3 wr (w.heap.size+1) (λk=>w.heap.size<k/\k≠g6) v5 xs)) (λ_ wr=>(intOf ((wr.cell? ⟨g6,1,none⟩).getD undef)).toNat)
 case atStart=>exact⟨0,s,[(0:Int)],hs,hN0,HP.out,HL.out,by simp only[List.length_cons,List.length_nil];omega,by omega,⟨λ_=>rfl⟩,HA1,B4,B6,KW,HRr⟩
 case round=>
  clear HA1 B4 B6 KW HRr hsz HP HL
  obtain⟨a,l,xs,hl,ha,hp,hlt,hxl,hg6,zS,HA,B4,B6,KW,HRr⟩:=hrel
  have xN:=B6.out.cell 0
  have DD:=B6.out.cell 1
  simp only[eP,eO] at xN DD
  have I6:=aa.mk (show(intOf ((wr.cell? ⟨g6,1,none⟩).getD undef)).toNat=l by rw[DD];simp[intOf])
  obtain⟨n,hnN,hn,WH,hnx⟩:∃n:Nat,n<Wk.length/\(rest T a l).2=(n:Int)/\T a n<1048576/\(l≠0->n ∈ places l/\(rest T n (fM l n)).1<1048576):=by
   by_cases e:l=0
   .subst e
    exact⟨0,hN0,rfl,hlt,λh=>absurd rfl h⟩
   .obtain⟨n,h1,h2,h3⟩:=N9 HT.out a l e hlt
    have h4:=HT.out a n
    have h5:=(jT HT.out n (fM l n)).1
    exact⟨n,hp n h1,h2,by omega,λ_=>⟨h1,by omega⟩⟩
  obtain⟨r0,hr⟩:∃x,(rest T a l).1=x:=⟨_,rfl⟩
  have hrest:jV (rest T a l)= .agg #[.int .i64 r0,.int .i64 n]:=by unfold jV;rw[hn,hr]
  have HPR:=aa.mk hp
  have HNX:=aa.mk hnx
  clear hp hnx
  go_wp2_with fail
  refine(oV HT.out l hl a (by omega) wr HA.out.eZ).mono ?_
  rintro e w2 ⟨rfl,hA2,hK2⟩
  rw[hrest]
  have Tw:=B4.out.lt
  have aoo:mb<wr.heap.size:=HA.out.eZ.memo.lt
  have aon:mb<w.heap.size:=hmb
  have HA2:=aa.mk (HA.out.keep HA.out.gt hK2 hA2)
  have zJ:=aa.mk (B4.out.move (hK2.block _ (by omega) (by omega)))
  have aow:g6≠mb:=by omega
  have LJ:=aa.mk (B6.out.move (hK2.block _ (by omega) (by omega)))
  have KW2:=aa.mk (KW.out.trans (hK2.mono KW.out.size (λ_ _ h=>h)))
  have HR2:=aa.mk (Kd.gQ HRr.out (λk hk hlt=>hK2.block k hlt (by have:=hk.1;omega)))
  have hsz2:=hK2.size
  clear hA2 hK2 HA B4 B6 KW HRr xN DD hrest
  have xN:=LJ.out.cell 0
  have DD:=LJ.out.cell 1
  simp only[eP,eO] at xN DD
  go_wp2_with fail
  refine(DZ hN HT.out HF.out a n ha hnN WH w2 HA2.out.eZ).mono ?_
  rintro e w3 ⟨vy,ys,rfl,hRy,hy0,hyl,hy1,hb3⟩
  have HY1:=aa.mk (λh:Wk.length=1=>show(xs++ys.drop 1).length=1 by rw[List.length_append,List.length_drop,zS.out h,hy1 h])
  have HY2:=aa.mk (λh:Wk.length=1=>show xs.length+(ys.length-1)=1 by rw[zS.out h,hy1 h])
  clear hy1
  obtain⟨Ay,cy,rfl,hcy,hCy⟩:=Kd.cB hRy
  have hcd:=Kd.aaa (m:=1) hCy (by omega) hcy
  obtain⟨i3,hi3,YC⟩:=Option.map_eq_some_iff.1 info3
  simp only[Prod.mk.injEq] at YC
  have hcut:=RA (P:=Tryz.prog) 22 3 .i64 Tryz.underlying22 hi3 1 YC.2.1 Ay ys.length cy 1 (by omega) (by omega)
  simp only[Int.toNat_one] at hcut
  have YQ:(Kd.int .i64).C w3 (if cy=1 then Ay else Option.map (λx=>x.add (1*1)) Ay) (ys.length-1) (ys.drop 1):=by
   rw[List.length_drop] at hcd
   exact hcd
  clear hcd
  generalize(if cy=1 then Ay else Option.map (λx=>x.add (1*1)) Ay)=Ad at YQ hcut
  have Xo:=aa.mk YQ
  have CJ:=aa.mk (HA2.out.later hb3)
  have I9:=aa.mk (zJ.out.below hb3)
  have B63:=aa.mk (LJ.out.below hb3)
  have KW3:=aa.mk (KW2.out.trans (bq.of_below (S:=λb=>b=mb) hb3 KW2.out.size))
  have HR3:=aa.mk (Kd.bV HR2.out hb3)
  have Yo:=hb3.size
  have abZ:g6<w3.heap.size:=by omega
  have hw3:w.heap.size<w3.heap.size:=by omega
  clear YQ hi3 YC hRy hCy hb3 HA2 zJ LJ KW2 HR2 xN DD
  by_cases hl0:l=0
  .have ahE:((l:Int)==0)=true:=by simp[hl0]
   go_wp2_with ((with_reducible refine cz (b:= .append) (xs:=#[.tmp 15,.tmp 21]) rfl ?_);refine Kd.lu (Kd.int .i64) (w.heap.size+1) rfl (.tmp 15) (.tmp 21) 22 3 (.int .i64 0) 8 rfl Tryz.underlying22 info3 rfl (by decide) (by omega) u5 xs (ys.drop 1) _ _ _ (λk=>w.heap.size<k/\k≠g6) (λ_=>False) rfl rfl HR3.out Xo.out (λx cs h=>h) (λ_ hk=>hk.elim) ?aF (Below.refl _ _) ?aS ?aL ?_;(case aF=>exact(λk hk=>by constructor<;>omega));(case aS=>omega);(case aL=>omega);intro vn wn hon hbn hgn fP;have HAn:=aa.mk (CJ.out.keep (n:=w.heap.size+1) (by omega) (bq.of_below (S:=λb=>b=mb) hbn (Nat.le_refl _)) ⟨CJ.out.eZ.eZ.move (hbn.block ga (by omega)),CJ.out.eZ.memo.move (hbn.block mb (by omega)),CJ.out.eZ.ne⟩);have Qa:=aa.mk (I9.out.move (hbn.block _ (by omega)));have Tk:=aa.mk (B63.out.move (hgn.block g6 abZ (λe=>(HR3.out.1 g6 e.symm).2 rfl)));have KWn:=aa.mk (KW3.out.trans (bq.of_below (S:=λb=>b=mb) hbn (by omega)));have Ey:=aa.mk hon;have ahc:=hbn.size;clear hon hbn hgn fP CJ I9 B63 KW3 HR3 Xo hcut;have xN:=Tk.out.cell 0;have DD:=Tk.out.cell 1;have Y4:=Tk.out.frozen 0;have Y3:=Tk.out.frozen 1;have lH:=Qa.out.cell 0;have oI:=Qa.out.cell 1;have o6:=Qa.out.frozen 0;have tH:=Qa.out.frozen 1;simp only[eP,eO] at xN DD lH oI)
   clear xN DD Y4 Y3 lH oI o6 tH
   refine(bU.calls 9 s _ wn (EX hs)).mono ?_
   rintro e w5 ⟨v_,rfl,hRl,hbl⟩
   obtain⟨Al,cl,rfl,hcl,_⟩:=yR hRl
   obtain⟨An,cn,rfl,hcn,_⟩:=Kd.cB Ey.out
   have F9:=aa.mk (HAn.out.later hbl)
   have AA:=aa.mk (Qa.out.below hbl)
   have PG:=aa.mk (KWn.out.trans (bq.of_below (S:=λb=>b=mb) hbl KWn.out.size))
   clear hRl hbl HAn Qa Tk KWn Ey
   have lH:=AA.out.cell 0
   have oI:=AA.out.cell 1
   have o6:=AA.out.frozen 0
   have tH:=AA.out.frozen 1
   simp only[eP,eO] at lH oI
   go_wp2_with fail
   refine bodyPost_ret (results_cell_row rfl _ _ w.heap.size 80 #[.slice An _ cn,.slice Al _ cl] (0,0) _ rfl (AA.out.set2 _ _) Tryz.underlying80 rfl (by kernel_rfl)) rfl ?_
   exact⟨⟨_,_,_,_,_,_,rfl,HY2.out⟩,(F9.out.other (p:=⟨w.heap.size,0,none⟩) (by simp only;omega) (by simp only;omega) (by simp only;omega) _).other (p:=⟨w.heap.size,1,none⟩) (by simp only;omega) (by simp only;omega) (by simp only;omega) _,(PG.out.setCell (p:=⟨w.heap.size,0,none⟩) (.inr (by simp only;omega)) _).setCell (p:=⟨w.heap.size,1,none⟩) (.inr (by simp only;omega)) _⟩
  .have ahE:((l:Int)==0)=false:=by simp[hl0]
   obtain⟨hnm,hrn⟩:=HNX.out hl0
   have PX:=(kC.1 hnm).1
   have hdl:=xV hnm
   have hdrop:=M3 hl PX
   go_wp2_with ((with_reducible refine cz (b:= .append) (xs:=#[.tmp 15,.tmp 21]) rfl ?_);refine Kd.lu (Kd.int .i64) (w.heap.size+1) rfl (.tmp 15) (.tmp 21) 22 3 (.int .i64 0) 8 rfl Tryz.underlying22 info3 rfl (by decide) (by omega) u5 xs (ys.drop 1) _ _ _ (λk=>w.heap.size<k/\k≠g6) (λ_=>False) rfl rfl HR3.out Xo.out (λx cs h=>h) (λ_ hk=>hk.elim) ?aF (Below.refl _ _) ?aS ?aL ?_;(case aF=>exact(λk hk=>by constructor<;>omega));(case aS=>omega);(case aL=>omega);intro vn wn hon hbn hgn fP;have HAn:=aa.mk (CJ.out.keep (n:=w.heap.size+1) (by omega) (bq.of_below (S:=λb=>b=mb) hbn (Nat.le_refl _)) ⟨CJ.out.eZ.eZ.move (hbn.block ga (by omega)),CJ.out.eZ.memo.move (hbn.block mb (by omega)),CJ.out.eZ.ne⟩);have Qa:=aa.mk (I9.out.move (hbn.block _ (by omega)));have Tk:=aa.mk (B63.out.move (hgn.block g6 abZ (λe=>(HR3.out.1 g6 e.symm).2 rfl)));have KWn:=aa.mk (KW3.out.trans (bq.of_below (S:=λb=>b=mb) hbn (by omega)));have Ey:=aa.mk hon;have ahc:=hbn.size;clear hon hbn hgn fP CJ I9 B63 KW3 HR3 Xo hcut;have xN:=Tk.out.cell 0;have DD:=Tk.out.cell 1;have Y4:=Tk.out.frozen 0;have Y3:=Tk.out.frozen 1;have lH:=Qa.out.cell 0;have oI:=Qa.out.cell 1;have o6:=Qa.out.frozen 0;have tH:=Qa.out.frozen 1;simp only[eP,eO] at xN DD lH oI)
   go_region
   have B6f:=aa.mk (Tk.out.set2 (.int .i64 n) (.int .i64 (fM l n:Int)))
   have hwg:w.heap.size<g6:=by omega
   go_wp2_with fail
   go_roundw
   case rel=>
    refine⟨n,fM l n,xs++ys.drop 1,by omega,hnN,λp hp=>HPR.out p (Ry hl PX hp),hrn,?_,?_,HY1,⟨?_⟩,⟨?_⟩,⟨B6f.out⟩,⟨?_⟩,⟨?_⟩⟩
    .simp only[List.length_append,List.length_drop];omega
    .show g6<((wn.setCell _ _).setCell _ _).heap.size
     simp only[World.setCell,Array.size_modify]
     omega
    .exact((HAn.out.other (p:=⟨g6,0,none⟩) (by simp only;omega) (by simp only;omega) (by simp only;omega) _).other (p:=⟨g6,1,none⟩) (by simp only;omega) (by simp only;omega) (by simp only;omega) _).drew
    .exact(Qa.out.move (Below.heap_setCell _ _ _ _ (by simp only;omega))).move (w:=wn.setCell ⟨g6,0,none⟩ _) (Below.heap_setCell _ _ _ _ (by simp only;omega))
    .exact((KWn.out.setCell (p:=⟨g6,0,none⟩) (.inr (by simp only;omega)) _).setCell (p:=⟨g6,1,none⟩) (.inr (by simp only;omega)) _).drew
    .exact Kd.cO (Kd.dx (Kd.dx Ey.out (p:=⟨g6,0,none⟩) (λk hk=>hk.2) _) (p:=⟨g6,1,none⟩) (λk hk=>hk.2) _)
   case measure=>
    have acA:=B6f.out.cell 1
    simp only[eP,eO] at acA
    have h62:((wn.setCell ⟨g6,0,none⟩ (.int .i64 n)).setCell ⟨g6,1,none⟩ (.int .i64 (fM l n:Int))).drew.cell? ⟨g6,1,none⟩=some (.int .i64 (fM l n:Int)):=acA
    rw[I6.out,h62]
    simp[intOf]
    omega
end Go.Proofs.YtkjoilgpmngndaaGreat.Wk
namespace Go.Proofs.YtkjoilgpmngndaaGreat.Wk
open Go.RowKit au YtkjoilgpmngndaaGreatW.aj
def J6(s:Nat):Nat:=s&&&(256-s)
theorem Uf:∀s:Fin 256,Go.bits .and .i64 (s.1:Int) (-(s.1:Int))=(J6 s.1:Int):=by decide +kernel
theorem Vj:∀s p:Fin 256,Go.bits .and .i64 (p.1:Int) (s.1:Int)=((p.1&&&s.1:Nat):Int):=by decide +kernel
theorem Ub:∀s p:Fin 256,p.1&&&s.1=p.1->Go.bits .andNot .i64 (s.1:Int) (p.1:Int)=((s.1-p.1:Nat):Int)/\p.1<=s.1:=by decide +kernel
theorem X9{s:Nat}(h:s<256):Go.bits .and .i64 (s:Int) (-(s:Int))=(J6 s:Int):=Uf ⟨s,h⟩
theorem RZ{s p:Nat}(h:s<256)(hp:p<256):Go.bits .and .i64 (p:Int) (s:Int)=((p&&&s:Nat):Int):=Vj ⟨s,h⟩ ⟨p,hp⟩
theorem X5{s p:Nat}(h:s<256)(hp:p<256)(hs:p&&&s=p):Go.bits .andNot .i64 (s:Int) (p:Int)=((s-p:Nat):Int)/\p<=s:=Ub ⟨s,h⟩ ⟨p,hp⟩ hs
theorem Ya{s:Nat}(h:s<256):J6 s<256:=Nat.lt_of_le_of_lt Nat.and_le_left h
theorem TU(p s:Nat):(p&&&s)&&&s=p&&&s:=by rw[Nat.and_assoc,Nat.and_self]
section
variable (bad:Nat->Bool)
def jg(g:Nat->Option Nat)(s first part:Nat)(b:Option Nat):Option Nat:=
 if part&&&first=0\/bad part=true then b
 else if s≠part/\g (s-part)=none then b
 else match b with
  |none=>some ((g (s-part)).getD 0+1)
  |some n=>if(g (s-part)).getD 0+1<n then some ((g (s-part)).getD 0+1) else some n
def fZ(g:Nat->Option Nat)(s first:Nat):Nat->Nat->Option Nat->Option Nat
 |0,_,b=>b
 |f+1,part,b=>if part=0 then b else fZ g s first f ((part-1)&&&s) (jg bad g s first part b)
def splitN:Nat->Nat->Option Nat
 |0,_=>none
 |f+1,s=>if s=0 then none else fZ bad (splitN f) s (J6 s) s s none
def split(s:Nat):Option Nat:=splitN bad s s
theorem nR{g h:Nat->Option Nat}(s first:Nat)(hg:∀t,t<s->g t=h t):∀(f part:Nat) (b:Option Nat),part<=s->fZ bad g s first f part b=fZ bad h s first f part b
 |0,_,_,_=>rfl
 |f+1,part,b,hp=>by
  unfold fZ
  by_cases e:part=0
  .rw[if_pos e,if_pos e]
  .rw[if_neg e,if_neg e]
   have:jg bad g s first part b=jg bad h s first part b:=by
    unfold jg
    rw[hg (s-part) (by omega)]
   rw[this]
   exact nR s first hg f _ _ (Nat.le_trans Nat.and_le_left (by omega))
theorem zn:∀(f g s:Nat),s<=f->s<=g->splitN bad f s=splitN bad g s
 |0,0,_,_,_=>rfl
 |0,g+1,s,h,_=>by
  obtain rfl:s=0:=by omega
  simp[splitN]
 |f+1,0,s,_,h=>by
  obtain rfl:s=0:=by omega
  simp[splitN]
 |f+1,g+1,s,h,h'=>by
  unfold splitN
  by_cases e:s=0
  .rw[if_pos e,if_pos e]
  .rw[if_neg e,if_neg e]
   exact nR bad s _ (λt ht=>zn f g t (by omega) (by omega)) _ _ _ (Nat.le_refl _)
theorem vY:split bad 0=none:=rfl
theorem Ea(s:Nat)(h:s≠0):split bad s=fZ bad (split bad) s (J6 s) s s none:=by
 obtain⟨f,rfl⟩:∃f,s=f+1:=⟨s-1,by omega⟩
 unfold split
 rw[splitN,if_neg h]
 exact nR bad _ _ (λt ht=>zn bad f t t (by omega) (Nat.le_refl _)) _ _ _ (Nat.le_refl _)
theorem kz(g:Nat->Option Nat)(s first f:Nat)(b:Option Nat):fZ bad g s first f 0 b=b:=by
 cases f with
 |zero=>rfl
 |succ f=>rw[fZ,if_pos rfl]
theorem tT(g:Nat->Option Nat)(s first:Nat):∀(f f' part:Nat) (b:Option Nat),part<=f->part<=f'->fZ bad g s first f part b=fZ bad g s first f' part b
 |0,f',part,b,h,_=>by
  obtain rfl:part=0:=by omega
  rw[kz,kz]
 |f+1,0,part,b,_,h=>by
  obtain rfl:part=0:=by omega
  rw[kz,kz]
 |f+1,f'+1,part,b,h,h'=>by
  unfold fZ
  by_cases e:part=0
  .rw[if_pos e,if_pos e]
  .rw[if_neg e,if_neg e]
   have hle:(part-1)&&&s<=part-1:=Nat.and_le_left
   exact tT g s first f f' _ _ (by omega) (by omega)
theorem AV(g:Nat->Option Nat)(s first part:Nat)(b:Option Nat)(h:part≠0):fZ bad g s first part part b=fZ bad g s first ((part-1)&&&s) ((part-1)&&&s) (jg bad g s first part b):=by
 obtain⟨f,rfl⟩:∃f,part=f+1:=⟨part-1,by omega⟩
 have hle:(f+1-1)&&&s<=f+1-1:=Nat.and_le_left
 rw[fZ,if_neg h]
 exact tT bad g s first f _ _ _ (by omega) (Nat.le_refl _)
end
theorem NU(bad:Nat->Bool):∀(k s:Nat),s<=k->∀n,split bad s=some n->1<=n/\n<=s:=by
 intro k
 induction k with
 |zero=>
  intro s h n e
  obtain rfl:s=0:=by omega
  rw[vY] at e
  cases e
 |succ k ih=>
  intro s h n e
  by_cases hs:s=0
  .subst hs;rw[vY] at e;cases e
  .rw[Ea bad s hs] at e
   have key:∀(f part:Nat) (b:Option Nat),part<=s->(∀m,b=some m->1<=m/\m<=s)->∀m,fZ bad (split bad) s (J6 s) f part b=some m->1<=m/\m<=s:=by
    intro f
    induction f with
    |zero=>exact λpart b _ hb m hm=>hb m hm
    |succ f ihf=>
     intro part b hp hb m hm
     unfold fZ at hm
     by_cases e0:part=0
     .rw[if_pos e0] at hm;exact hb m hm
     .rw[if_neg e0] at hm
      refine ihf _ _ (Nat.le_trans Nat.and_le_left (by omega)) ?_ m hm
      intro m' hm'
      unfold jg at hm'
      have hg:(split bad (s-part)).getD 0+1<=s:=by
       cases hq:split bad (s-part) with
       |none=>simp;omega
       |some q=>
        have:=ih (s-part) (by omega) q hq
        simp
        omega
      split at hm'
      .exact hb m' hm'
      .split at hm'
       .exact hb m' hm'
       .split at hm'
        .obtain rfl:=Option.some.inj hm'
         exact⟨by omega,hg⟩
        .next n'=>
         split at hm'
         .obtain rfl:=Option.some.inj hm'
          exact⟨by omega,hg⟩
         .exact hb m' hm'
   exact key _ _ _ (Nat.le_refl _) (λm hm=>by cases hm) n e
end Go.Proofs.YtkjoilgpmngndaaGreat.Wk
