import Derived.Test.YtdekaocdmjndaaaGreatQ29
import Derived.Test.YtdekaocdmjndaaaGreatQ30
set_option maxHeartbeats 40000000
set_option maxRecDepth 100000
set_option linter.all false
namespace Go.Proofs.YtdekaocdmjndaaaGreat.Wk
open Go.RowKit Go.Shelf ah YtdekaocdmjndaaaGreatW.aj YtdekaocdmjndaaaGreatW.aH
attribute [local go_sem] wW wV
def Ig(Wk:List fG):Prop:=∀r ∈ Wk,0<=r.f0/\r.f0<=r.f1/\r.f1<=50
structure mo(w0 w:World)(A0:Option Addr)(c0:Nat)(Wk:List fG)(A1:Option Addr)(c1:Nat)(R:List dJ)(ga mb:Nat)(T F:Nat->Nat->Int):Prop where
 map:IsMap w0 A0 c0 Wk A1 c1 R
 below:Below w0.heap.size w0 w
 lo:w0.heap.size<=mb
 jO:nX w ga (.slice A0 Wk.length c0) (.slice A1 R.length c1) T F mb
section
variable {w0 w w':World} {A0:Option Addr} {c0:Nat} {Wk:List fG} {A1:Option Addr} {c1:Nat} {R:List dJ} {ga mb:Nat} {T F:Nat->Nat->Int}
theorem mo.keep(h:mo w0 w A0 c0 Wk A1 c1 R ga mb T F){n:Nat}(hn:w0.heap.size<=n)(k:aY n (λb=>b=mb) w w')(ha:nX w' ga (.slice A0 Wk.length c0) (.slice A1 R.length c1) T F mb):mo w0 w' A0 c0 Wk A1 c1 R ga mb T F:=
 ⟨h.map,h.below.trans ⟨k.os,k.tape,k.output,k.size,λi hi=>k.block i (by omega) (by have:=h.lo;omega)⟩,h.lo,ha⟩
theorem mo.now(h:mo w0 w A0 c0 Wk A1 c1 R ga mb T F):IsMap w A0 c0 Wk A1 c1 R:=h.map.below h.below
theorem mo.later(h:mo w0 w A0 c0 Wk A1 c1 R ga mb T F)(hb:Below w.heap.size w w'):mo w0 w' A0 c0 Wk A1 c1 R ga mb T F:=
 ⟨h.map,h.below.trans (hb.mono h.below.size),h.lo,h.jO.keep hb⟩
theorem mo.drew(h:mo w0 w A0 c0 Wk A1 c1 R ga mb T F):mo w0 w.drew A0 c0 Wk A1 c1 R ga mb T F:=⟨h.map,aN h.below,h.lo,h.jO.drew⟩
theorem mo.drewN(h:mo w0 w A0 c0 Wk A1 c1 R ga mb T F)(n:Nat):mo w0 (w.drewN n) A0 c0 Wk A1 c1 R ga mb T F:=⟨h.map,ag h.below n,h.lo,h.jO.drewN n⟩
theorem mo.gt(h:mo w0 w A0 c0 Wk A1 c1 R ga mb T F):w0.heap.size<=w.heap.size:=h.below.size
end
def mD(Wk:List fG)(s k:Nat):Int:=(((places s).take k).map λp=>(cZ Wk p).f1).sum
def vG(T:Nat->Nat->Int)(Wk:List fG)(s:Nat):Int:=(rest T 0 s).1+mD Wk s (places s).length
theorem uW(Wk:List fG)(s:Nat):mD Wk s 0=0:=rfl
theorem uX(Wk:List fG)(s k:Nat)(h:k<(places s).length):mD Wk s (k+1)=mD Wk s k+(cZ Wk ((places s)[k])).f1:=by
 unfold mD
 rw[List.take_succ_eq_append_getElem h,List.map_append,List.sum_append]
 simp
theorem IW(Wk:List fG)(k:Nat)(h:k<Wk.length):cZ Wk k ∈ Wk:=by
 have:cZ Wk k=Wk[k]:=by simp[cZ,sF,List.getD,h]
 rw[this]
 exact List.getElem_mem h
theorem oL{Wk:List fG}(hW:Ig Wk)(s:Nat)(hp:∀p ∈ places s,p<Wk.length):∀k,k<=(places s).length->0<=mD Wk s k/\mD Wk s k<=50*k
 |0,_=>by simp[uW]
 |k+1,h=>by
  rw[uX Wk s k (by omega)]
  have:=oL hW s hp k (by omega)
  have h2:=hW _ (IW Wk _ (hp _ (List.getElem_mem (show k<(places s).length by omega))))
  omega
theorem AU{w0 w:World}{A0:Option Addr}{c0:Nat}{Wk:List fG}{A1:Option Addr}{c1:Nat}{R:List dJ}{ga mb:Nat}{T F:Nat->Nat->Int}(hT:kZ T)(hW:Ig Wk)(s:Nat)(hs:s<256)(hp:∀p ∈ places s,p<Wk.length)(h:mo w0 w A0 c0 Wk A1 c1 R ga mb T F):
  Calls Tryz.prog 139 #[.pointer (some ⟨ga,0,none⟩),.int .i64 s] w λe w'=>e= .returned (.int .i64 (vG T Wk s))/\mo w0 w' A0 c0 Wk A1 c1 R ga mb T F/\aY w.heap.size (λb=>b=mb) w w':=by
 have HT:=aa.mk hT
 have HW:=aa.mk hW
 have HP:=aa.mk hp
 have HA:=aa.mk h
 have hbw:=h.map.bw
 clear hT hW hp h
 go_enter Tryz.func139,Tryz.ntmps139
 go_wp2_with fail
 refine(ng HT.out s hs 0 (by omega) w HA.out.jO).mono ?_
 rintro e w1 ⟨rfl,hA1,hK1⟩
 have HA1:=aa.mk (HA.out.keep HA.out.gt hK1 hA1)
 have pX:=aa.mk hK1
 obtain⟨⟨r0,r1⟩,hr⟩:∃x,rest T 0 s=x:=⟨_,rfl⟩
 have hrb:=jv HT.out 0 s
 rw[hr] at hrb ⊢
 simp only at hrb
 have HR:=aa.mk hr
 unfold iY
 clear hA1 hK1 hr HA
 go_wp2_with fail
 refine(bK.calls 9 s _ w1 (CK hs)).mono ?_
 rintro e wl ⟨v_,rfl,hRl,hbl⟩
 obtain⟨Al,cl,rfl,hcl,hil⟩:=wZ hRl
 rw[List.length_map] at hcl ⊢
 have TM:=aa.mk hil
 have Xx:=aa.mk (HA1.out.later hbl)
 have HKl:=aa.mk (pX.out.trans (aY.of_below (S:=λb=>b=mb) hbl pX.out.size))
 have hpl:=zi s
 clear hRl hil hbl HA1 pX
 go_wp2_with fail
 go_loopw [5,16] (λv5 v16 wr=>∃k:Nat,k<=(places s).length/\v16= .int .i64 k/\v5= .int .i64 (r0+mD Wk s k)/\wr=wl) (λ_ v16 _=>(places s).length-(intOf v16).toNat)
 case atStart=>exact⟨0,Nat.zero_le _,rfl,by rw[uW];simp,rfl⟩
 case round=>
  obtain⟨k,hk,rfl,rfl,rfl⟩:=hrel
  by_cases hkl:k<(places s).length
  .obtain⟨n,hn⟩:∃n,(places s)[k]=n:=⟨_,rfl⟩
   have hnm:n ∈ places s:=by rw[<- hn];exact List.getElem_mem hkl
   have hnl:=HP.out n hnm
   have aem:(n:Int)<Wk.length:=by omega
   obtain⟨gl,hgl,aeA,NQ,QV⟩:=TM.out k (by rw[List.length_map];exact hkl)
   subst hgl
   have hgd:((places s).map (λn:Nat=>(n:Int))).getD k 0=(n:Int):=by simp[List.getD,hkl,hn]
   rw[hgd] at QV
   clear hgd
   have hM0:=Xx.out.jO.jO.map.1
   obtain⟨ad,rfl,hc0,hc1⟩:=Jp Xx.out.now.work n (by omega) aem
   simp only[Int.toNat_natCast] at hc0 hc1
   have hwb:=oL HW.out s HP.out k hk
   have hws:=uX Wk s k hkl
   rw[hn] at hws
   have hwr:=HW.out _ (IW Wk n hnl)
   unfold cZ at hws hwr
   obtain⟨r,hrr⟩:∃r,sF Wk (n:Int)=r:=⟨_,rfl⟩
   rw[hrr] at hc0 hc1 hws hwr
   have HWS:=aa.mk hws
   clear hrr hws
   obtain⟨sm,hsm⟩:∃x,mD Wk s k=x:=⟨_,rfl⟩
   rw[hsm] at hwb HWS
   rw[hsm]
   have hsum:wrap64 (r0+sm+r.f1)=r0+sm+r.f1:=IntWalk.wrap64_in _ (by omega)
   clear hsm NQ
   go_wp2_with fail
   go_roundw
   case rel=>exact⟨k+1,by omega,by go_num,by rw[HWS.out,Int.add_assoc],trivial⟩
   case measure=>simp[intOf];omega
  .obtain rfl:k=(places s).length:=by omega
   go_wp2_with fail
   go_ret
   exact⟨by unfold vG;rw[HR.out];rfl,Xx.out,HKl.out⟩
end Go.Proofs.YtdekaocdmjndaaaGreat.Wk
namespace Go.Proofs.YtdekaocdmjndaaaGreat.Wk
open Go.RowKit ah YtdekaocdmjndaaaGreatW.aj
theorem zx{lo hi a b:Int}(h:iC lo hi a b=true):a<=lo/\lo<=hi/\hi<=b:=by
 unfold iC at h
 simp only[Bool.and_eq_true,decide_eq_true_eq] at h
 exact⟨h.1,h.2.1,h.2.2⟩
theorem wT{n:Nat}{x:Int}(h:j3 n x=true):0<=x/\x<n:=by
 unfold j3 aX at h
 simp only[Bool.and_eq_true,decide_eq_true_eq] at h
 omega
theorem V5{W:List fG}{R:List dJ}(h:iZ W R=0):0<W.length/\W.length<=8/\R.length<=20/\Ig W/\(∀r ∈ R,o6 W.length r)/\qg W R=true:=by
 unfold iZ at h
 by_cases h1:W.length<=8/\R.length<=20
 .rw[if_pos h1] at h
  by_cases h2:W.length=0
  .rw[if_pos h2] at h;cases h
  .rw[if_neg h2] at h
   cases h3:W.all yQ with
   |false=>rw[h3] at h;cases h
   |true=>
    rw[h3,if_pos rfl] at h
    cases h4:qg W R with
    |false=>rw[h4] at h;cases h
    |true=>
     refine⟨by omega,h1.1,h1.2,λr hr=>zx (List.all_eq_true.1 h3 r hr),λr hr=>?_,rfl⟩
     obtain⟨k,hk,rfl⟩:=List.getElem_of_mem hr
     have h5:=List.all_eq_true.1 (show((List.range R.length).all (q9 W R))=true from h4) k (List.mem_range.2 hk)
     have e:bE R k=R[k]:=by simp[bE,iX,List.getD,hk]
     unfold q9 at h5
     rw[e] at h5
     simp only[Bool.and_eq_true,Bool.not_eq_true',beq_eq_false_iff_ne,ne_eq] at h5
     obtain⟨p1,p2,p3,p4,_⟩:=h5
     have q1:=wT p1
     have q2:=wT p2
     have q3:=zx p4
     exact⟨q1.1,q1.2,q2.1,q2.2,p3,q3.1,q3.2.1,q3.2.2⟩
 .rw[if_neg h1] at h;cases h
open Go.RowKit Go.Shelf ah YtdekaocdmjndaaaGreatW.aj YtdekaocdmjndaaaGreatW.aH
theorem Fu{A0:Option Addr}{c0:Nat}{Wk:List fG}{A1:Option Addr}{c1:Nat}{R:List dJ}{w:World}(h:IsMap w A0 c0 Wk A1 c1 R)(hN:Wk.length<=8)(hR:∀r ∈ R,o6 Wk.length r):
  Calls Tryz.prog 138 #[.agg #[.slice A0 Wk.length c0,.slice A1 R.length c1]] w λe w'=>∃ga mb,e= .returned (.pointer (some ⟨ga,0,none⟩))/\w.heap.size<=ga/\mo w w' A0 c0 Wk A1 c1 R ga mb (tm R Wk.length) (fs R Wk.length)/\Below w.heap.size w w':=by
 refine(callsIn_wide.1 (OT h hN hR)).mono ?_
 rintro e w' ⟨ga,mb,rfl,h1,h2,h3,h4,h5⟩
 refine⟨ga,mb,rfl,h3,⟨h,h5,h4,h1,wH.new h2,?_⟩,h5⟩
 rintro rfl
 obtain⟨cs,h6,_⟩:=h1.blk
 rw[h6] at h2
 cases h2
theorem Qx:∀n:Fin 8,wrap64 (2^n.1)=((2^n.1:Nat):Int)/\places (2^n.1)=[n.1]/\2^n.1<256:=by decide +kernel
theorem UM{n:Nat}(h:n<8):wrap64 (2^n)=((2^n:Nat):Int)/\places (2^n)=[n]/\2^n<256:=Qx ⟨n,h⟩
def O7(T F:Nat->Nat->Int)(N:Nat):Prop:=∀n g,n<N->g<N->T n g<1048576->n≠g->∃p:Nat,F n g=(p:Int)/\p<N/\T p g<T n g
theorem JS{ga mb N:Nat}{vW vR:Value}{T F:Nat->Nat->Int}(hN:N<=8)(hT:kZ T)(hF:O7 T F N)(fr F8:Nat)(hfr:fr<N)(hto:F8<N)(hlt:T fr F8<1048576)(w:World)(hA:nX w ga vW vR T F mb):
  Calls Tryz.prog 216 #[.pointer (some ⟨ga,0,none⟩),.int .i64 fr,.int .i64 F8] w λe w'=>∃v xs,e= .returned v/\(Kd.int .i64).R 3 w' w.heap.size (λ_=>True) v xs/\0<xs.length/\xs.length<=1048577/\(N=1->xs.length=1)/\Below w.heap.size w w':=by
 have HT:=aa.mk hT
 have HF:=aa.mk hF
 have HA:=aa.mk hA
 have HL:=aa.mk hlt
 have hga:=hA.jO.lt
 clear hT hF hA hlt
 go_enter Tryz.func216,Tryz.ntmps216
 go_wp2_with ((with_reducible refine dM (N:=9) rfl ?_);refine Kd.Jz (Kd.int .i64) _ 3 ?hg (N:=9) ?hd (xs:=([(fr:Int)]:List Int)) (inner:=[.int .i64 (fr:Int)]) (ok:=λ_=>True) (okp:=λ_=>True) ?hr ?hp (λ_ hk=>hk) trivial (Below.refl _ _) (Nat.le_refl _) (by simp) ?_;(case hd=>rfl);(case hg=>rfl);(case hr=>first|(go_simp;done)|(go_simp;rfl));(case hp=>exact(dH.one (show Kd.M (Kd.int .i64) _ _ _ (fr:Int) [.int .i64 (fr:Int)] from rfl) (dH.none _ _)));intro v1 w1 hr1 hb1 hg1 vN)
 have HB1:=aa.mk hb1
 have HR1:=aa.mk hr1
 clear hb1 hr1 hg1 vN
 have hT0:=HT.out fr F8
 have HL0:=aa.mk HL.out
 go_loopw [1,7] (λv1 v7 wr=>∃(n:Nat) (xs:List Int),n<N/\v1= .int .i64 n/\T n F8<1048576/\aa ((Kd.int .i64).R 3 wr w.heap.size (λ_=>True) v7 xs)/\0<xs.length/\(xs.length:Int)+T n F8<=1048577/\aa (N=1->xs.length=1)/\aa (Below w.heap.size w wr)) (λv1 _ _=>(T (intOf v1).toNat F8).toNat)
 case atStart=>exact⟨fr,[(fr:Int)],hfr,rfl,HL.out,HR1,by simp,by have:=HL.out;simp only[List.length_cons,List.length_nil];omega,⟨λ_=>rfl⟩,HB1⟩
 case round=>
  clear HB1 HR1 hT0
  obtain⟨n,xs,hn,rfl,SV,HR,hx0,hxl,HN1,HB⟩:=hrel
  have hTb:=HT.out n F8
  by_cases e:n=F8
  .subst e
   have heq:((n:Int)==(n:Int))=true:=by simp
   go_wp2_with fail
   go_ret
   exact⟨_,_,rfl,HR.out,hx0,by omega,HN1.out,HB.out⟩
  .have heq:((n:Int)==(F8:Int))=false:=by simp only[beq_eq_false_iff_ne,ne_eq];omega
   obtain⟨p,hp,hpN,hpl⟩:=HF.out n F8 hn hto SV e
   have hFc:=(HA.out.keep HB.out).jO.first (i:=n) (j:=F8) (by omega) (by omega)
   rw[hp] at hFc
   have FV:(n:Int)<8:=by omega
   have ht8:(F8:Int)<8:=by omega
   have hTp:=HT.out p F8
   clear hp
   go_wp2_with ((with_reducible refine dN (b:= .append) (xs:=#[.tmp 21,.tmp 23]) rfl ?_);at_builtin;refine Kd.jF (Kd.int .i64) (w0:=w) w.heap.size rfl (.tmp 21) (.tmp 23) 30 3 (.int .i64 0) 8 rfl Tryz.underlying30 info3 rfl (by decide) (by omega) u7 xs (p:Int) [.int .i64 (p:Int)] (λ_=>True) (λ_=>False) rfl rfl ?aP (λ_ hk=>hk.elim) ?aF ?aO ?aB ?aS ?aL ?_;(case aP=>exact rfl);(case aB=>exact(by repeat(first|(with_reducible first|exact HB.out|apply ae|apply ag|apply ak)|exact HB.out)));(case aF=>exact(λ_ _=>trivial));(case aO=>exact(by(with_reducible repeat(first|apply Kd.bH|apply Kd.bQ|apply Kd.bX));exact HR.out));(case aS=>exact(aT (by repeat(first|(with_reducible first|exact HB.out|apply ae|apply ag|apply ak)|exact HB.out))));(case aL=>omega);intro vn wn hon hbn hgn iP;have JG:=aa.mk hbn;have FJ:=aa.mk hon;clear hon hbn hgn iP)
   go_roundw
   case rel=>exact⟨p,xs++[(p:Int)],hpN,rfl,by omega,FJ,by simp,by simp only[List.length_append,List.length_cons,List.length_nil];omega,⟨λh=>absurd (show n=F8 by omega) e⟩,JG⟩
   case measure=>simp[intOf];omega
structure z8(N g:Nat)(s:(Nat->Int)×(Nat->Int)):Prop where
 b:Bounded s.1
 z:s.1 g=0
 f:∀n,n<N->n≠g->s.1 n<1048576->∃q:Nat,s.2 n=(q:Int)/\q<N/\s.1 q<s.1 n
theorem Dl{N g p:Nat}(hp:p<N){s:(Nat->Int)×(Nat->Int)}{x:Int×Int}(h:z8 N g s)(h0:0<=x.1)(h1:x.1≠p)(h2:1<=x.2):z8 N g (oh p s x):=by
 refine⟨tN h.b h2,?_,?_⟩
 .unfold oh
  by_cases e:s.1 p+x.2<s.1 x.1.toNat
  .rw[if_pos e]
   simp only[upd]
   by_cases e2:g=x.1.toNat
   .rw[<- e2,h.z] at e
    have:=(h.b p).1
    omega
   .rw[if_neg e2,h.z]
  .rw[if_neg e,h.z]
 .intro n hn hg hlt
  unfold oh at hlt ⊢
  by_cases e:s.1 p+x.2<s.1 x.1.toNat
  .rw[if_pos e] at hlt ⊢
   have hpx:p≠x.1.toNat:=by omega
   simp only[upd] at hlt ⊢
   by_cases e2:n=x.1.toNat
   .rw[if_pos e2]
    refine⟨p,rfl,hp,?_⟩
    rw[if_neg hpx,if_pos e2]
    omega
   .rw[if_neg e2] at hlt ⊢
    obtain⟨q,h3,h4,h5⟩:=h.f n hn hg hlt
    refine⟨q,h3,h4,?_⟩
    rw[if_neg e2]
    by_cases e3:q=x.1.toNat
    .rw[if_pos e3]
     rw[e3] at h5
     omega
    .rw[if_neg e3]
     exact h5
  .rw[if_neg e] at hlt ⊢
   exact h.f n hn hg hlt
theorem Ff{N g p:Nat}(hp:p<N)(l:List (Int×Int)):∀(s:(Nat->Int)×(Nat->Int)),z8 N g s->(∀x ∈ l,0<=x.1/\x.1≠p/\1<=x.2)->z8 N g (l.foldl (oh p) s):=by
 induction l with
 |nil=>exact λs h _=>h
 |cons x l ih=>
  intro s h hl
  rw[List.foldl_cons]
  have:=hl x List.mem_cons_self
  exact ih _ (Dl hp h this.1 this.2.1 this.2.2) (λy hy=>hl y (List.mem_cons_of_mem _ hy))
theorem Ce{R:List dJ}{N g:Nat}(hR:∀r ∈ R,o6 N r)(hg:g<N):∀i,i<=N->z8 N g ((gW R N g i).c,(gW R N g i).f)
 |0,_=>by
  refine⟨qL N g,by simp[gW,vX],λn hn hng hlt=>?_⟩
  simp only[gW,vX,if_neg hng,if_pos hn] at hlt
  omega
 |i+1,hi=>by
  have ih:=Ce hR hg i (by omega)
  obtain⟨p,hp,hpN,_⟩:=zL R N g i (by omega)
  have:=Ff hpN (qR R (p:Int)) _ ih (λx hx=>⟨(yC hR x hx).1,(yC hR x hx).2.2.1,(yC hR x hx).2.2.2.1⟩)
  simp only[gW,vV,hp,Int.toNat_natCast]
  exact this
theorem Mt{R:List dJ}{N:Nat}(hR:∀r ∈ R,o6 N r):O7 (tm R N) (fs R N) N:=by
 intro n g hn hg hlt hne
 unfold tm fs at *
 rw[if_pos hg] at *
 obtain⟨q,h1,h2,h3⟩:=(Ce hR hg N (Nat.le_refl _)).f n hn hne hlt
 exact⟨q,h1,h2,by rw[if_pos hg,if_pos hg];exact h3⟩
end Go.Proofs.YtdekaocdmjndaaaGreat.Wk
namespace Go.Proofs.YtdekaocdmjndaaaGreat.Wk
open Go.RowKit Go.Shelf ah YtdekaocdmjndaaaGreatW.aj YtdekaocdmjndaaaGreatW.aH
attribute [local go_sem] wW wV
theorem Dh:∀s:Fin 256,∀n:Fin 8,∀m:Fin 8,(eG s.1 n.1).testBit m.1=true->s.1.testBit m.1=true:=by decide +kernel
theorem OC{s n m:Nat}(hs:s<256)(hn:n<8)(h:m ∈ places (eG s n)):m ∈ places s:=by
 obtain⟨h1,h2⟩:=lF.1 h
 exact lF.2 ⟨h1,Dh ⟨s,hs⟩ ⟨n,hn⟩ ⟨m,h1⟩ h2⟩
theorem mo.other{w0 w:World}{A0:Option Addr}{c0:Nat}{Wk:List fG}{A1:Option Addr}{c1:Nat}{R:List dJ}{ga mb:Nat}{T F:Nat->Nat->Int}(h:mo w0 w A0 c0 Wk A1 c1 R ga mb T F){p:Addr}(h0:w0.heap.size<=p.block)(h1:p.block≠ga)(h2:p.block≠mb)(u:Value):mo w0 (w.setCell p u) A0 c0 Wk A1 c1 R ga mb T F:=
 ⟨h.map,h.below.setCell h0 u,h.lo,h.jO.other h1 h2 u⟩
theorem F7{w0 w:World}{A0:Option Addr}{c0:Nat}{Wk:List fG}{A1:Option Addr}{c1:Nat}{R:List dJ}{ga mb:Nat}{T F:Nat->Nat->Int}(hN:Wk.length<=8)(hN0:0<Wk.length)(hT:kZ T)(hF:O7 T F Wk.length)(s:Nat)(hs:s<256)(hp:∀p ∈ places s,p<Wk.length)(hlt:(rest T 0 s).1<1048576)(h:mo w0 w A0 c0 Wk A1 c1 R ga mb T F):
  Calls Tryz.prog 140 #[.pointer (some ⟨ga,0,none⟩),.int .i64 s] w λe w'=>(∃a1 n1 d1 a2 n2 d2,e= .returned (.agg #[.slice a1 n1 d1,.slice a2 n2 d2])/\(Wk.length=1->n1=1))/\mo w0 w' A0 c0 Wk A1 c1 R ga mb T F/\aY w.heap.size (λb=>b=mb) w w':=by
 have HT:=aa.mk hT
 have HF:=aa.mk hF
 have HP:=aa.mk hp
 have HL:=aa.mk hlt
 have HA:=aa.mk h
 have hga:=h.jO.jO.lt
 have hmb:=h.jO.memo.lt
 have hw0:=h.gt
 clear hT hF hp hlt h
 go_enter Tryz.func140,Tryz.ntmps140
 go_wp2_with ((with_reducible refine dM (N:=8) rfl ?_);refine Kd.Jz (Kd.int .i64) _ 3 ?hg (N:=8) ?hd (xs:=([(0:Int)]:List Int)) (inner:=[.int .i64 (0:Int)]) (ok:=(λk=>w.heap.size<=k)) (okp:=(λk=>w.heap.size<=k)) ?hr ?hp (λ_ hk=>hk) (by simp) (Below.refl _ _) (Nat.le_refl _) (by simp) ?_;(case hd=>rfl);(case hg=>rfl);(case hr=>first|(go_simp;done)|(go_simp;rfl));(case hp=>exact(dH.one (show Kd.M (Kd.int .i64) _ _ _ (0:Int) [.int .i64 (0:Int)] from rfl) (dH.none _ _)));intro v1 w1 hr1 hb1 hg1 vN)
 have hs1:(w.alloc (.cells #[.slice none 0 0,.slice none 0 0] 148)).heap.size=w.heap.size+1:=by simp
 rw[hs1] at hr1 hb1 vN
 have HA1:=aa.mk (((HA.out.later (ae (Below.refl _ _) (.cells #[.slice none 0 0,.slice none 0 0] 148))).later (by rw[hs1];exact hb1)).later (ae (Below.refl _ _) (.cells #[.int .i64 0,.int .i64 s] 349)))
 have B4:=aa.mk (((aV.new w [.slice none 0 0,.slice none 0 0] 148).below (by rw[hs1];exact hb1)).alloc (.cells #[.int .i64 0,.int .i64 s] 349))
 have B6:=aa.mk (aV.new w1 [.int .i64 0,.int .i64 s] 349)
 have hw1:=hb1.size
 rw[hs1] at hw1
 have KW:=aa.mk ((((aY.refl w.heap.size (λb=>b=mb) w).alloc (Nat.le_refl _) (.cells #[.slice none 0 0,.slice none 0 0] 148)).trans (aY.of_below hb1 (by omega))).alloc (by omega) (.cells #[.int .i64 0,.int .i64 s] 349))
 obtain⟨g6,hg6⟩:∃g,w1.heap.size=g:=⟨_,rfl⟩
 have Xp:=aa.mk (Kd.bH (Kd.bM (ok':=λk=>w.heap.size<k/\k≠g6) (Kd.bL hr1) (λk hk=>⟨by have:=hk.2.1;omega,by have:=hk.2.2.1;omega⟩)) (.cells #[.int .i64 0,.int .i64 s] 349))
 rw[hg6] at B6 hw1 ⊢
 have hsz:(w1.alloc (.cells #[.int .i64 0,.int .i64 s] 349)).heap.size=g6+1:=by simp[hg6]
 clear hs1 hr1 hb1 hg1 vN hg6 HA
 generalize w1.alloc (.cells #[.int .i64 0,.int .i64 s] 349)=ws at HA1 B4 B6 KW Xp hsz ⊢
 go_loopw [5] (λv5 wr=>∃(a l:Nat) (xs:List Int),l<256/\a<Wk.length/\(∀p ∈ places l,p<Wk.length)/\(rest T a l).1<1048576/\(xs.length+1048577*l<=1+1048577*256)/\g6<wr.heap.size/\aa (Wk.length=1->xs.length=1)/\aa (mo w0 wr A0 c0 Wk A1 c1 R ga mb T F)/\aa (aV wr w.heap.size [.slice none 0 0,.slice none 0 0] 148)/\aa (aV wr g6 [.int .i64 a,.int .i64 l] 349)/\aa (aY w.heap.size (λb=>b=mb) w wr)/\aa ((Kd.int .i64).R 3 wr (w.heap.size+1) (λk=>w.heap.size<k/\k≠g6) v5 xs)) (λ_ wr=>(intOf ((wr.cell? ⟨g6,1,none⟩).getD undef)).toNat)
 case atStart=>exact⟨0,s,[(0:Int)],hs,hN0,HP.out,HL.out,by simp only[List.length_cons,List.length_nil];omega,by omega,⟨λ_=>rfl⟩,HA1,B4,B6,KW,Xp⟩
 case round=>
  clear HA1 B4 B6 KW Xp hsz HP HL
  obtain⟨a,l,xs,hl,ha,hp,hlt,hxl,hg6,FX,HA,B4,B6,KW,Xp⟩:=hrel
  have Bd:=B6.out.cell 0
  have KX:=B6.out.cell 1
  simp only[dZ,dY] at Bd KX
  have FY:=aa.mk (show(intOf ((wr.cell? ⟨g6,1,none⟩).getD undef)).toNat=l by rw[KX];simp[intOf])
  obtain⟨n,hnN,hn,SV,hnx⟩:∃n:Nat,n<Wk.length/\(rest T a l).2=(n:Int)/\T a n<1048576/\(l≠0->n ∈ places l/\(rest T n (eG l n)).1<1048576):=by
   by_cases e:l=0
   .subst e
    exact⟨0,hN0,rfl,hlt,λh=>absurd rfl h⟩
   .obtain⟨n,h1,h2,h3⟩:=J6 HT.out a l e hlt
    have h4:=HT.out a n
    have h5:=(jv HT.out n (eG l n)).1
    exact⟨n,hp n h1,h2,by omega,λ_=>⟨h1,by omega⟩⟩
  obtain⟨r0,hr⟩:∃x,(rest T a l).1=x:=⟨_,rfl⟩
  have hrest:iY (rest T a l)= .agg #[.int .i64 r0,.int .i64 n]:=by unfold iY;rw[hn,hr]
  have HPR:=aa.mk hp
  have FL:=aa.mk hnx
  clear hp hnx
  go_wp2_with fail
  refine(ng HT.out l hl a (by omega) wr HA.out.jO).mono ?_
  rintro e w2 ⟨rfl,hA2,hK2⟩
  rw[hrest]
  have PV:=B4.out.lt
  have akS:mb<wr.heap.size:=HA.out.jO.memo.lt
  have akR:mb<w.heap.size:=hmb
  have HA2:=aa.mk (HA.out.keep HA.out.gt hK2 hA2)
  have Me:=aa.mk (B4.out.move (hK2.block _ (by omega) (by omega)))
  have ak4:g6≠mb:=by omega
  have B62:=aa.mk (B6.out.move (hK2.block _ (by omega) (by omega)))
  have KW2:=aa.mk (KW.out.trans (hK2.mono KW.out.size (λ_ _ h=>h)))
  have HR2:=aa.mk (Kd.gz Xp.out (λk hk hlt=>hK2.block k hlt (by have:=hk.1;omega)))
  have hsz2:=hK2.size
  clear hA2 hK2 HA B4 B6 KW Xp Bd KX hrest
  have Bd:=B62.out.cell 0
  have KX:=B62.out.cell 1
  simp only[dZ,dY] at Bd KX
  go_wp2_with fail
  refine(JS hN HT.out HF.out a n ha hnN SV w2 HA2.out.jO).mono ?_
  rintro e w3 ⟨vy,ys,rfl,hRy,hy0,hyl,hy1,hb3⟩
  have HY1:=aa.mk (λh:Wk.length=1=>show(xs++ys.drop 1).length=1 by rw[List.length_append,List.length_drop,FX.out h,hy1 h])
  have HY2:=aa.mk (λh:Wk.length=1=>show xs.length+(ys.length-1)=1 by rw[FX.out h,hy1 h])
  clear hy1
  obtain⟨Ay,cy,rfl,hcy,hCy⟩:=Kd.dB hRy
  have hcd:=Kd.Ab (m:=1) hCy (by omega) hcy
  obtain⟨i3,hi3,uA⟩:=Option.map_eq_some_iff.1 info3
  simp only[Prod.mk.injEq] at uA
  have hcut:=rM (P:=Tryz.prog) 30 3 .i64 Tryz.underlying30 hi3 1 uA.2.1 Ay ys.length cy 1 (by omega) (by omega)
  simp only[Int.toNat_one] at hcut
  have qy:(Kd.int .i64).C w3 (if cy=1 then Ay else Option.map (λx=>x.add (1*1)) Ay) (ys.length-1) (ys.drop 1):=by
   rw[List.length_drop] at hcd
   exact hcd
  clear hcd
  generalize(if cy=1 then Ay else Option.map (λx=>x.add (1*1)) Ay)=Ad at qy hcut
  have FO:=aa.mk qy
  have P8:=aa.mk (HA2.out.later hb3)
  have Mo:=aa.mk (Me.out.below hb3)
  have B63:=aa.mk (B62.out.below hb3)
  have KW3:=aa.mk (KW2.out.trans (aY.of_below (S:=λb=>b=mb) hb3 KW2.out.size))
  have HR3:=aa.mk (Kd.dm HR2.out hb3)
  have akE:=hb3.size
  have YD:g6<w3.heap.size:=by omega
  have hw3:w.heap.size<w3.heap.size:=by omega
  clear qy hi3 uA hRy hCy hb3 HA2 Me B62 KW2 HR2 Bd KX
  by_cases hl0:l=0
  .have aez:((l:Int)==0)=true:=by simp[hl0]
   go_wp2_with ((with_reducible refine dN (b:= .append) (xs:=#[.tmp 15,.tmp 21]) rfl ?_);refine Kd.o7 (Kd.int .i64) (w.heap.size+1) rfl (.tmp 15) (.tmp 21) 30 3 (.int .i64 0) 8 rfl Tryz.underlying30 info3 rfl (by decide) (by omega) u5 xs (ys.drop 1) _ _ _ (λk=>w.heap.size<k/\k≠g6) (λ_=>False) rfl rfl HR3.out FO.out (λx cs h=>h) (λ_ hk=>hk.elim) ?aF (Below.refl _ _) ?aS ?aL ?_;(case aF=>exact(λk hk=>by constructor<;>omega));(case aS=>omega);(case aL=>omega);intro vn wn hon hbn hgn iP;have HAn:=aa.mk (P8.out.keep (n:=w.heap.size+1) (by omega) (aY.of_below (S:=λb=>b=mb) hbn (Nat.le_refl _)) ⟨P8.out.jO.jO.move (hbn.block ga (by omega)),P8.out.jO.memo.move (hbn.block mb (by omega)),P8.out.jO.ne⟩);have Mm:=aa.mk (Mo.out.move (hbn.block _ (by omega)));have PQ:=aa.mk (B63.out.move (hgn.block g6 YD (λe=>(HR3.out.1 g6 e.symm).2 rfl)));have KWn:=aa.mk (KW3.out.trans (aY.of_below (S:=λb=>b=mb) hbn (by omega)));have FJ:=aa.mk hon;have aeh:=hbn.size;clear hon hbn hgn iP P8 Mo B63 KW3 HR3 FO hcut;have Bd:=PQ.out.cell 0;have KX:=PQ.out.cell 1;have Vw:=PQ.out.frozen 0;have Vv:=PQ.out.frozen 1;have xm:=Mm.out.cell 0;have xk:=Mm.out.cell 1;have yl:=Mm.out.frozen 0;have yj:=Mm.out.frozen 1;simp only[dZ,dY] at Bd KX xm xk)
   clear Bd KX Vw Vv xm xk yl yj
   refine(bK.calls 9 s _ wn (CK hs)).mono ?_
   rintro e w5 ⟨v_,rfl,hRl,hbl⟩
   obtain⟨Al,cl,rfl,hcl,_⟩:=wZ hRl
   obtain⟨An,cn,rfl,hcn,_⟩:=Kd.dB FJ.out
   have HA5:=aa.mk (HAn.out.later hbl)
   have Md:=aa.mk (Mm.out.below hbl)
   have KW5:=aa.mk (KWn.out.trans (aY.of_below (S:=λb=>b=mb) hbl KWn.out.size))
   clear hRl hbl HAn Mm PQ KWn FJ
   have xm:=Md.out.cell 0
   have xk:=Md.out.cell 1
   have yl:=Md.out.frozen 0
   have yj:=Md.out.frozen 1
   simp only[dZ,dY] at xm xk
   go_wp2_with fail
   refine bodyPost_ret (results_cell_row rfl _ _ w.heap.size 148 #[.slice An _ cn,.slice Al _ cl] (0,0) _ rfl (Md.out.set2 _ _) Tryz.underlying148 rfl (by kernel_rfl)) rfl ?_
   exact⟨⟨_,_,_,_,_,_,rfl,HY2.out⟩,(HA5.out.other (p:=⟨w.heap.size,0,none⟩) (by simp only;omega) (by simp only;omega) (by simp only;omega) _).other (p:=⟨w.heap.size,1,none⟩) (by simp only;omega) (by simp only;omega) (by simp only;omega) _,(KW5.out.setCell (p:=⟨w.heap.size,0,none⟩) (.inr (by simp only;omega)) _).setCell (p:=⟨w.heap.size,1,none⟩) (.inr (by simp only;omega)) _⟩
  .have aez:((l:Int)==0)=false:=by simp[hl0]
   obtain⟨hnm,hrn⟩:=FL.out hl0
   have FV:=(lF.1 hnm).1
   have hdl:=vT hnm
   have hdrop:=Jg hl FV
   go_wp2_with ((with_reducible refine dN (b:= .append) (xs:=#[.tmp 15,.tmp 21]) rfl ?_);refine Kd.o7 (Kd.int .i64) (w.heap.size+1) rfl (.tmp 15) (.tmp 21) 30 3 (.int .i64 0) 8 rfl Tryz.underlying30 info3 rfl (by decide) (by omega) u5 xs (ys.drop 1) _ _ _ (λk=>w.heap.size<k/\k≠g6) (λ_=>False) rfl rfl HR3.out FO.out (λx cs h=>h) (λ_ hk=>hk.elim) ?aF (Below.refl _ _) ?aS ?aL ?_;(case aF=>exact(λk hk=>by constructor<;>omega));(case aS=>omega);(case aL=>omega);intro vn wn hon hbn hgn iP;have HAn:=aa.mk (P8.out.keep (n:=w.heap.size+1) (by omega) (aY.of_below (S:=λb=>b=mb) hbn (Nat.le_refl _)) ⟨P8.out.jO.jO.move (hbn.block ga (by omega)),P8.out.jO.memo.move (hbn.block mb (by omega)),P8.out.jO.ne⟩);have Mm:=aa.mk (Mo.out.move (hbn.block _ (by omega)));have PQ:=aa.mk (B63.out.move (hgn.block g6 YD (λe=>(HR3.out.1 g6 e.symm).2 rfl)));have KWn:=aa.mk (KW3.out.trans (aY.of_below (S:=λb=>b=mb) hbn (by omega)));have FJ:=aa.mk hon;have aeh:=hbn.size;clear hon hbn hgn iP P8 Mo B63 KW3 HR3 FO hcut;have Bd:=PQ.out.cell 0;have KX:=PQ.out.cell 1;have Vw:=PQ.out.frozen 0;have Vv:=PQ.out.frozen 1;have xm:=Mm.out.cell 0;have xk:=Mm.out.cell 1;have yl:=Mm.out.frozen 0;have yj:=Mm.out.frozen 1;simp only[dZ,dY] at Bd KX xm xk)
   go_region
   have B6f:=aa.mk (PQ.out.set2 (.int .i64 n) (.int .i64 (eG l n:Int)))
   have hwg:w.heap.size<g6:=by omega
   go_wp2_with fail
   go_roundw
   case rel=>
    refine⟨n,eG l n,xs++ys.drop 1,by omega,hnN,λp hp=>HPR.out p (OC hl FV hp),hrn,?_,?_,HY1,⟨?_⟩,⟨?_⟩,⟨B6f.out⟩,⟨?_⟩,⟨?_⟩⟩
    .simp only[List.length_append,List.length_drop];omega
    .show g6<((wn.setCell _ _).setCell _ _).heap.size
     simp only[World.setCell,Array.size_modify]
     omega
    .exact((HAn.out.other (p:=⟨g6,0,none⟩) (by simp only;omega) (by simp only;omega) (by simp only;omega) _).other (p:=⟨g6,1,none⟩) (by simp only;omega) (by simp only;omega) (by simp only;omega) _).drew
    .exact(Mm.out.move (Below.heap_setCell _ _ _ _ (by simp only;omega))).move (w:=wn.setCell ⟨g6,0,none⟩ _) (Below.heap_setCell _ _ _ _ (by simp only;omega))
    .exact((KWn.out.setCell (p:=⟨g6,0,none⟩) (.inr (by simp only;omega)) _).setCell (p:=⟨g6,1,none⟩) (.inr (by simp only;omega)) _).drew
    .exact Kd.bX (Kd.gP (Kd.gP FJ.out (p:=⟨g6,0,none⟩) (λk hk=>hk.2) _) (p:=⟨g6,1,none⟩) (λk hk=>hk.2) _)
   case measure=>
    have Y7:=B6f.out.cell 1
    simp only[dZ,dY] at Y7
    have h62:((wn.setCell ⟨g6,0,none⟩ (.int .i64 n)).setCell ⟨g6,1,none⟩ (.int .i64 (eG l n:Int))).drew.cell? ⟨g6,1,none⟩=some (.int .i64 (eG l n:Int)):=Y7
    rw[FY.out,h62]
    simp[intOf]
    omega
end Go.Proofs.YtdekaocdmjndaaaGreat.Wk
namespace Go.Proofs.YtdekaocdmjndaaaGreat.Wk
open Go.RowKit Go.Shelf ah YtdekaocdmjndaaaGreatW.aj
def wQ(l:List Int):Bool:=(dP.f (l.length+1) l).getD false
theorem Gh(l:List Int)(hl:l.length<1000000):∀(d:Nat) (i:Nat),1<=i->l.length+1-i<=d->∃r,dP.l0 (d+1) l i=some r:=by
 intro d
 induction d with
 |zero=>
  intro i h1 h2
  unfold dP.l0
  rw[if_neg (by omega)]
  exact⟨_,rfl⟩
 |succ d ih=>
  intro i h1 h2
  unfold dP.l0
  by_cases h:(i:Int)<l.length
  .have e1:wrap64 ((i:Int)-1)=(i:Int)-1:=by unfold wrap64;omega
   have e2:wrap64 ((i:Int)+1)=((i+1:Nat):Int):=by unfold wrap64;omega
   rw[if_pos h,if_pos (by omega),e1,if_pos (by omega),if_pos (by omega),e2]
   by_cases h3:rd l (i:Int)<=rd l ((i:Int)-1)
   .rw[if_pos h3];exact⟨_,rfl⟩
   .rw[if_neg h3];exact ih (i+1) (by omega) (by omega)
  .rw[if_neg h]
   exact⟨_,rfl⟩
theorem MO(l:List Int)(hl:l.length<1000000):dP.f (l.length+1) l=some (wQ l):=by
 obtain⟨r,h⟩:=Gh l hl l.length 1 (by omega) (by omega)
 have h':dP.f (l.length+1) l=some r:=h
 unfold wQ
 rw[h']
 rfl
end Go.Proofs.YtdekaocdmjndaaaGreat.Wk
