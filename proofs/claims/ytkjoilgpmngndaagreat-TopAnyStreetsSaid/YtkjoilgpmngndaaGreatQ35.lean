import Derived.BigRegion
import Derived.Test.YtkjoilgpmngndaaGreatQ33
import Derived.Test.YtkjoilgpmngndaaGreatQ34
set_option linter.all false
namespace Go.Proofs.YtkjoilgpmngndaaGreat.Wk
open Go.RowKit Go.Shelf Go.Proofs.YtkjoilgpmngndaaGreat.av Go.Proofs.YtkjoilgpmngndaaGreatW.aA Go.Proofs.YtkjoilgpmngndaaGreatW.aJ
attribute [local go_sem] xZ xY
def Ny(Wk:List mo):Prop:=∀r ∈ Wk,0<=r.f0/\r.f0<=r.f1/\r.f1<=50
structure ng(w0 w:World)(A0:Option Addr)(c0:Nat)(Wk:List mo)(A1:Option Addr)(c1:Nat)(R:List dR)(ga mb:Nat)(T F:Nat->Nat->Int):Prop where
 map:IsMap w0 A0 c0 Wk A1 c1 R
 below:Below w0.heap.size w0 w
 lo:w0.heap.size<=mb
 kC:oK w ga (.slice A0 Wk.length c0) (.slice A1 R.length c1) T F mb
section
variable {w0 w w':World} {A0:Option Addr} {c0:Nat} {Wk:List mo} {A1:Option Addr} {c1:Nat} {R:List dR} {ga mb:Nat} {T F:Nat->Nat->Int}
theorem ng.keep(h:ng w0 w A0 c0 Wk A1 c1 R ga mb T F){n:Nat}(hn:w0.heap.size<=n)(k:bq n (fun b=>b=mb) w w')(ha:oK w' ga (.slice A0 Wk.length c0) (.slice A1 R.length c1) T F mb):ng w0 w' A0 c0 Wk A1 c1 R ga mb T F:=
 ⟨h.map,h.below.trans ⟨k.os,k.tape,k.output,k.size,fun i hi=>k.block i (by omega) (by have:=h.lo;omega)⟩,h.lo,ha⟩
theorem ng.now(h:ng w0 w A0 c0 Wk A1 c1 R ga mb T F):IsMap w A0 c0 Wk A1 c1 R:=h.map.below h.below
theorem ng.later(h:ng w0 w A0 c0 Wk A1 c1 R ga mb T F)(hb:Below w.heap.size w w'):ng w0 w' A0 c0 Wk A1 c1 R ga mb T F:=
 ⟨h.map,h.below.trans (hb.mono h.below.size),h.lo,h.kC.keep hb⟩
theorem ng.drew(h:ng w0 w A0 c0 Wk A1 c1 R ga mb T F):ng w0 w.drew A0 c0 Wk A1 c1 R ga mb T F:=⟨h.map,bG h.below,h.lo,h.kC.drew⟩
theorem ng.drewN(h:ng w0 w A0 c0 Wk A1 c1 R ga mb T F)(n:Nat):ng w0 (w.drewN n) A0 c0 Wk A1 c1 R ga mb T F:=⟨h.map,ah h.below n,h.lo,h.kC.drewN n⟩
theorem ng.gt(h:ng w0 w A0 c0 Wk A1 c1 R ga mb T F):w0.heap.size<=w.heap.size:=h.below.size
end
def nk(Wk:List mo)(s k:Nat):Int:=(((places s).take k).map fun p=>(dG Wk p).f1).sum
def vM(T:Nat->Nat->Int)(Wk:List mo)(s:Nat):Int:=(rest T 0 s).1+nk Wk s (places s).length
theorem vw(Wk:List mo)(s:Nat):nk Wk s 0=0:=rfl
theorem vz(Wk:List mo)(s k:Nat)(h:k<(places s).length):nk Wk s (k+1)=nk Wk s k+(dG Wk ((places s)[k])).f1:=by
 unfold nk
 rw[List.take_succ_eq_append_getElem h,List.map_append,List.sum_append]
 simp
theorem Oj(Wk:List mo)(k:Nat)(h:k<Wk.length):dG Wk k ∈ Wk:=by
 have:dG Wk k=Wk[k]:=by simp[dG,xV,List.getD,h]
 rw[this]
 exact List.getElem_mem h
theorem pI{Wk:List mo}(hW:Ny Wk)(s:Nat)(hp:∀p ∈ places s,p<Wk.length):∀k,k<=(places s).length->0<=nk Wk s k/\nk Wk s k<=50*k
 |0,_=>by simp[vw]
 |k+1,h=>by
  rw[vz Wk s k (by omega)]
  have:=pI hW s hp k (by omega)
  have h2:=hW _ (Oj Wk _ (hp _ (List.getElem_mem (show k<(places s).length by omega))))
  omega
set_option maxRecDepth 100000 in
set_option maxHeartbeats 40000000 in
theorem Cs{w0 w:World}{A0:Option Addr}{c0:Nat}{Wk:List mo}{A1:Option Addr}{c1:Nat}{R:List dR}{ga mb:Nat}{T F:Nat->Nat->Int}(hT:lS T)(hW:Ny Wk)(s:Nat)(hs:s<256)(hp:∀p ∈ places s,p<Wk.length)(h:ng w0 w A0 c0 Wk A1 c1 R ga mb T F):
  Calls Tryz.prog 68 #[.pointer (some ⟨ga,0,none⟩),.int .i64 s] w fun e w'=>e= .returned (.int .i64 (vM T Wk s))/\ng w0 w' A0 c0 Wk A1 c1 R ga mb T F/\bq w.heap.size (fun b=>b=mb) w w':=by
 have HT:=aa.mk hT
 have HW:=aa.mk hW
 have HP:=aa.mk hp
 have HA:=aa.mk h
 have hbw:=h.map.bw
 clear hT hW hp h
 go_enter Tryz.func68,Tryz.ntmps68
 go_wp2_with fail
 refine(nR HT.out s hs 0 (by omega) w HA.out.kC).mono ?_
 rintro e w1 ⟨rfl,hA1,hK1⟩
 have HA1:=aa.mk (HA.out.keep HA.out.gt hK1 hA1)
 have qU:=aa.mk hK1
 obtain⟨⟨r0,r1⟩,hr⟩:∃x,rest T 0 s=x:=⟨_,rfl⟩
 have hrb:=jU HT.out 0 s
 rw[hr] at hrb ⊢
 simp only at hrb
 have HR:=aa.mk hr
 unfold jA
 clear hA1 hK1 hr HA
 go_wp2_with fail
 refine(bU.calls 9 s _ w1 (DU hs)).mono ?_
 rintro e wl ⟨v_,rfl,hRl,hbl⟩
 obtain⟨Al,cl,rfl,hcl,hil⟩:=yf hRl
 rw[List.length_map] at hcl ⊢
 have HIL:=aa.mk hil
 have HAl:=aa.mk (HA1.out.later hbl)
 have HKl:=aa.mk (qU.out.trans (bq.of_below (S:=fun b=>b=mb) hbl qU.out.size))
 have hpl:=Ah s
 clear hRl hil hbl HA1 qU
 go_wp2_with fail
 go_loopw [5,16] (fun v5 v16 wr=>∃k:Nat,k<=(places s).length/\v16= .int .i64 k/\v5= .int .i64 (r0+nk Wk s k)/\wr=wl) (fun _ v16 _=>(places s).length-(intOf v16).toNat)
 case atStart=>exact⟨0,Nat.zero_le _,rfl,by rw[vw];simp,rfl⟩
 case round=>
  obtain⟨k,hk,rfl,rfl,rfl⟩:=hrel
  by_cases hkl:k<(places s).length
  .obtain⟨n,hn⟩:∃n,(places s)[k]=n:=⟨_,rfl⟩
   have hnm:n ∈ places s:=by rw[<- hn];exact List.getElem_mem hkl
   have hnl:=HP.out n hnm
   have ajj:(n:Int)<Wk.length:=by omega
   obtain⟨gl,hgl,ajz,Qg,VE⟩:=HIL.out k (by rw[List.length_map];exact hkl)
   subst hgl
   have hgd:((places s).map (fun n:Nat=>(n:Int))).getD k 0=(n:Int):=by simp[List.getD,hkl,hn]
   rw[hgd] at VE
   clear hgd
   have hM0:=HAl.out.kC.kC.map.1
   obtain⟨ad,rfl,hc0,hc1⟩:=Tx HAl.out.now.work n (by omega) ajj
   simp only[Int.toNat_natCast] at hc0 hc1
   have hwb:=pI HW.out s HP.out k hk
   have hws:=vz Wk s k hkl
   rw[hn] at hws
   have hwr:=HW.out _ (Oj Wk n hnl)
   unfold dG at hws hwr
   obtain⟨r,hrr⟩:∃r,xV Wk (n:Int)=r:=⟨_,rfl⟩
   rw[hrr] at hc0 hc1 hws hwr
   have HWS:=aa.mk hws
   clear hrr hws
   obtain⟨sm,hsm⟩:∃x,nk Wk s k=x:=⟨_,rfl⟩
   rw[hsm] at hwb HWS
   rw[hsm]
   have hsum:wrap64 (r0+sm+r.f1)=r0+sm+r.f1:=IntWalk.wrap64_in _ (by omega)
   clear hsm Qg
   go_wp2_with fail
   go_roundw
   case rel=>exact⟨k+1,by omega,by go_num,by rw[HWS.out,Int.add_assoc],trivial⟩
   case measure=>simp[intOf];omega
  .obtain rfl:k=(places s).length:=by omega
   go_wp2_with fail
   go_ret
   exact⟨by unfold vM;rw[HR.out];rfl,HAl.out,HKl.out⟩
end Go.Proofs.YtkjoilgpmngndaaGreat.Wk
namespace Go.Proofs.YtkjoilgpmngndaaGreat.Wk
open Go.RowKit Go.Proofs.YtkjoilgpmngndaaGreat.av Go.Proofs.YtkjoilgpmngndaaGreatW.aA
theorem AP{lo hi a b:Int}(h:gW lo hi a b=true):a<=lo/\lo<=hi/\hi<=b:=by
 unfold gW at h
 simp only[Bool.and_eq_true,decide_eq_true_eq] at h
 exact⟨h.1,h.2.1,h.2.2⟩
theorem xW{n:Nat}{x:Int}(h:kN n x=true):0<=x/\x<n:=by
 unfold kN aY at h
 simp only[Bool.and_eq_true,decide_eq_true_eq] at h
 omega
theorem aaN{W:List mo}{R:List dR}(h:jB W R=0):0<W.length/\W.length<=8/\R.length<=20/\Ny W/\(∀r ∈ R,pR W.length r)/\qp W R=true:=by
 unfold jB at h
 by_cases h1:W.length<=8/\R.length<=20
 .rw[if_pos h1] at h
  by_cases h2:W.length=0
  .rw[if_pos h2] at h;cases h
  .rw[if_neg h2] at h
   cases h3:W.all zO with
   |false=>rw[h3] at h;cases h
   |true=>
    rw[h3,if_pos rfl] at h
    cases h4:qp W R with
    |false=>rw[h4] at h;cases h
    |true=>
     refine⟨by omega,h1.1,h1.2,fun r hr=>AP (List.all_eq_true.1 h3 r hr),fun r hr=>?_,rfl⟩
     obtain⟨k,hk,rfl⟩:=List.getElem_of_mem hr
     have h5:=List.all_eq_true.1 (show((List.range R.length).all (rD W R))=true from h4) k (List.mem_range.2 hk)
     have e:bN R k=R[k]:=by simp[bN,jr,List.getD,hk]
     unfold rD at h5
     rw[e] at h5
     simp only[Bool.and_eq_true,Bool.not_eq_true',beq_eq_false_iff_ne,ne_eq] at h5
     obtain⟨p1,p2,p3,p4,_⟩:=h5
     have q1:=xW p1
     have q2:=xW p2
     have q3:=AP p4
     exact⟨q1.1,q1.2,q2.1,q2.2,p3,q3.1,q3.2.1,q3.2.2⟩
 .rw[if_neg h1] at h;cases h
end Go.Proofs.YtkjoilgpmngndaaGreat.Wk
namespace Go.Proofs.YtkjoilgpmngndaaGreat.Wk
open Go.RowKit Go.Shelf Go.Proofs.YtkjoilgpmngndaaGreat.av Go.Proofs.YtkjoilgpmngndaaGreatW.aA Go.Proofs.YtkjoilgpmngndaaGreatW.aJ
theorem KH{A0:Option Addr}{c0:Nat}{Wk:List mo}{A1:Option Addr}{c1:Nat}{R:List dR}{w:World}(h:IsMap w A0 c0 Wk A1 c1 R)(hN:Wk.length<=8)(hR:∀r ∈ R,pR Wk.length r):
  Calls Tryz.prog 64 #[.agg #[.slice A0 Wk.length c0,.slice A1 R.length c1]] w fun e w'=>∃ga mb,e= .returned (.pointer (some ⟨ga,0,none⟩))/\w.heap.size<=ga/\ng w w' A0 c0 Wk A1 c1 R ga mb (tm R Wk.length) (fs R Wk.length)/\Below w.heap.size w w':=by
 refine(callsIn_wide.1 (Tw h hN hR)).mono ?_
 rintro e w' ⟨ga,mb,rfl,h1,h2,h3,h4,h5⟩
 refine⟨ga,mb,rfl,h3,⟨h,h5,h4,h1,xz.new h2,?_⟩,h5⟩
 rintro rfl
 obtain⟨cs,h6,_⟩:=h1.blk
 rw[h6] at h2
 cases h2
theorem U6:∀n:Fin 8,wrap64 (2^n.1)=((2^n.1:Nat):Int)/\places (2^n.1)=[n.1]/\2^n.1<256:=by decide +kernel
theorem Zu{n:Nat}(h:n<8):wrap64 (2^n)=((2^n:Nat):Int)/\places (2^n)=[n]/\2^n<256:=U6 ⟨n,h⟩
end Go.Proofs.YtkjoilgpmngndaaGreat.Wk
namespace Go.Proofs.YtkjoilgpmngndaaGreat.Wk
open Go.RowKit Go.Shelf Go.Proofs.YtkjoilgpmngndaaGreat.av Go.Proofs.YtkjoilgpmngndaaGreatW.aA Go.Proofs.YtkjoilgpmngndaaGreatW.aJ
def TH(T F:Nat->Nat->Int)(N:Nat):Prop:=∀n g,n<N->g<N->T n g<1048576->n≠g->∃p:Nat,F n g=(p:Int)/\p<N/\T p g<T n g
set_option maxRecDepth 100000 in
set_option maxHeartbeats 40000000 in
theorem Ph{ga mb N:Nat}{vW vR:Value}{T F:Nat->Nat->Int}(hN:N<=8)(hT:lS T)(hF:TH T F N)(fr Lt:Nat)(hfr:fr<N)(hto:Lt<N)(hlt:T fr Lt<1048576)(w:World)(hA:oK w ga vW vR T F mb):
  Calls Tryz.prog 65 #[.pointer (some ⟨ga,0,none⟩),.int .i64 fr,.int .i64 Lt] w fun e w'=>∃v xs,e= .returned v/\(Kd.int .i64).R 3 w' w.heap.size (fun _=>True) v xs/\0<xs.length/\xs.length<=1048577/\(N=1->xs.length=1)/\Below w.heap.size w w':=by
 have HT:=aa.mk hT
 have HF:=aa.mk hF
 have HA:=aa.mk hA
 have HL:=aa.mk hlt
 have hga:=hA.kC.lt
 clear hT hF hA hlt
 go_enter Tryz.func65,Tryz.ntmps65
 go_wp2_with ((with_reducible refine bY (N:=9) rfl ?_);refine Kd.KU (Kd.int .i64) _ 3 ?hg (N:=9) ?hd (xs:=([(fr:Int)]:List Int)) (inner:=[.int .i64 (fr:Int)]) (ok:=fun _=>True) (okp:=fun _=>True) ?hr ?hp (fun _ hk=>hk) trivial (Below.refl _ _) (Nat.le_refl _) (by simp) ?_;(case hd=>rfl);(case hg=>rfl);(case hr=>first|(go_simp;done)|(go_simp;rfl));(case hp=>exact(dS.one (show Kd.M (Kd.int .i64) _ _ _ (fr:Int) [.int .i64 (fr:Int)] from rfl) (dS.none _ _)));intro v1 w1 hr1 hb1 hg1 sQ)
 have HB1:=aa.mk hb1
 have HR1:=aa.mk hr1
 clear hb1 hr1 hg1 sQ
 have hT0:=HT.out fr Lt
 have HL0:=aa.mk HL.out
 go_loopw [1,7] (fun v1 v7 wr=>∃(n:Nat) (xs:List Int),n<N/\v1= .int .i64 n/\T n Lt<1048576/\aa ((Kd.int .i64).R 3 wr w.heap.size (fun _=>True) v7 xs)/\0<xs.length/\(xs.length:Int)+T n Lt<=1048577/\aa (N=1->xs.length=1)/\aa (Below w.heap.size w wr)) (fun v1 _ _=>(T (intOf v1).toNat Lt).toNat)
 case atStart=>exact⟨fr,[(fr:Int)],hfr,rfl,HL.out,HR1,by simp,by have:=HL.out;simp only[List.length_cons,List.length_nil];omega,⟨fun _=>rfl⟩,HB1⟩
 case round=>
  clear HB1 HR1 hT0
  obtain⟨n,xs,hn,rfl,X7,HR,hx0,hxl,YI,HB⟩:=hrel
  have hTb:=HT.out n Lt
  by_cases e:n=Lt
  .subst e
   have heq:((n:Int)==(n:Int))=true:=by simp
   go_wp2_with fail
   go_ret
   exact⟨_,_,rfl,HR.out,hx0,by omega,YI.out,HB.out⟩
  .have heq:((n:Int)==(Lt:Int))=false:=by simp only[beq_eq_false_iff_ne,ne_eq];omega
   obtain⟨p,hp,hpN,hpl⟩:=HF.out n Lt hn hto X7 e
   have hFc:=(HA.out.keep HB.out).kC.first (i:=n) (j:=Lt) (by omega) (by omega)
   rw[hp] at hFc
   have Qd:(n:Int)<8:=by omega
   have ht8:(Lt:Int)<8:=by omega
   have hTp:=HT.out p Lt
   clear hp
   go_wp2_with ((with_reducible refine cO (b:= .append) (xs:=#[.tmp 21,.tmp 23]) rfl ?_);at_builtin;refine Kd.jk (Kd.int .i64) (w0:=w) w.heap.size rfl (.tmp 21) (.tmp 23) 22 3 (.int .i64 0) 8 rfl Tryz.underlying22 info3 rfl (by decide) (by omega) u7 xs (p:Int) [.int .i64 (p:Int)] (fun _=>True) (fun _=>False) rfl rfl ?aP (fun _ hk=>hk.elim) ?aF ?aO ?aB ?aS ?aL ?_;(case aP=>exact rfl);(case aB=>exact(by repeat(first|(with_reducible first|exact HB.out|apply ae|apply ah|apply au)|exact HB.out)));(case aF=>exact(fun _ _=>trivial));(case aO=>exact(by(with_reducible repeat(first|apply Kd.dA|apply Kd.gM|apply Kd.fE));exact HR.out));(case aS=>exact(aT (by repeat(first|(with_reducible first|exact HB.out|apply ae|apply ah|apply au)|exact HB.out))));(case aL=>omega);intro vn wn hon hbn hgn fP;have BZ:=aa.mk hbn;have uU:=aa.mk hon;clear hon hbn hgn fP)
   go_roundw
   case rel=>exact⟨p,xs++[(p:Int)],hpN,rfl,by omega,uU,by simp,by simp only[List.length_append,List.length_cons,List.length_nil];omega,⟨fun h=>absurd (show n=Lt by omega) e⟩,BZ⟩
   case measure=>simp[intOf];omega
end Go.Proofs.YtkjoilgpmngndaaGreat.Wk
namespace Go.Proofs.YtkjoilgpmngndaaGreat.Wk
open Go.RowKit Go.Proofs.YtkjoilgpmngndaaGreat.av Go.Proofs.YtkjoilgpmngndaaGreatW.aA
structure BA(N g:Nat)(s:(Nat->Int)×(Nat->Int)):Prop where
 b:Bounded s.1
 z:s.1 g=0
 f:∀n,n<N->n≠g->s.1 n<1048576->∃q:Nat,s.2 n=(q:Int)/\q<N/\s.1 q<s.1 n
theorem Ij{N g p:Nat}(hp:p<N){s:(Nat->Int)×(Nat->Int)}{x:Int×Int}(h:BA N g s)(h0:0<=x.1)(h1:x.1≠p)(h2:1<=x.2):BA N g (oM p s x):=by
 refine⟨sW h.b h2,?_,?_⟩
 .unfold oM
  by_cases e:s.1 p+x.2<s.1 x.1.toNat
  .rw[if_pos e]
   simp only[upd]
   by_cases e2:g=x.1.toNat
   .rw[<- e2,h.z] at e
    have:=(h.b p).1
    omega
   .rw[if_neg e2,h.z]
  .rw[if_neg e,h.z]
 .intro n hn hg hlt
  unfold oM at hlt ⊢
  by_cases e:s.1 p+x.2<s.1 x.1.toNat
  .rw[if_pos e] at hlt ⊢
   have hpx:p≠x.1.toNat:=by omega
   simp only[upd] at hlt ⊢
   by_cases e2:n=x.1.toNat
   .rw[if_pos e2]
    refine⟨p,rfl,hp,?_⟩
    rw[if_neg hpx,if_pos e2]
    omega
   .rw[if_neg e2] at hlt ⊢
    obtain⟨q,h3,h4,h5⟩:=h.f n hn hg hlt
    refine⟨q,h3,h4,?_⟩
    rw[if_neg e2]
    by_cases e3:q=x.1.toNat
    .rw[if_pos e3]
     rw[e3] at h5
     omega
    .rw[if_neg e3]
     exact h5
  .rw[if_neg e] at hlt ⊢
   exact h.f n hn hg hlt
theorem Kz{N g p:Nat}(hp:p<N)(l:List (Int×Int)):∀(s:(Nat->Int)×(Nat->Int)),BA N g s->(∀x ∈ l,0<=x.1/\x.1≠p/\1<=x.2)->BA N g (l.foldl (oM p) s):=by
 induction l with
 |nil=>exact fun s h _=>h
 |cons x l ih=>
  intro s h hl
  rw[List.foldl_cons]
  have:=hl x List.mem_cons_self
  exact ih _ (Ij hp h this.1 this.2.1 this.2.2) (fun y hy=>hl y (List.mem_cons_of_mem _ hy))
theorem Dm{R:List dR}{N g:Nat}(hR:∀r ∈ R,pR N r)(hg:g<N):∀i,i<=N->BA N g ((iG R N g i).c,(iG R N g i).f)
 |0,_=>by
  refine⟨q8 N g,by simp[iG,xm],fun n hn hng hlt=>?_⟩
  simp only[iG,xm,if_neg hng,if_pos hn] at hlt
  omega
 |i+1,hi=>by
  have ih:=Dm hR hg i (by omega)
  obtain⟨p,hp,hpN,_⟩:=Ba R N g i (by omega)
  have:=Kz hpN (rq R (p:Int)) _ ih (fun x hx=>⟨(zn hR x hx).1,(zn hR x hx).2.2.1,(zn hR x hx).2.2.2.1⟩)
  simp only[iG,xk,hp,Int.toNat_natCast]
  exact this
theorem Rb{R:List dR}{N:Nat}(hR:∀r ∈ R,pR N r):TH (tm R N) (fs R N) N:=by
 intro n g hn hg hlt hne
 unfold tm fs at *
 rw[if_pos hg] at *
 obtain⟨q,h1,h2,h3⟩:=(Dm hR hg N (Nat.le_refl _)).f n hn hne hlt
 exact⟨q,h1,h2,by rw[if_pos hg,if_pos hg];exact h3⟩
end Go.Proofs.YtkjoilgpmngndaaGreat.Wk
namespace Go.Proofs.YtkjoilgpmngndaaGreat.Wk
open Go.RowKit Go.Shelf Go.Proofs.YtkjoilgpmngndaaGreat.av Go.Proofs.YtkjoilgpmngndaaGreatW.aA Go.Proofs.YtkjoilgpmngndaaGreatW.aJ
attribute [local go_sem] xZ xY
theorem Ig:∀s:Fin 256,∀n:Fin 8,∀m:Fin 8,(fB s.1 n.1).testBit m.1=true->s.1.testBit m.1=true:=by decide +kernel
theorem SE{s n m:Nat}(hs:s<256)(hn:n<8)(h:m ∈ places (fB s n)):m ∈ places s:=by
 obtain⟨h1,h2⟩:=l8.1 h
 exact l8.2 ⟨h1,Ig ⟨s,hs⟩ ⟨n,hn⟩ ⟨m,h1⟩ h2⟩
theorem ng.other{w0 w:World}{A0:Option Addr}{c0:Nat}{Wk:List mo}{A1:Option Addr}{c1:Nat}{R:List dR}{ga mb:Nat}{T F:Nat->Nat->Int}(h:ng w0 w A0 c0 Wk A1 c1 R ga mb T F){p:Addr}(h0:w0.heap.size<=p.block)(h1:p.block≠ga)(h2:p.block≠mb)(u:Value):ng w0 (w.setCell p u) A0 c0 Wk A1 c1 R ga mb T F:=
 ⟨h.map,h.below.setCell h0 u,h.lo,h.kC.other h1 h2 u⟩
set_option maxRecDepth 100000 in
set_option maxHeartbeats 40000000 in
theorem Ls{w0 w:World}{A0:Option Addr}{c0:Nat}{Wk:List mo}{A1:Option Addr}{c1:Nat}{R:List dR}{ga mb:Nat}{T F:Nat->Nat->Int}(hN:Wk.length<=8)(hN0:0<Wk.length)(hT:lS T)(hF:TH T F Wk.length)(s:Nat)(hs:s<256)(hp:∀p ∈ places s,p<Wk.length)(hlt:(rest T 0 s).1<1048576)(h:ng w0 w A0 c0 Wk A1 c1 R ga mb T F):
  Calls Tryz.prog 69 #[.pointer (some ⟨ga,0,none⟩),.int .i64 s] w fun e w'=>(∃a1 n1 d1 a2 n2 d2,e= .returned (.agg #[.slice a1 n1 d1,.slice a2 n2 d2])/\(Wk.length=1->n1=1))/\ng w0 w' A0 c0 Wk A1 c1 R ga mb T F/\bq w.heap.size (fun b=>b=mb) w w':=by
 have HT:=aa.mk hT
 have HF:=aa.mk hF
 have HP:=aa.mk hp
 have HL:=aa.mk hlt
 have HA:=aa.mk h
 have hga:=h.kC.kC.lt
 have hmb:=h.kC.memo.lt
 have hw0:=h.gt
 clear hT hF hp hlt h
 go_enter Tryz.func69,Tryz.ntmps69
 go_wp2_with ((with_reducible refine bY (N:=8) rfl ?_);refine Kd.KU (Kd.int .i64) _ 3 ?hg (N:=8) ?hd (xs:=([(0:Int)]:List Int)) (inner:=[.int .i64 (0:Int)]) (ok:=(fun k=>w.heap.size<=k)) (okp:=(fun k=>w.heap.size<=k)) ?hr ?hp (fun _ hk=>hk) (by simp) (Below.refl _ _) (Nat.le_refl _) (by simp) ?_;(case hd=>rfl);(case hg=>rfl);(case hr=>first|(go_simp;done)|(go_simp;rfl));(case hp=>exact(dS.one (show Kd.M (Kd.int .i64) _ _ _ (0:Int) [.int .i64 (0:Int)] from rfl) (dS.none _ _)));intro v1 w1 hr1 hb1 hg1 sQ)
 have hs1:(w.alloc (.cells #[.slice none 0 0,.slice none 0 0] 80)).heap.size=w.heap.size+1:=by simp
 rw[hs1] at hr1 hb1 sQ
 have HA1:=aa.mk (((HA.out.later (ae (Below.refl _ _) (.cells #[.slice none 0 0,.slice none 0 0] 80))).later (by rw[hs1];exact hb1)).later (ae (Below.refl _ _) (.cells #[.int .i64 0,.int .i64 s] 205)))
 have B4:=aa.mk (((aR.new w [.slice none 0 0,.slice none 0 0] 80).below (by rw[hs1];exact hb1)).alloc (.cells #[.int .i64 0,.int .i64 s] 205))
 have B6:=aa.mk (aR.new w1 [.int .i64 0,.int .i64 s] 205)
 have hw1:=hb1.size
 rw[hs1] at hw1
 have KW:=aa.mk ((((bq.refl w.heap.size (fun b=>b=mb) w).alloc (Nat.le_refl _) (.cells #[.slice none 0 0,.slice none 0 0] 80)).trans (bq.of_below hb1 (by omega))).alloc (by omega) (.cells #[.int .i64 0,.int .i64 s] 205))
 obtain⟨g6,hg6⟩:∃g,w1.heap.size=g:=⟨_,rfl⟩
 have HRr:=aa.mk (Kd.dA (Kd.cK (ok':=fun k=>w.heap.size<k/\k≠g6) (Kd.dP hr1) (fun k hk=>⟨by have:=hk.2.1;omega,by have:=hk.2.2.1;omega⟩)) (.cells #[.int .i64 0,.int .i64 s] 205))
 rw[hg6] at B6 hw1 ⊢
 have hsz:(w1.alloc (.cells #[.int .i64 0,.int .i64 s] 205)).heap.size=g6+1:=by simp[hg6]
 clear hs1 hr1 hb1 hg1 sQ hg6 HA
 generalize w1.alloc (.cells #[.int .i64 0,.int .i64 s] 205)=ws at HA1 B4 B6 KW HRr hsz ⊢
 go_loopw [5] (fun v5 wr=>∃(a l:Nat) (xs:List Int),l<256/\a<Wk.length/\(∀p ∈ places l,p<Wk.length)/\(rest T a l).1<1048576/\(xs.length+1048577*l<=1+1048577*256)/\g6<wr.heap.size/\aa (Wk.length=1->xs.length=1)/\aa (ng w0 wr A0 c0 Wk A1 c1 R ga mb T F)/\aa (aR wr w.heap.size [.slice none 0 0,.slice none 0 0] 80)/\aa (aR wr g6 [.int .i64 a,.int .i64 l] 205)/\aa (bq w.heap.size (fun b=>b=mb) w wr)/\aa ((Kd.int .i64).R 3 wr (w.heap.size+1) (fun k=>w.heap.size<k/\k≠g6) v5 xs)) (fun _ wr=>(intOf ((wr.cell? ⟨g6,1,none⟩).getD undef)).toNat)
 case atStart=>exact⟨0,s,[(0:Int)],hs,hN0,HP.out,HL.out,by simp only[List.length_cons,List.length_nil];omega,by omega,⟨fun _=>rfl⟩,HA1,B4,B6,KW,HRr⟩
 case round=>
  clear HA1 B4 B6 KW HRr hsz HP HL
  obtain⟨a,l,xs,hl,ha,hp,hlt,hxl,hg6,xC,HA,B4,B6,KW,HRr⟩:=hrel
  have zz:=B6.out.cell 0
  have Lh:=B6.out.cell 1
  simp only[List.getElem?_cons_zero,List.getElem?_cons_succ] at zz Lh
  have Li:=aa.mk (show(intOf ((wr.cell? ⟨g6,1,none⟩).getD undef)).toNat=l by rw[Lh];simp[intOf])
  obtain⟨n,hnN,hn,X7,hnx⟩:∃n:Nat,n<Wk.length/\(rest T a l).2=(n:Int)/\T a n<1048576/\(l≠0->n ∈ places l/\(rest T n (fB l n)).1<1048576):=by
   by_cases e:l=0
   .subst e
    exact⟨0,hN0,rfl,hlt,fun h=>absurd rfl h⟩
   .obtain⟨n,h1,h2,h3⟩:=Px HT.out a l e hlt
    have h4:=HT.out a n
    have h5:=(jU HT.out n (fB l n)).1
    exact⟨n,hp n h1,h2,by omega,fun _=>⟨h1,by omega⟩⟩
  obtain⟨r0,hr⟩:∃x,(rest T a l).1=x:=⟨_,rfl⟩
  have hrest:jA (rest T a l)= .agg #[.int .i64 r0,.int .i64 n]:=by unfold jA;rw[hn,hr]
  have HPR:=aa.mk hp
  have HNX:=aa.mk hnx
  clear hp hnx
  go_wp2_with fail
  refine(nR HT.out l hl a (by omega) wr HA.out.kC).mono ?_
  rintro e w2 ⟨rfl,hA2,hK2⟩
  rw[hrest]
  have UA:=B4.out.lt
  have ap3:mb<wr.heap.size:=HA.out.kC.memo.lt
  have ap2:mb<w.heap.size:=hmb
  have HA2:=aa.mk (HA.out.keep HA.out.gt hK2 hA2)
  have xO:=aa.mk (B4.out.move (hK2.block _ (by omega) (by omega)))
  have aqg:g6≠mb:=by omega
  have NY:=aa.mk (B6.out.move (hK2.block _ (by omega) (by omega)))
  have KW2:=aa.mk (KW.out.trans (hK2.mono KW.out.size (fun _ _ h=>h)))
  have HR2:=aa.mk (Kd.fJ HRr.out (fun k hk hlt=>hK2.block k hlt (by have:=hk.1;omega)))
  have hsz2:=hK2.size
  clear hA2 hK2 HA B4 B6 KW HRr zz Lh hrest
  have zz:=NY.out.cell 0
  have Lh:=NY.out.cell 1
  simp only[List.getElem?_cons_zero,List.getElem?_cons_succ] at zz Lh
  go_wp2_with fail
  refine(Ph hN HT.out HF.out a n ha hnN X7 w2 HA2.out.kC).mono ?_
  rintro e w3 ⟨vy,ys,rfl,hRy,hy0,hyl,hy1,hb3⟩
  have HY1:=aa.mk (fun h:Wk.length=1=>show(xs++ys.drop 1).length=1 by rw[List.length_append,List.length_drop,xC.out h,hy1 h])
  have HY2:=aa.mk (fun h:Wk.length=1=>show xs.length+(ys.length-1)=1 by rw[xC.out h,hy1 h])
  clear hy1
  obtain⟨Ay,cy,rfl,hcy,hCy⟩:=Kd.dU hRy
  have hcd:=Kd.abH (m:=1) hCy (by omega) hcy
  obtain⟨i3,hi3,ZY⟩:=Option.map_eq_some_iff.1 info3
  simp only[Prod.mk.injEq] at ZY
  have hcut:=SG (P:=Tryz.prog) 22 3 .i64 Tryz.underlying22 hi3 1 ZY.2.1 Ay ys.length cy 1 (by omega) (by omega)
  simp only[Int.toNat_one] at hcut
  have aam:(Kd.int .i64).C w3 (if cy=1 then Ay else Option.map (fun x=>x.add (1*1)) Ay) (ys.length-1) (ys.drop 1):=by
   rw[List.length_drop] at hcd
   exact hcd
  clear hcd
  generalize(if cy=1 then Ay else Option.map (fun x=>x.add (1*1)) Ay)=Ad at aam hcut
  have HC3:=aa.mk aam
  have UG:=aa.mk (HA2.out.later hb3)
  have Ll:=aa.mk (xO.out.below hb3)
  have B63:=aa.mk (NY.out.below hb3)
  have KW3:=aa.mk (KW2.out.trans (bq.of_below (S:=fun b=>b=mb) hb3 KW2.out.size))
  have HR3:=aa.mk (Kd.fC HR2.out hb3)
  have apP:=hb3.size
  have adg:g6<w3.heap.size:=by omega
  have hw3:w.heap.size<w3.heap.size:=by omega
  clear aam hi3 ZY hRy hCy hb3 HA2 xO NY KW2 HR2 zz Lh
  by_cases hl0:l=0
  .have ajy:((l:Int)==0)=true:=by simp[hl0]
   go_wp2_with ((with_reducible refine cO (b:= .append) (xs:=#[.tmp 15,.tmp 21]) rfl ?_);refine Kd.kF (Kd.int .i64) (w.heap.size+1) rfl (.tmp 15) (.tmp 21) 22 3 (.int .i64 0) 8 rfl Tryz.underlying22 info3 rfl (by decide) (by omega) u5 xs (ys.drop 1) _ _ _ (fun k=>w.heap.size<k/\k≠g6) (fun _=>False) rfl rfl HR3.out HC3.out (fun x cs h=>h) (fun _ hk=>hk.elim) ?aF (Below.refl _ _) ?aS ?aL ?_;(case aF=>exact(fun k hk=>by constructor<;>omega));(case aS=>omega);(case aL=>omega);intro vn wn hon hbn hgn fP;have HAn:=aa.mk (UG.out.keep (n:=w.heap.size+1) (by omega) (bq.of_below (S:=fun b=>b=mb) hbn (Nat.le_refl _)) ⟨UG.out.kC.kC.move (hbn.block ga (by omega)),UG.out.kC.memo.move (hbn.block mb (by omega)),UG.out.kC.ne⟩);have Q7:=aa.mk (Ll.out.move (hbn.block _ (by omega)));have Un:=aa.mk (B63.out.move (hgn.block g6 adg (fun e=>(HR3.out.1 g6 e.symm).2 rfl)));have KWn:=aa.mk (KW3.out.trans (bq.of_below (S:=fun b=>b=mb) hbn (by omega)));have uU:=aa.mk hon;have ai7:=hbn.size;clear hon hbn hgn fP UG Ll B63 KW3 HR3 HC3 hcut;have zz:=Un.out.cell 0;have Lh:=Un.out.cell 1;have aay:=Un.out.frozen 0;have aax:=Un.out.frozen 1;have pW:=Q7.out.cell 0;have pV:=Q7.out.cell 1;have zf:=Q7.out.frozen 0;have ze:=Q7.out.frozen 1;simp only[List.getElem?_cons_zero,List.getElem?_cons_succ] at zz Lh pW pV)
   clear zz Lh aay aax pW pV zf ze
   refine(bU.calls 9 s _ wn (DU hs)).mono ?_
   rintro e w5 ⟨v_,rfl,hRl,hbl⟩
   obtain⟨Al,cl,rfl,hcl,_⟩:=yf hRl
   obtain⟨An,cn,rfl,hcn,_⟩:=Kd.dU uU.out
   have HA5:=aa.mk (HAn.out.later hbl)
   have Lj:=aa.mk (Q7.out.below hbl)
   have KW5:=aa.mk (KWn.out.trans (bq.of_below (S:=fun b=>b=mb) hbl KWn.out.size))
   clear hRl hbl HAn Q7 Un KWn uU
   have pW:=Lj.out.cell 0
   have pV:=Lj.out.cell 1
   have zf:=Lj.out.frozen 0
   have ze:=Lj.out.frozen 1
   simp only[List.getElem?_cons_zero,List.getElem?_cons_succ] at pW pV
   go_wp2_with fail
   refine bodyPost_ret (results_cell_row rfl _ _ w.heap.size 80 #[.slice An _ cn,.slice Al _ cl] (0,0) _ rfl (Lj.out.set2 _ _) Tryz.underlying80 rfl (by kernel_rfl)) rfl ?_
   exact⟨⟨_,_,_,_,_,_,rfl,HY2.out⟩,(HA5.out.other (p:=⟨w.heap.size,0,none⟩) (by simp only;omega) (by simp only;omega) (by simp only;omega) _).other (p:=⟨w.heap.size,1,none⟩) (by simp only;omega) (by simp only;omega) (by simp only;omega) _,(KW5.out.setCell (p:=⟨w.heap.size,0,none⟩) (.inr (by simp only;omega)) _).setCell (p:=⟨w.heap.size,1,none⟩) (.inr (by simp only;omega)) _⟩
  .have ajy:((l:Int)==0)=false:=by simp[hl0]
   obtain⟨hnm,hrn⟩:=HNX.out hl0
   have Qd:=(l8.1 hnm).1
   have hdl:=xh hnm
   have hdrop:=OI hl Qd
   go_wp2_with ((with_reducible refine cO (b:= .append) (xs:=#[.tmp 15,.tmp 21]) rfl ?_);refine Kd.kF (Kd.int .i64) (w.heap.size+1) rfl (.tmp 15) (.tmp 21) 22 3 (.int .i64 0) 8 rfl Tryz.underlying22 info3 rfl (by decide) (by omega) u5 xs (ys.drop 1) _ _ _ (fun k=>w.heap.size<k/\k≠g6) (fun _=>False) rfl rfl HR3.out HC3.out (fun x cs h=>h) (fun _ hk=>hk.elim) ?aF (Below.refl _ _) ?aS ?aL ?_;(case aF=>exact(fun k hk=>by constructor<;>omega));(case aS=>omega);(case aL=>omega);intro vn wn hon hbn hgn fP;have HAn:=aa.mk (UG.out.keep (n:=w.heap.size+1) (by omega) (bq.of_below (S:=fun b=>b=mb) hbn (Nat.le_refl _)) ⟨UG.out.kC.kC.move (hbn.block ga (by omega)),UG.out.kC.memo.move (hbn.block mb (by omega)),UG.out.kC.ne⟩);have Q7:=aa.mk (Ll.out.move (hbn.block _ (by omega)));have Un:=aa.mk (B63.out.move (hgn.block g6 adg (fun e=>(HR3.out.1 g6 e.symm).2 rfl)));have KWn:=aa.mk (KW3.out.trans (bq.of_below (S:=fun b=>b=mb) hbn (by omega)));have uU:=aa.mk hon;have ai7:=hbn.size;clear hon hbn hgn fP UG Ll B63 KW3 HR3 HC3 hcut;have zz:=Un.out.cell 0;have Lh:=Un.out.cell 1;have aay:=Un.out.frozen 0;have aax:=Un.out.frozen 1;have pW:=Q7.out.cell 0;have pV:=Q7.out.cell 1;have zf:=Q7.out.frozen 0;have ze:=Q7.out.frozen 1;simp only[List.getElem?_cons_zero,List.getElem?_cons_succ] at zz Lh pW pV)
   go_region
   have B6f:=aa.mk (Un.out.set2 (.int .i64 n) (.int .i64 (fB l n:Int)))
   have hwg:w.heap.size<g6:=by omega
   go_wp2_with fail
   go_roundw
   case rel=>
    refine⟨n,fB l n,xs++ys.drop 1,by omega,hnN,fun p hp=>HPR.out p (SE hl Qd hp),hrn,?_,?_,HY1,⟨?_⟩,⟨?_⟩,⟨B6f.out⟩,⟨?_⟩,⟨?_⟩⟩
    .simp only[List.length_append,List.length_drop];omega
    .show g6<((wn.setCell _ _).setCell _ _).heap.size
     simp only[World.setCell,Array.size_modify]
     omega
    .exact((HAn.out.other (p:=⟨g6,0,none⟩) (by simp only;omega) (by simp only;omega) (by simp only;omega) _).other (p:=⟨g6,1,none⟩) (by simp only;omega) (by simp only;omega) (by simp only;omega) _).drew
    .exact(Q7.out.move (Below.heap_setCell _ _ _ _ (by simp only;omega))).move (w:=wn.setCell ⟨g6,0,none⟩ _) (Below.heap_setCell _ _ _ _ (by simp only;omega))
    .exact((KWn.out.setCell (p:=⟨g6,0,none⟩) (.inr (by simp only;omega)) _).setCell (p:=⟨g6,1,none⟩) (.inr (by simp only;omega)) _).drew
    .exact Kd.fE (Kd.iX (Kd.iX uU.out (p:=⟨g6,0,none⟩) (fun k hk=>hk.2) _) (p:=⟨g6,1,none⟩) (fun k hk=>hk.2) _)
   case measure=>
    have adV:=B6f.out.cell 1
    simp only[List.getElem?_cons_zero,List.getElem?_cons_succ] at adV
    have h62:((wn.setCell ⟨g6,0,none⟩ (.int .i64 n)).setCell ⟨g6,1,none⟩ (.int .i64 (fB l n:Int))).drew.cell? ⟨g6,1,none⟩=some (.int .i64 (fB l n:Int)):=adV
    rw[Li.out,h62]
    simp[intOf]
    omega
end Go.Proofs.YtkjoilgpmngndaaGreat.Wk
namespace Go.Proofs.YtkjoilgpmngndaaGreat.Wk
open Go.RowKit Go.Shelf Go.Proofs.YtkjoilgpmngndaaGreat.av Go.Proofs.YtkjoilgpmngndaaGreatW.aA
def xR(l:List Int):Bool:=(dY.f (l.length+1) l).getD false
theorem LG(l:List Int)(hl:l.length<1000000):∀(d:Nat) (i:Nat),1<=i->l.length+1-i<=d->∃r,dY.l0 (d+1) l i=some r:=by
 intro d
 induction d with
 |zero=>
  intro i h1 h2
  unfold dY.l0
  rw[if_neg (by omega)]
  exact⟨_,rfl⟩
 |succ d ih=>
  intro i h1 h2
  unfold dY.l0
  by_cases h:(i:Int)<l.length
  .have e1:wrap64 ((i:Int)-1)=(i:Int)-1:=by unfold wrap64;omega
   have e2:wrap64 ((i:Int)+1)=((i+1:Nat):Int):=by unfold wrap64;omega
   rw[if_pos h,if_pos (by omega),e1,if_pos (by omega),if_pos (by omega),e2]
   by_cases h3:rd l (i:Int)<=rd l ((i:Int)-1)
   .rw[if_pos h3];exact⟨_,rfl⟩
   .rw[if_neg h3];exact ih (i+1) (by omega) (by omega)
  .rw[if_neg h]
   exact⟨_,rfl⟩
theorem Rt(l:List Int)(hl:l.length<1000000):dY.f (l.length+1) l=some (xR l):=by
 obtain⟨r,h⟩:=LG l hl l.length 1 (by omega) (by omega)
 have h':dY.f (l.length+1) l=some r:=h
 unfold xR
 rw[h']
 rfl
end Go.Proofs.YtkjoilgpmngndaaGreat.Wk
