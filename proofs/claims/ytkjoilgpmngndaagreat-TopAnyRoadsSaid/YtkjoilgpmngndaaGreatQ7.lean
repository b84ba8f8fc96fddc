import Derived.Test.YtkjoilgpmngndaaGreatQ4
import Derived.Test.YtkjoilgpmngndaaGreatQ6
set_option maxRecDepth 100000
set_option linter.all false
namespace Go.Proofs.YtkjoilgpmngndaaGreat.au
open Go.RowKit YtkjoilgpmngndaaGreatW.aj YtkjoilgpmngndaaGreatW.aJ YtkjoilgpmngndaaGreatW.ek
attribute [local go_sem] o5 qY rX uN oH oG qZ qX
mutual
def aQ.j0:Nat->Bool->List (dP)->List (aV)->List Int->List Int->Option (Bool)
 |0,_,_,_,_,_=>none
 |k+1,x24,nY,nX,wT,wS=>if x24=true then(some false) else(aQ.l0 k wT (wT.length:Int) 0 nY nX wT wS)
def aQ.l0:Nat->List Int->Int->Int->List (dP)->List (aV)->List Int->List Int->Option (Bool)
 |0,_,_,_,_,_,_,_=>none
 |k+1,x26,x27,x28,nY,nX,wT,wS=>if x28<x27 then(if 0<=x28 then(if x28<(x26.length:Int) then(if x28<(nY.length:Int) then((fI.f ((iA nY x28).f0) ((iA nY x28).f1) (rd x26 x28)).bind λt194=>(if t194=true then(aQ.l0 k x26 x27 (wrap64 (x28+1)) nY nX wT wS) else(some false))) else(none)) else(none)) else(none)) else(aQ.l1 k wS (wS.length:Int) 0 nY nX)
def aQ.l1:Nat->List Int->Int->Int->List (dP)->List (aV)->Option (Bool)
 |0,_,_,_,_,_=>none
 |k+1,x43,x44,VU,nY,nX=>if VU<x44 then(if 0<=VU then(if VU<(x43.length:Int) then(if VU<(nX.length:Int) then((fI.f ((bZ nX VU).f2.f0) ((bZ nX VU).f2.f1) (rd x43 VU)).bind λt197=>(if t197=true then(aQ.l1 k x43 x44 (wrap64 (VU+1)) nY nX) else(some false))) else(none)) else(none)) else(none)) else(some true)
end
def aQ.f(k:Nat)(bI:List (dP))(aU:List (aV))(ic:List Int)(iV:List Int):Option (Bool):=if(ic.length:Int)=(bI.length:Int) then(aQ.j0 k ((iV.length:Int) !=(aU.length:Int)) bI aU ic iV) else(aQ.j0 k true bI aU ic iV)
set_option maxHeartbeats 8000000 in
theorem aQ.calls(k:Nat)(gL:Option Addr)(fQ:Nat)(bI:List (dP))(gu:Option Addr)(fw:Nat)(aU:List (aV))(zX:Option Addr)(yf:Nat)(ic:List Int)(zW:Option Addr)(yc:Nat)(iV:List Int)(r:Bool)(w:World)(qf:Kd.C CV w gL bI.length bI)(qg:bI.length<=fQ)(nL:Kd.C tF w gu aU.length aU)(nM:aU.length<=fw)(Wp:Kd.C (Kd.int .i64) w zX ic.length ic)(WB:ic.length<=yf)(Wo:Kd.C (Kd.int .i64) w zW iV.length iV)(WA:iV.length<=yc)(h:aQ.f k bI aU ic iV=some r):
  Calls Tryz.prog 58 #[.agg #[.slice gL bI.length fQ,.slice gu aU.length fw],.agg #[.slice zX ic.length yf,.slice zW iV.length yc]] w λe w'=>e= .returned (.bool r)/\Below w.heap.size w w':=by
 have abu:=Tryz.underlying78
 have an2:=Tryz.underlying86
 have OO:=Tryz.underlying88
 have CF:=aa.mk qf
 have Nw:=aa.mk qg
 clear qf qg
 have yu:=aa.mk nL
 have IK:=aa.mk nM
 clear nL nM
 have Xh:=aa.mk Wp
 have amP:=aa.mk WB
 clear Wp WB
 have Xg:=aa.mk Wo
 have amO:=aa.mk WA
 clear Wo WA
 have HB:=aa.mk (Below.refl w.heap.size w)
 have H:(if(ic.length:Int)=(bI.length:Int) then(aQ.j0 k ((iV.length:Int) !=(aU.length:Int)) bI aU ic iV) else(aQ.j0 k true bI aU ic iV))=some r:=h
 clear h
 have Xo:=aa.mk H
 clear H
 go_enter Tryz.func58,Tryz.ntmps58
 go_upto_region 1 with(first|((with_reducible refine cZ (N:=2) rfl ?_);(try(refine kF (by rfl) ?_;dsimp only));refine dA ?hg (N:=2) ?hd (cs:=#[.slice gL bI.length fQ,.slice gu aU.length fw]) (t:=78) ?hr ?_;(case hd=>rfl);(case hg=>rfl);(case hr=>first|(go_simp;done)|(go_simp;rfl));intro jQ hg w4 eH hb;have fH:=aa.mk (bL (by repeat(first|(with_reducible first|exact HB.out|apply ae|apply ag|apply ah)|exact HB.out)) hb);have fU:=aa.mk (eH);have gV:=aa.mk ((by rw[hg];exact(aW (by repeat(first|(with_reducible first|exact HB.out|apply ae|apply ag|apply ah)|exact HB.out))):w.heap.size<=jQ));have iT:=aa.mk ((by rw[hg];exact(aW (by repeat(first|(with_reducible first|exact HB.out|apply ae|apply ag|apply ah)|exact HB.out))):w.heap.size<=jQ));clear HB;have HB:=fH;have eB:=fU;have am1:=gV;have nP:=iT;clear fH fU gV iT;clear hb eH hg)|((with_reducible refine cZ (N:=3) rfl ?_);(try(refine kF (by rfl) ?_;dsimp only));refine dA ?hg (N:=3) ?hd (cs:=#[.slice zX ic.length yf,.slice zW iV.length yc]) (t:=86) ?hr ?_;(case hd=>rfl);(case hg=>rfl);(case hr=>first|(go_simp;done)|(go_simp;rfl));intro mq hg w5 eH hb;have fH:=aa.mk (dn (g:=jQ) (o:= .cells #[.slice gL bI.length fQ,.slice gu aU.length fw] 78 (0,0)) (by(with_reducible repeat(first|refine aC ?_ _|refine aG ?_|refine ay ?_ _));exact eB.out) hb);have fU:=aa.mk (bL (by repeat(first|(with_reducible first|exact HB.out|apply ae|apply ag|apply ah|refine az ?_ nP.out)|exact HB.out)) hb);have gV:=aa.mk (eH);have iT:=aa.mk ((by rw[hg];exact(aW (by repeat(first|(with_reducible first|exact HB.out|apply ae|apply ag|apply ah|refine az ?_ nP.out)|exact HB.out))):w.heap.size<=mq));have tK:=aa.mk ((by rw[hg];exact(aW (by repeat(first|(with_reducible first|exact HB.out|apply ae|apply ag|apply ah|refine az ?_ nP.out)|exact HB.out))):w.heap.size<=mq));have yN:=aa.mk ((by rw[hg];exact Nat.ne_of_lt (iC (g:=jQ) (o:= .cells #[.slice gL bI.length fQ,.slice gu aU.length fw] 78 (0,0)) (by(with_reducible repeat(first|refine aC ?_ _|refine aG ?_|refine ay ?_ _));exact eB.out)):jQ≠mq));have yM:=aa.mk ((by rw[hg];exact Nat.ne_of_gt (iC (g:=jQ) (o:= .cells #[.slice gL bI.length fQ,.slice gu aU.length fw] 78 (0,0)) (by(with_reducible repeat(first|refine aC ?_ _|refine aG ?_|refine ay ?_ _));exact eB.out)):mq≠jQ));clear eB;clear HB;have eB:=fH;have HB:=fU;have gZ:=gV;have am0:=iT;have qo:=tK;have lW:=yN;have lV:=yM;clear fH fU gV iT tK yN yM;clear hb eH hg))
 (try simp only[Act.put,sb0,sb1,dD])
 go_cut [24] (λv24 wc=>∃(kq:Nat) (Md:Bool),v24= .bool Md/\aa (aQ.j0 kq Md bI aU ic iV=some r)/\aa (kq<=k)/\aa (wc.heap[jQ]?=some (.cells #[(.slice gL bI.length fQ),(.slice gu aU.length fw)] 78 (0,0)))/\aa (wc.heap[mq]?=some (.cells #[(.slice zX ic.length yf),(.slice zW iV.length yc)] 86 (0,0)))/\aa (Below w.heap.size w wc))
 case first=>
  have H:=Xo.out
  clear Xo
  by_cases c6:(ic.length:Int)=(bI.length:Int)
  .rw[if_pos c6] at H
   have x8:((ic.length:Int)==(bI.length:Int))=true:=beq_iff_eq.mpr c6
   have U9:((ic.length:Int) !=(bI.length:Int))=false:=bne_eq_false_iff_eq.mpr c6
   have U8:(ic.length==bI.length)=true:=by first|simpa using c6|(simp at c6 ⊢;omega)
   clear c6
   (first|rw[x8]|(simp only[dI,dY];rw[x8])|skip)
   have H':=aa.mk H
   clear H
   have aoi:=lV.out
   have aof:=lW.out
   have Fz:w5.cell? ⟨mq,0,none⟩=some (.slice zX ic.length yf):=(aA gZ.out 0).trans rfl
   have Fy:w5.cell? ⟨mq,1,none⟩=some (.slice zW iV.length yc):=(aA gZ.out 1).trans rfl
   have Fq:=aD gZ.out 0
   have Fp:=aD gZ.out 1
   have Fx:w5.cell? ⟨jQ,0,none⟩=some (.slice gL bI.length fQ):=(aA eB.out 0).trans rfl
   have Fw:w5.cell? ⟨jQ,1,none⟩=some (.slice gu aU.length fw):=(aA eB.out 1).trans rfl
   have Fj:=aD eB.out 0
   have Fh:=aD eB.out 1
   go_wp2
   go_meet
   case rel=>exact⟨_,(((iV.length:Int) !=(aU.length:Int))),(by first|rfl|(simp;done)|(simp[*];done)),H',⟨by first|omega|exact Nat.le_refl _⟩,⟨by(with_reducible repeat(first|refine aC ?_ _|refine aG ?_|refine ay ?_ _));exact eB.out⟩,⟨by(with_reducible repeat(first|refine aC ?_ _|refine aG ?_|refine ay ?_ _));exact gZ.out⟩,⟨by repeat(first|(with_reducible first|exact HB.out|apply ae|apply ag|apply ah|refine az ?_ nP.out|refine az ?_ qo.out)|exact HB.out)⟩⟩
  .rw[if_neg c6] at H
   have x8:((ic.length:Int)==(bI.length:Int))=false:=beq_eq_false_iff_ne.mpr c6
   have U9:((ic.length:Int) !=(bI.length:Int))=true:=bne_iff_ne.mpr c6
   have U8:(ic.length==bI.length)=false:=by first|simpa using c6|(simp at c6 ⊢;omega)
   (first|rw[x8]|(simp only[dI,dY];rw[x8])|skip)
   have H':=aa.mk H
   clear H
   have abO:=lV.out
   have abK:=lW.out
   have uT:w5.cell? ⟨mq,0,none⟩=some (.slice zX ic.length yf):=(aA gZ.out 0).trans rfl
   have uS:w5.cell? ⟨mq,1,none⟩=some (.slice zW iV.length yc):=(aA gZ.out 1).trans rfl
   have uR:=aD gZ.out 0
   have uQ:=aD gZ.out 1
   have FC:w5.cell? ⟨jQ,0,none⟩=some (.slice gL bI.length fQ):=(aA eB.out 0).trans rfl
   have FB:w5.cell? ⟨jQ,1,none⟩=some (.slice gu aU.length fw):=(aA eB.out 1).trans rfl
   have Fu:=aD eB.out 0
   have Fs:=aD eB.out 1
   go_wp2
   go_meet
   case rel=>exact⟨_,(true),(by first|rfl|(simp;done)|(simp[*];done)),H',⟨by first|omega|exact Nat.le_refl _⟩,⟨by(with_reducible repeat(first|refine aC ?_ _|refine aG ?_|refine ay ?_ _));exact eB.out⟩,⟨by(with_reducible repeat(first|refine aC ?_ _|refine aG ?_|refine ay ?_ _));exact gZ.out⟩,⟨by repeat(first|(with_reducible first|exact HB.out|apply ae|apply ag|apply ah|refine az ?_ nP.out|refine az ?_ qo.out)|exact HB.out)⟩⟩
 case rest=>
  clear Xo
  (try clear c1);(try clear p2);(try clear c5);(try clear c6);(try clear x8);(try clear U9);(try clear U8);(try clear c7);(try clear c10);(try clear uT);(try clear uS);(try clear FC)
  (try clear FB);(try clear Fz);(try clear Fy);(try clear Fx);(try clear Fw);(try clear uR);(try clear uQ);(try clear Fu);(try clear Fs);(try clear Fq);(try clear Fp);(try clear Fj)
  (try clear Fh)
  obtain⟨kq,Md,rfl,HA,HJ2,eB,gZ,HB⟩:=hcut
  cases kq with
  |zero=>exact absurd HA.out (by simp[aQ.j0])
  |succ kj2=>
   have H:=HA.out
   clear HA
   simp only[aQ.j0] at H
   by_cases c13:Md=true
   .subst c13
    replace H:(some false)=some r:=by rw[if_pos rfl] at H;exact H
    obtain rfl:=Option.some.inj H
    go_wp2
    go_ret
    exact⟨by first|rfl|(simp[aY,aX]<;>rfl)|(simp[*,aY,aX]<;>rfl),by repeat(first|(with_reducible first|exact HB.out|apply ae|apply ag|apply ah|refine az ?_ nP.out|refine az ?_ qo.out)|exact HB.out)⟩
   .replace c13:=Bool.eq_false_iff.mpr c13
    subst c13
    replace H:(aQ.l0 kj2 ic (ic.length:Int) 0 bI aU ic iV)=some r:=by rw[if_neg (show ¬(false=true) by decide)] at H;exact H
    have H':=aa.mk H
    clear H
    have ak9:=lV.out
    have akZ:=lW.out
    have MO:wc.cell? ⟨mq,0,none⟩=some (.slice zX ic.length yf):=(aA gZ.out 0).trans rfl
    have MN:wc.cell? ⟨mq,1,none⟩=some (.slice zW iV.length yc):=(aA gZ.out 1).trans rfl
    have MJ:=aD gZ.out 0
    have MI:=aD gZ.out 1
    go_wp2
    go_loopg [28] kj2 (λkq v28 w'=>∃(gF:Int),v28= .int .i64 gF/\aa (aQ.l0 kq ic (ic.length:Int) gF bI aU ic iV=some r)/\aa (kq<=kj2)/\aa (w'.heap[jQ]?=some (.cells #[(.slice gL bI.length fQ),(.slice gu aU.length fw)] 78 (0,0)))/\aa (w'.heap[mq]?=some (.cells #[(.slice zX ic.length yf),(.slice zW iV.length yc)] 86 (0,0)))/\aa (Below w.heap.size w w'))
    case atStart=>exact⟨(0),(by first|rfl|(simp;done)|(simp[*];done)),H',⟨Nat.le_refl _⟩,⟨by(with_reducible repeat(first|refine aC ?_ _|refine aG ?_|refine ay ?_ _));exact eB.out⟩,⟨by(with_reducible repeat(first|refine aC ?_ _|refine aG ?_|refine ay ?_ _));exact gZ.out⟩,⟨by repeat(first|(with_reducible first|exact HB.out|apply ae|apply ag|apply ah|refine az ?_ nP.out|refine az ?_ qo.out)|exact HB.out)⟩⟩
    case round=>
     clear H'
     (try clear c1);(try clear p2);(try clear c5);(try clear c6);(try clear x8);(try clear U9);(try clear U8);(try clear c7);(try clear c10);(try clear c13);(try clear c14);(try clear uT)
     (try clear uS);(try clear FC);(try clear FB);(try clear MO);(try clear MN);(try clear Fz);(try clear Fy);(try clear Fx);(try clear Fw);(try clear uR);(try clear uQ);(try clear Fu)
     (try clear Fs);(try clear MJ);(try clear MI);(try clear Fq);(try clear Fp);(try clear Fj);(try clear Fh);(try clear p2)
     obtain⟨gF,rfl,HA,IJ,eB,gZ,HB⟩:=hrel
     cases gk with
     |zero=>exact absurd HA.out (by simp[aQ.l0])
     |succ k2=>
      have H:=HA.out
      clear HA
      simp only[aQ.l0] at H
      by_cases c16:gF<(ic.length:Int)
      .rw[if_pos c16] at H
       have Ir:decide (gF<(ic.length:Int))=true:=decide_eq_true c16
       clear c16
       by_cases c17:0<=gF
       .rw[if_pos c17] at H
        have M6:decide (0<=gF)=true:=decide_eq_true c17
        clear c17
        by_cases c18:gF<(ic.length:Int)
        .rw[if_pos c18] at H
         have M5:decide (gF<(ic.length:Int))=true:=decide_eq_true c18
         clear c18
         by_cases c19:gF<(bI.length:Int)
         .rw[if_pos c19] at H
          have ac8:decide (gF<(bI.length:Int))=true:=decide_eq_true c19
          clear c19
          replace H:=Option.bind_eq_some_iff.mp H
          obtain⟨t194,aeN,H⟩:=H
          replace H:(if t194=true then(aQ.l0 k2 ic (ic.length:Int) (wrap64 (gF+1)) bI aU ic iV) else(some false))=some r:=H
          have IW:=aa.mk aeN
          clear aeN
          by_cases c21:t194=true
          .subst c21
           replace H:(aQ.l0 k2 ic (ic.length:Int) (wrap64 (gF+1)) bI aU ic iV)=some r:=by rw[if_pos rfl] at H;exact H
           have H':=aa.mk H
           clear H
           have G9:0<=(gF:Int):=of_decide_eq_true (by first|(with_reducible assumption)|assumption)
           have GY:gF<(ic.length:Int):=of_decide_eq_true (by first|(with_reducible assumption)|assumption)
           obtain⟨R9,Y9,qd⟩:=Kd.cK Xh.out gF G9 GY
           cases Y9
           replace qd:=(HB.out.cell (World.block_lt_of_cell? w _ qd)).trans qd
           replace G9:=eq_true G9
           replace GY:=eq_true GY
           have ak6:=lW.out
           have akW:=lV.out
           have UM:wr.cell? ⟨jQ,0,none⟩=some (.slice gL bI.length fQ):=(aA eB.out 0).trans rfl
           have UL:wr.cell? ⟨jQ,1,none⟩=some (.slice gu aU.length fw):=(aA eB.out 1).trans rfl
           have UD:=aD eB.out 0
           have UC:=aD eB.out 1
           have G8:0<=(gF:Int):=of_decide_eq_true (by first|(with_reducible assumption)|assumption)
           have GX:gF<(bI.length:Int):=of_decide_eq_true (by first|(with_reducible assumption)|assumption)
           obtain⟨R8,Y8,qc,p9⟩:=Cr CF.out gF G8 GX
           cases Y8
           replace qc:=(HB.out.cell (World.block_lt_of_cell? w _ qc)).trans qc
           replace p9:=(HB.out.cell (World.block_lt_of_cell? w _ p9)).trans p9
           replace G8:=eq_true G8
           replace GX:=eq_true GX
           go_wp2_with (first|((with_reducible refine fu (f:=100) rfl ?_);refine lN (some 39) rfl rfl Tryz.func100 (by kernel_rfl) rfl #[.agg #[.int .i64 ((iA bI gF).f0),.int .i64 ((iA bI gF).f1)],.int .i64 (rd ic gF)] rfl (by(try simp only[List.map_toArray,List.map_cons,List.map_nil]);first|done|rfl|(simp only[List.length_drop,List.length_take];rfl)) ?_;(with_reducible refine(fI.calls ((iA bI gF).f0) ((iA bI gF).f1) (rd ic gF) true _ IW.out).mono ?_);rintro e w24 ⟨rfl,hb⟩;refine⟨_,rfl,?_⟩;have fH:=aa.mk (dn (g:=jQ) (o:= .cells #[.slice (some R8) bI.length fQ,.slice gu aU.length fw] 78 (0,0)) (by(with_reducible repeat(first|refine aC ?_ _|refine aG ?_|refine ay ?_ _));exact eB.out) hb);have fU:=aa.mk (dn (g:=mq) (o:= .cells #[.slice (some R9) ic.length yf,.slice zW iV.length yc] 86 (0,0)) (by(with_reducible repeat(first|refine aC ?_ _|refine aG ?_|refine ay ?_ _));exact gZ.out) hb);have gV:=aa.mk (bL (by repeat(first|(with_reducible first|exact HB.out|apply ae|apply ag|apply ah|refine az ?_ nP.out|refine az ?_ qo.out)|exact HB.out)) hb);clear eB;clear gZ;clear HB;have eB:=fH;have gZ:=fU;have HB:=gV;clear fH fU gV;(try clear hb);(try clear hb2);(try clear hk);(try clear hi)))
           go_roundg k2
           case measure=>have:=HJ2.out;have:=IJ.out;omega
           case rel=>exact⟨(wrap64 (gF+1)),(by first|rfl|(simp;done)|(simp[*];done)),H',⟨by have:=HJ2.out;have:=IJ.out;omega⟩,⟨by(with_reducible repeat(first|refine aC ?_ _|refine aG ?_|refine ay ?_ _));exact eB.out⟩,⟨by(with_reducible repeat(first|refine aC ?_ _|refine aG ?_|refine ay ?_ _));exact gZ.out⟩,⟨by repeat(first|(with_reducible first|exact HB.out|apply ae|apply ag|apply ah|refine az ?_ nP.out|refine az ?_ qo.out)|exact HB.out)⟩⟩
          .replace c21:=Bool.eq_false_iff.mpr c21
           subst c21
           replace H:(some false)=some r:=by rw[if_neg (show ¬(false=true) by decide)] at H;exact H
           obtain rfl:=Option.some.inj H
           have G9:0<=(gF:Int):=of_decide_eq_true (by first|(with_reducible assumption)|assumption)
           have GY:gF<(ic.length:Int):=of_decide_eq_true (by first|(with_reducible assumption)|assumption)
           obtain⟨R9,Y9,qd⟩:=Kd.cK Xh.out gF G9 GY
           cases Y9
           replace qd:=(HB.out.cell (World.block_lt_of_cell? w _ qd)).trans qd
           replace G9:=eq_true G9
           replace GY:=eq_true GY
           have abN:=lW.out
           have abJ:=lV.out
           have MM:wr.cell? ⟨jQ,0,none⟩=some (.slice gL bI.length fQ):=(aA eB.out 0).trans rfl
           have ML:wr.cell? ⟨jQ,1,none⟩=some (.slice gu aU.length fw):=(aA eB.out 1).trans rfl
           have MH:=aD eB.out 0
           have MG:=aD eB.out 1
           have G8:0<=(gF:Int):=of_decide_eq_true (by first|(with_reducible assumption)|assumption)
           have GX:gF<(bI.length:Int):=of_decide_eq_true (by first|(with_reducible assumption)|assumption)
           obtain⟨R8,Y8,qc,p9⟩:=Cr CF.out gF G8 GX
           cases Y8
           replace qc:=(HB.out.cell (World.block_lt_of_cell? w _ qc)).trans qc
           replace p9:=(HB.out.cell (World.block_lt_of_cell? w _ p9)).trans p9
           replace G8:=eq_true G8
           replace GX:=eq_true GX
           go_wp2_with (first|((with_reducible refine fu (f:=100) rfl ?_);refine lN (some 39) rfl rfl Tryz.func100 (by kernel_rfl) rfl #[.agg #[.int .i64 ((iA bI gF).f0),.int .i64 ((iA bI gF).f1)],.int .i64 (rd ic gF)] rfl (by(try simp only[List.map_toArray,List.map_cons,List.map_nil]);first|done|rfl|(simp only[List.length_drop,List.length_take];rfl)) ?_;(with_reducible refine(fI.calls ((iA bI gF).f0) ((iA bI gF).f1) (rd ic gF) false _ IW.out).mono ?_);rintro e Mg ⟨rfl,hb⟩;refine⟨_,rfl,?_⟩;have fH:=aa.mk (dn (g:=jQ) (o:= .cells #[.slice (some R8) bI.length fQ,.slice gu aU.length fw] 78 (0,0)) (by(with_reducible repeat(first|refine aC ?_ _|refine aG ?_|refine ay ?_ _));exact eB.out) hb);have fU:=aa.mk (dn (g:=mq) (o:= .cells #[.slice (some R9) ic.length yf,.slice zW iV.length yc] 86 (0,0)) (by(with_reducible repeat(first|refine aC ?_ _|refine aG ?_|refine ay ?_ _));exact gZ.out) hb);have gV:=aa.mk (bL (by repeat(first|(with_reducible first|exact HB.out|apply ae|apply ag|apply ah|refine az ?_ nP.out|refine az ?_ qo.out)|exact HB.out)) hb);clear eB;clear gZ;clear HB;have eB:=fH;have gZ:=fU;have HB:=gV;clear fH fU gV;(try clear hb);(try clear hb2);(try clear hk);(try clear hi)))
           go_ret
           exact⟨by first|rfl|(simp[aY,aX]<;>rfl)|(simp[*,aY,aX]<;>rfl),by repeat(first|(with_reducible first|exact HB.out|apply ae|apply ag|apply ah|refine az ?_ nP.out|refine az ?_ qo.out)|exact HB.out)⟩
         .rw[if_neg c19] at H
          exact absurd H (by simp)
        .rw[if_neg c18] at H
         exact absurd H (by simp)
       .rw[if_neg c17] at H
        exact absurd H (by simp)
      .rw[if_neg c16] at H
       have Ir:decide (gF<(ic.length:Int))=false:=decide_eq_false c16
       clear c16
       have H':=aa.mk H
       clear H
       have abM:=lV.out
       have abI:=lW.out
       have UK:wr.cell? ⟨mq,0,none⟩=some (.slice zX ic.length yf):=(aA gZ.out 0).trans rfl
       have UJ:wr.cell? ⟨mq,1,none⟩=some (.slice zW iV.length yc):=(aA gZ.out 1).trans rfl
       have UB:=aD gZ.out 0
       have UA:=aD gZ.out 1
       go_wp2
       go_loopg [45] k2 (λkq v45 w'=>∃(gD:Int),v45= .int .i64 gD/\aa (aQ.l1 kq iV (iV.length:Int) gD bI aU=some r)/\aa (kq<=k2)/\aa (w'.heap[jQ]?=some (.cells #[(.slice gL bI.length fQ),(.slice gu aU.length fw)] 78 (0,0)))/\aa (w'.heap[mq]?=some (.cells #[(.slice zX ic.length yf),(.slice zW iV.length yc)] 86 (0,0)))/\aa (Below w.heap.size w w'))
       case atStart=>exact⟨(0),(by first|rfl|(simp;done)|(simp[*];done)),H',⟨Nat.le_refl _⟩,⟨by(with_reducible repeat(first|refine aC ?_ _|refine aG ?_|refine ay ?_ _));exact eB.out⟩,⟨by(with_reducible repeat(first|refine aC ?_ _|refine aG ?_|refine ay ?_ _));exact gZ.out⟩,⟨by repeat(first|(with_reducible first|exact HB.out|apply ae|apply ag|apply ah|refine az ?_ nP.out|refine az ?_ qo.out)|exact HB.out)⟩⟩
       case round=>
        clear H'
        (try clear c1);(try clear p1);(try clear q1);(try clear hx1);(try clear c2);(try clear p2);(try clear c5);(try clear c6);(try clear x8);(try clear U9);(try clear U8);(try clear p6)
        (try clear c7);(try clear c10);(try clear c13);(try clear c14);(try clear c16);(try clear Ir);(try clear c17);(try clear M6);(try clear c18);(try clear M5);(try clear c19);(try clear ac8)
        (try clear V8);(try clear V7);(try clear abq);(try clear c21);(try clear c22);(try clear Zm);(try clear c28);(try clear uT);(try clear uS);(try clear FC);(try clear FB);(try clear MO)
        (try clear MN);(try clear UM);(try clear UL);(try clear MM);(try clear ML);(try clear UK);(try clear UJ);(try clear Fz);(try clear Fy);(try clear Fx);(try clear Fw);(try clear uR)
        (try clear uQ);(try clear Fu);(try clear Fs);(try clear MJ);(try clear MI);(try clear UD);(try clear UC);(try clear MH);(try clear MG);(try clear UB);(try clear UA);(try clear Fq)
        (try clear Fp);(try clear Fj);(try clear Fh);(try clear qd);(try clear qc);(try clear p9);(try clear G9);(try clear G8);(try clear p2);(try clear GY);(try clear GX)
        obtain⟨gD,rfl,HA,ZX,eB,gZ,HB⟩:=hrel
        cases gk with
        |zero=>exact absurd HA.out (by simp[aQ.l1])
        |succ k3=>
         have H:=HA.out
         clear HA
         simp only[aQ.l1] at H
         by_cases RJ:gD<(iV.length:Int)
         .rw[if_pos RJ] at H
          have WS:decide (gD<(iV.length:Int))=true:=decide_eq_true RJ
          clear RJ
          by_cases c31:0<=gD
          .rw[if_pos c31] at H
           have ac1:decide (0<=gD)=true:=decide_eq_true c31
           clear c31
           by_cases c32:gD<(iV.length:Int)
           .rw[if_pos c32] at H
            have ac0:decide (gD<(iV.length:Int))=true:=decide_eq_true c32
            clear c32
            by_cases Va:gD<(aU.length:Int)
            .rw[if_pos Va] at H
             have acZ:decide (gD<(aU.length:Int))=true:=decide_eq_true Va
             clear Va
             replace H:=Option.bind_eq_some_iff.mp H
             obtain⟨t197,aeL,H⟩:=H
             replace H:(if t197=true then(aQ.l1 k3 iV (iV.length:Int) (wrap64 (gD+1)) bI aU) else(some false))=some r:=H
             have A34:=aa.mk aeL
             clear aeL
             by_cases c35:t197=true
             .subst c35
              replace H:(aQ.l1 k3 iV (iV.length:Int) (wrap64 (gD+1)) bI aU)=some r:=by rw[if_pos rfl] at H;exact H
              have H':=aa.mk H
              clear H
              have JN:0<=(gD:Int):=of_decide_eq_true (by first|(with_reducible assumption)|assumption)
              have JB:gD<(iV.length:Int):=of_decide_eq_true (by first|(with_reducible assumption)|assumption)
              obtain⟨R7,e195,sF⟩:=Kd.cK Xg.out gD JN JB
              cases e195
              replace sF:=(HB.out.cell (World.block_lt_of_cell? w _ sF)).trans sF
              replace JN:=eq_true JN
              replace JB:=eq_true JB
              have ak2:=lW.out
              have akS:=lV.out
              have afu:wr.cell? ⟨jQ,0,none⟩=some (.slice gL bI.length fQ):=(aA eB.out 0).trans rfl
              have aft:wr.cell? ⟨jQ,1,none⟩=some (.slice gu aU.length fw):=(aA eB.out 1).trans rfl
              have afh:=aD eB.out 0
              have afg:=aD eB.out 1
              have JM:0<=(gD:Int):=of_decide_eq_true (by first|(with_reducible assumption)|assumption)
              have JA:gD<(aU.length:Int):=of_decide_eq_true (by first|(with_reducible assumption)|assumption)
              obtain⟨R6,Y7,sD,su,sj,si⟩:=sN yu.out gD JM JA
              cases Y7
              replace sD:=(HB.out.cell (World.block_lt_of_cell? w _ sD)).trans sD
              replace su:=(HB.out.cell (World.block_lt_of_cell? w _ su)).trans su
              replace sj:=(HB.out.cell (World.block_lt_of_cell? w _ sj)).trans sj
              replace si:=(HB.out.cell (World.block_lt_of_cell? w _ si)).trans si
              replace JM:=eq_true JM
              replace JA:=eq_true JA
              go_wp2_with (first|((with_reducible refine fu (f:=100) rfl ?_);refine lN (some 57) rfl rfl Tryz.func100 (by kernel_rfl) rfl #[.agg #[.int .i64 ((bZ aU gD).f2.f0),.int .i64 ((bZ aU gD).f2.f1)],.int .i64 (rd iV gD)] rfl (by(try simp only[List.map_toArray,List.map_cons,List.map_nil]);first|done|rfl|(simp only[List.length_drop,List.length_take];rfl)) ?_;(with_reducible refine(fI.calls ((bZ aU gD).f2.f0) ((bZ aU gD).f2.f1) (rd iV gD) true _ A34.out).mono ?_);rintro e w38 ⟨rfl,hb⟩;refine⟨_,rfl,?_⟩;have fH:=aa.mk (dn (g:=jQ) (o:= .cells #[.slice gL bI.length fQ,.slice (some R6) aU.length fw] 78 (0,0)) (by(with_reducible repeat(first|refine aC ?_ _|refine aG ?_|refine ay ?_ _));exact eB.out) hb);have fU:=aa.mk (dn (g:=mq) (o:= .cells #[.slice zX ic.length yf,.slice (some R7) iV.length yc] 86 (0,0)) (by(with_reducible repeat(first|refine aC ?_ _|refine aG ?_|refine ay ?_ _));exact gZ.out) hb);have gV:=aa.mk (bL (by repeat(first|(with_reducible first|exact HB.out|apply ae|apply ag|apply ah|refine az ?_ nP.out|refine az ?_ qo.out)|exact HB.out)) hb);clear eB;clear gZ;clear HB;have eB:=fH;have gZ:=fU;have HB:=gV;clear fH fU gV;(try clear hb);(try clear hb2);(try clear hk);(try clear hi)))
              go_roundg k3
              case measure=>have:=HJ2.out;have:=IJ.out;have:=ZX.out;omega
              case rel=>exact⟨(wrap64 (gD+1)),(by first|rfl|(simp;done)|(simp[*];done)),H',⟨by have:=HJ2.out;have:=IJ.out;have:=ZX.out;omega⟩,⟨by(with_reducible repeat(first|refine aC ?_ _|refine aG ?_|refine ay ?_ _));exact eB.out⟩,⟨by(with_reducible repeat(first|refine aC ?_ _|refine aG ?_|refine ay ?_ _));exact gZ.out⟩,⟨by repeat(first|(with_reducible first|exact HB.out|apply ae|apply ag|apply ah|refine az ?_ nP.out|refine az ?_ qo.out)|exact HB.out)⟩⟩
             .replace c35:=Bool.eq_false_iff.mpr c35
              subst c35
              replace H:(some false)=some r:=by rw[if_neg (show ¬(false=true) by decide)] at H;exact H
              obtain rfl:=Option.some.inj H
              have JN:0<=(gD:Int):=of_decide_eq_true (by first|(with_reducible assumption)|assumption)
              have JB:gD<(iV.length:Int):=of_decide_eq_true (by first|(with_reducible assumption)|assumption)
              obtain⟨R7,e195,sF⟩:=Kd.cK Xg.out gD JN JB
              cases e195
              replace sF:=(HB.out.cell (World.block_lt_of_cell? w _ sF)).trans sF
              replace JN:=eq_true JN
              replace JB:=eq_true JB
              have abL:=lW.out
              have abH:=lV.out
              have UI:wr.cell? ⟨jQ,0,none⟩=some (.slice gL bI.length fQ):=(aA eB.out 0).trans rfl
              have UH:wr.cell? ⟨jQ,1,none⟩=some (.slice gu aU.length fw):=(aA eB.out 1).trans rfl
              have Uz:=aD eB.out 0
              have Uy:=aD eB.out 1
              have JM:0<=(gD:Int):=of_decide_eq_true (by first|(with_reducible assumption)|assumption)
              have JA:gD<(aU.length:Int):=of_decide_eq_true (by first|(with_reducible assumption)|assumption)
              obtain⟨R6,Y7,sD,su,sj,si⟩:=sN yu.out gD JM JA
              cases Y7
              replace sD:=(HB.out.cell (World.block_lt_of_cell? w _ sD)).trans sD
              replace su:=(HB.out.cell (World.block_lt_of_cell? w _ su)).trans su
              replace sj:=(HB.out.cell (World.block_lt_of_cell? w _ sj)).trans sj
              replace si:=(HB.out.cell (World.block_lt_of_cell? w _ si)).trans si
              replace JM:=eq_true JM
              replace JA:=eq_true JA
              go_wp2_with (first|((with_reducible refine fu (f:=100) rfl ?_);refine lN (some 57) rfl rfl Tryz.func100 (by kernel_rfl) rfl #[.agg #[.int .i64 ((bZ aU gD).f2.f0),.int .i64 ((bZ aU gD).f2.f1)],.int .i64 (rd iV gD)] rfl (by(try simp only[List.map_toArray,List.map_cons,List.map_nil]);first|done|rfl|(simp only[List.length_drop,List.length_take];rfl)) ?_;(with_reducible refine(fI.calls ((bZ aU gD).f2.f0) ((bZ aU gD).f2.f1) (rd iV gD) false _ A34.out).mono ?_);rintro e w41 ⟨rfl,hb⟩;refine⟨_,rfl,?_⟩;have fH:=aa.mk (dn (g:=jQ) (o:= .cells #[.slice gL bI.length fQ,.slice (some R6) aU.length fw] 78 (0,0)) (by(with_reducible repeat(first|refine aC ?_ _|refine aG ?_|refine ay ?_ _));exact eB.out) hb);have fU:=aa.mk (dn (g:=mq) (o:= .cells #[.slice zX ic.length yf,.slice (some R7) iV.length yc] 86 (0,0)) (by(with_reducible repeat(first|refine aC ?_ _|refine aG ?_|refine ay ?_ _));exact gZ.out) hb);have gV:=aa.mk (bL (by repeat(first|(with_reducible first|exact HB.out|apply ae|apply ag|apply ah|refine az ?_ nP.out|refine az ?_ qo.out)|exact HB.out)) hb);clear eB;clear gZ;clear HB;have eB:=fH;have gZ:=fU;have HB:=gV;clear fH fU gV;(try clear hb);(try clear hb2);(try clear hk);(try clear hi)))
              go_ret
              exact⟨by first|rfl|(simp[aY,aX]<;>rfl)|(simp[*,aY,aX]<;>rfl),by repeat(first|(with_reducible first|exact HB.out|apply ae|apply ag|apply ah|refine az ?_ nP.out|refine az ?_ qo.out)|exact HB.out)⟩
            .rw[if_neg Va] at H
             exact absurd H (by simp)
           .rw[if_neg c32] at H
            exact absurd H (by simp)
          .rw[if_neg c31] at H
           exact absurd H (by simp)
         .rw[if_neg RJ] at H
          have WS:decide (gD<(iV.length:Int))=false:=decide_eq_false RJ
          clear RJ
          obtain rfl:=Option.some.inj H
          go_wp2
          go_ret
          exact⟨by first|rfl|(simp[aY,aX]<;>rfl)|(simp[*,aY,aX]<;>rfl),by repeat(first|(with_reducible first|exact HB.out|apply ae|apply ag|apply ah|refine az ?_ nP.out|refine az ?_ qo.out)|exact HB.out)⟩
def oM.f(di:Int)(dU:Int):Option (Int):=some di
set_option maxHeartbeats 8000000 in
theorem oM.calls(di:Int)(dU:Int)(r:Int)(w:World)(h:oM.f di dU=some r):
  Calls Tryz.prog 61 #[.agg #[.int .i64 di,.int .i64 dU]] w λe w'=>e= .returned (.int .i64 r)/\Below w.heap.size w w':=by
 have OO:=Tryz.underlying88
 have HB:=aa.mk (Below.refl w.heap.size w)
 have H:(some di)=some r:=h
 clear h
 obtain rfl:=Option.some.inj H
 go_enter Tryz.func61,Tryz.ntmps61
 go_wp2_with (first|((with_reducible refine cZ (N:=1) rfl ?_);refine dA ?hg (N:=1) ?hd (cs:=#[.int .i64 di,.int .i64 dU]) (t:=88) ?hr ?_;(case hd=>rfl);(case hg=>rfl);(case hr=>first|(go_simp;done)|(go_simp;rfl));intro MW hg w2 eH hb;have fH:=aa.mk (bL (by repeat(first|(with_reducible first|exact HB.out|apply ae|apply ag|apply ah)|exact HB.out)) hb);have fU:=aa.mk (eH);have gV:=aa.mk ((by rw[hg];exact(aW (by repeat(first|(with_reducible first|exact HB.out|apply ae|apply ag|apply ah)|exact HB.out))):w.heap.size<=MW));have iT:=aa.mk ((by rw[hg];exact(aW (by repeat(first|(with_reducible first|exact HB.out|apply ae|apply ag|apply ah)|exact HB.out))):w.heap.size<=MW));clear HB;have HB:=fH;have NF:=fU;have amZ:=gV;have aeo:=iT;clear fH fU gV iT;clear hb eH hg;have YP:w2.cell? ⟨MW,0,none⟩=some (.int .i64 di):=(aA NF.out 0).trans rfl;have YO:w2.cell? ⟨MW,1,none⟩=some (.int .i64 dU):=(aA NF.out 1).trans rfl;have YI:=aD NF.out 0;have YH:=aD NF.out 1))
 go_ret
 exact⟨by first|rfl|(simp[aY,aX]<;>rfl)|(simp[*,aY,aX]<;>rfl),by repeat(first|(with_reducible first|exact HB.out|apply ae|apply ag|apply ah|refine az ?_ aeo.out)|exact HB.out)⟩
def nQ.f(di:Int)(dU:Int):Option (Int):=some dU
set_option maxHeartbeats 8000000 in
theorem nQ.calls(di:Int)(dU:Int)(r:Int)(w:World)(h:nQ.f di dU=some r):
  Calls Tryz.prog 101 #[.agg #[.int .i64 di,.int .i64 dU]] w λe w'=>e= .returned (.int .i64 r)/\Below w.heap.size w w':=by
 have OO:=Tryz.underlying88
 have HB:=aa.mk (Below.refl w.heap.size w)
 have H:(some dU)=some r:=h
 clear h
 obtain rfl:=Option.some.inj H
 go_enter Tryz.func101,Tryz.ntmps101
 go_wp2_with (first|((with_reducible refine cZ (N:=1) rfl ?_);refine dA ?hg (N:=1) ?hd (cs:=#[.int .i64 di,.int .i64 dU]) (t:=88) ?hr ?_;(case hd=>rfl);(case hg=>rfl);(case hr=>first|(go_simp;done)|(go_simp;rfl));intro MV hg w2 eH hb;have fH:=aa.mk (bL (by repeat(first|(with_reducible first|exact HB.out|apply ae|apply ag|apply ah)|exact HB.out)) hb);have fU:=aa.mk (eH);have gV:=aa.mk ((by rw[hg];exact(aW (by repeat(first|(with_reducible first|exact HB.out|apply ae|apply ag|apply ah)|exact HB.out))):w.heap.size<=MV));have iT:=aa.mk ((by rw[hg];exact(aW (by repeat(first|(with_reducible first|exact HB.out|apply ae|apply ag|apply ah)|exact HB.out))):w.heap.size<=MV));clear HB;have HB:=fH;have ND:=fU;have amY:=gV;have aen:=iT;clear fH fU gV iT;clear hb eH hg;have YP:w2.cell? ⟨MV,0,none⟩=some (.int .i64 di):=(aA ND.out 0).trans rfl;have YO:w2.cell? ⟨MV,1,none⟩=some (.int .i64 dU):=(aA ND.out 1).trans rfl;have YI:=aD ND.out 0;have YH:=aD ND.out 1))
 go_ret
 exact⟨by first|rfl|(simp[aY,aX]<;>rfl)|(simp[*,aY,aX]<;>rfl),by repeat(first|(with_reducible first|exact HB.out|apply ae|apply ag|apply ah|refine az ?_ aen.out)|exact HB.out)⟩
def l9.f(bI:List (dP))(aU:List (aV))(a1:Int):Option (Bool):=(eu.f a1 0 (wrap64 ((bI.length:Int)-1))).bind λt216=>(some t216)
set_option maxHeartbeats 8000000 in
theorem l9.calls(gL:Option Addr)(fQ:Nat)(bI:List (dP))(gu:Option Addr)(fw:Nat)(aU:List (aV))(a1:Int)(r:Bool)(w:World)(qf:Kd.C CV w gL bI.length bI)(qg:bI.length<=fQ)(nL:Kd.C tF w gu aU.length aU)(nM:aU.length<=fw)(h:l9.f bI aU a1=some r):
  Calls Tryz.prog 63 #[.agg #[.slice gL bI.length fQ,.slice gu aU.length fw],.int .i64 a1] w λe w'=>e= .returned (.bool r)/\Below w.heap.size w w':=by
 have abu:=Tryz.underlying78
 have CF:=aa.mk qf
 have Nw:=aa.mk qg
 clear qf qg
 have yu:=aa.mk nL
 have IK:=aa.mk nM
 clear nL nM
 have HB:=aa.mk (Below.refl w.heap.size w)
 have H:((eu.f a1 0 (wrap64 ((bI.length:Int)-1))).bind λt216=>(some t216))=some r:=h
 clear h
 replace H:=Option.bind_eq_some_iff.mp H
 obtain⟨t216,XA,H⟩:=H
 replace H:(some t216)=some r:=H
 have A3:=aa.mk XA
 clear XA
 obtain rfl:=Option.some.inj H
 go_enter Tryz.func63,Tryz.ntmps63
 go_wp2_with (first|((with_reducible refine cZ (N:=2) rfl ?_);refine dA ?hg (N:=2) ?hd (cs:=#[.slice gL bI.length fQ,.slice gu aU.length fw]) (t:=78) ?hr ?_;(case hd=>rfl);(case hg=>rfl);(case hr=>first|(go_simp;done)|(go_simp;rfl));intro MU hg w4 eH hb;have fH:=aa.mk (bL (by repeat(first|(with_reducible first|exact HB.out|apply ae|apply ag|apply ah)|exact HB.out)) hb);have fU:=aa.mk (eH);have gV:=aa.mk ((by rw[hg];exact(aW (by repeat(first|(with_reducible first|exact HB.out|apply ae|apply ag|apply ah)|exact HB.out))):w.heap.size<=MU));have iT:=aa.mk ((by rw[hg];exact(aW (by repeat(first|(with_reducible first|exact HB.out|apply ae|apply ag|apply ah)|exact HB.out))):w.heap.size<=MU));clear HB;have HB:=fH;have NC:=fU;have amX:=gV;have aem:=iT;clear fH fU gV iT;clear hb eH hg;have Rp:w4.cell? ⟨MU,0,none⟩=some (.slice gL bI.length fQ):=(aA NC.out 0).trans rfl;have Ro:w4.cell? ⟨MU,1,none⟩=some (.slice gu aU.length fw):=(aA NC.out 1).trans rfl;have Rl:=aD NC.out 0;have Rk:=aD NC.out 1)|((with_reducible refine fu (f:=76) rfl ?_);refine lN (some 10) rfl rfl Tryz.func76 (by kernel_rfl) rfl #[.int .i64 a1,.int .i64 0,.int .i64 (wrap64 ((bI.length:Int)-1))] rfl (by(try simp only[List.map_toArray,List.map_cons,List.map_nil]);first|done|rfl|(simp only[List.length_drop,List.length_take];rfl)) ?_;(with_reducible refine(eu.calls a1 0 (wrap64 ((bI.length:Int)-1)) t216 _ A3.out).mono ?_);rintro e w' ⟨rfl,⟨nd,rfl⟩⟩;refine⟨_,rfl,?_⟩))
 go_ret
 exact⟨by first|rfl|(simp[aY,aX]<;>rfl)|(simp[*,aY,aX]<;>rfl),by repeat(first|(with_reducible first|exact HB.out|apply ae|apply ag|apply ah|refine az ?_ aem.out)|exact HB.out)⟩
def om.f(a0:Int):Option (Bool):=(eu.f a0 0 10000).bind λt221=>(some t221)
set_option maxHeartbeats 8000000 in
theorem om.calls(a0:Int)(r:Bool)(w:World)(h:om.f a0=some r):
  Calls Tryz.prog 74 #[.int .i64 a0] w λe w'=>e= .returned (.bool r)/\bF w w':=by
 have H:((eu.f a0 0 10000).bind λt221=>(some t221))=some r:=h
 clear h
 replace H:=Option.bind_eq_some_iff.mp H
 obtain⟨t221,IW,H⟩:=H
 replace H:(some t221)=some r:=H
 have A2:=aa.mk IW
 clear IW
 obtain rfl:=Option.some.inj H
 go_enter Tryz.func74,Tryz.ntmps74
 go_wp2_with (first|((with_reducible refine fu (f:=76) rfl ?_);refine lN (some 4) rfl rfl Tryz.func76 (by kernel_rfl) rfl #[.int .i64 a0,.int .i64 0,.int .i64 10000] rfl (by(try simp only[List.map_toArray,List.map_cons,List.map_nil]);first|done|rfl|(simp only[List.length_drop,List.length_take];rfl)) ?_;(with_reducible refine(eu.calls a0 0 10000 t221 _ A2.out).mono ?_);rintro e w' ⟨rfl,⟨nd,rfl⟩⟩;refine⟨_,rfl,?_⟩))
 go_ret
 exact⟨by first|rfl|(simp;done)|(simp[*];done),by repeat(first|exact bF.refl _|apply bF.step)⟩
end Go.Proofs.YtkjoilgpmngndaaGreat.au
namespace Go.Proofs.YtkjoilgpmngndaaGreat.Wk
open Go.RowKit au YtkjoilgpmngndaaGreatW.aj
def CQ(g:Nat)(args:Array Value)(b:Bool)(w:World):Prop:=
 ∀(W:World),Below w.heap.size w W->Calls Tryz.prog g args W λe w'=>e= .returned (.bool b)/\Below W.heap.size W w'
theorem CQ.later{g:Nat}{args:Array Value}{b:Bool}{w W:World}(h:CQ g args b w)(hb:Below w.heap.size w W):CQ g args b W:=
 λW' hb'=>h W' (hb.trans (hb'.mono hb.size))
def fi{α:Type}(p:α->Bool):List α->Nat->Int
 |[],_=> -1
 |x::xs,i=>if p x then(i:Int) else fi p xs (i+1)
theorem jY{α:Type}(p:α->Bool)(xs:List α)(i:Nat):decide (0<=fi p xs i)=xs.any p:=by
 induction xs generalizing i with
 |nil=>simp[fi]
 |cons x xs ih=>
  unfold fi
  by_cases h:p x=true
  .simp[h]
  .simp[h,ih]
theorem getD_drop{α:Type}(xs:List α)(k:Nat)(d:α)(h:k<xs.length):xs.drop k=xs.getD k d::xs.drop (k+1):=by
 rw[List.drop_eq_getElem_cons h]
 simp[List.getD,h]
theorem nC{α:Type}(p:α->Bool)(xs:List α)(k:Nat)(d:α)(h:k<xs.length):fi p (xs.drop k) k=if p (xs.getD k d) then(k:Int) else fi p (xs.drop (k+1)) (k+1):=by
 rw[getD_drop xs k d h]
 rfl
theorem bQ{w a b:World}(h:Below w.heap.size w a)(k:Below a.heap.size a b):Below w.heap.size w b:=h.trans (k.mono h.size)
theorem bP{a b:Bool}(h:a=b):Ending.returned (.bool a)= .returned (.bool b):=by rw[h]
theorem fC{k:IntKind}{a b:Int}(h:a=b):Ending.returned (.int k a)= .returned (.int k b):=by rw[h]
theorem enters {g:Nat} {fn:Func} {c:Code} (hf:Tryz.prog.funcs[g]?=some fn) (hname:(fn.name== "runtime.NumGoroutine")=false) (hb:fn.body=some c):
  ∀args w,(callFunc g args).run Tryz.prog w= .ok (.enter g args) w:=by
 intro args w
 have h1:fn.name≠ "runtime.NumGoroutine" :=by simpa using hname
 simp[callFunc,hf,h1,hb,mark]
def aK(n lo hi:Int):Bool:=decide (lo<=n)&&decide (n<=hi)
theorem iM(n lo hi:Int)(w:World):
  Calls Tryz.prog 76 #[.int .i64 n,.int .i64 lo,.int .i64 hi] w λe w'=>e= .returned (.bool (aK n lo hi))/\Below w.heap.size w w':=by
 refine(eu.calls n lo hi (aK n lo hi) w ?_).mono ?_
 .unfold eu.f aK
  by_cases h:lo<=n<;>simp[h]
 .rintro e w' ⟨h1,h2⟩
  exact⟨h1,h2.below⟩
def iO(lo hi a b:Int):Bool:=decide (a<=lo)&&(decide (lo<=hi)&&decide (hi<=b))
theorem r9(lo hi a b:Int)(w:World):
  Calls Tryz.prog 109 #[.agg #[.int .i64 lo,.int .i64 hi],.int .i64 a,.int .i64 b] w λe w'=>e= .returned (.bool (iO lo hi a b))/\Below w.heap.size w w':=by
 refine fF.calls lo hi a b (iO lo hi a b) w ?_
 unfold fF.f iO
 by_cases h:a<=lo<;>by_cases h':lo<=hi<;>simp[h,h']
def fq(r:aV)(a b:Int):Bool:=r.f0==a&&r.f1==b||r.f0==b&&r.f1==a
def WQ(x:aV):Value:= .agg #[.int .i64 x.f0,.int .i64 x.f1,.int .i64 x.f2.f0,.int .i64 x.f2.f1]
set_option maxHeartbeats 400000 in
theorem HZ(ra rb lo hi a b:Int)(w:World):
  Calls Tryz.prog 128 #[.agg #[.int .i64 ra,.int .i64 rb,.int .i64 lo,.int .i64 hi],.int .i64 a,.int .i64 b] w λe w'=>e= .returned (.bool (ra==a&&rb==b||ra==b&&rb==a))/\Below w.heap.size w w':=by
 cases h1:ra==a<;>cases h2:rb==b<;>cases h3:ra==b<;>cases h4:rb==a
 all_goals
  go_enter Tryz.func128,Tryz.ntmps128
  go_wp2
  go_ret
  exact⟨by simp,(Below.refl _ _).alloc (Nat.le_refl _) _⟩
set_option maxHeartbeats 400000 in
theorem GN(x:aV)(a b:Int)(ga gb:Nat)(w:World)(ha:w.cell? ⟨ga,0,none⟩=some (.int .i64 a))(hb:w.cell? ⟨gb,0,none⟩=some (.int .i64 b)):
  Calls Tryz.prog 127 #[WQ x,.pointer (some ⟨ga,0,none⟩),.pointer (some ⟨gb,0,none⟩)] w λe w'=>e= .returned (.bool (fq x a b))/\Below w.heap.size w w':=by
 unfold WQ
 have hga:ga<w.heap.size:=World.block_lt_of_cell? w _ ha
 have hgb:gb<w.heap.size:=World.block_lt_of_cell? w _ hb
 go_enter Tryz.func127,Tryz.ntmps127
 go_wp2_with fail
 refine(HZ _ _ _ _ _ _ _).mono ?_
 rintro e w' ⟨rfl,hb'⟩
 go_wp2
 go_ret
 exact⟨rfl,bQ ((Below.refl _ _).alloc (Nat.le_refl _) _) hb'⟩
end Go.Proofs.YtkjoilgpmngndaaGreat.Wk
