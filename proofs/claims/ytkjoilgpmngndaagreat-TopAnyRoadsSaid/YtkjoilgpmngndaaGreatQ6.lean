import Derived.Test.YtkjoilgpmngndaaGreatQ3
import Derived.Test.YtkjoilgpmngndaaGreatQ5
set_option maxRecDepth 100000
set_option linter.all false
namespace Go.Proofs.YtkjoilgpmngndaaGreat.au
open Go.RowKit YtkjoilgpmngndaaGreatW.aj YtkjoilgpmngndaaGreatW.aJ YtkjoilgpmngndaaGreatW.ek
attribute [local go_sem] o5 qY rX uN oH oG qZ qX
mutual
def aH.l0:Nat->Int->List (vC)->List (pO)->List (dP)->Option ((List (dP))×(List (aV)))
 |0,_,_,_,_=>none
 |k+1,x4,rJ,nZ,uB=>if x4<(rJ.length:Int) then(if 0<=x4 then((gM.f ((oW rJ x4).f0) ((oW rJ x4).f1)).bind λWZ=>(if uB.length<8796093022208 then(aH.l0 k (wrap64 (x4+1)) rJ nZ (uB++[(⟨WZ.1,WZ.2⟩:dP)])) else(none))) else(none)) else(aH.l1 k 0 rJ nZ uB ([]:List (aV)))
def aH.l1:Nat->Int->List (vC)->List (pO)->List (dP)->List (aV)->Option ((List (dP))×(List (aV)))
 |0,_,_,_,_,_=>none
 |k+1,x5,rJ,nZ,uB,EC=>if x5<(nZ.length:Int) then(if 0<=x5 then((gM.f ((bA nZ x5).f2.f0) ((bA nZ x5).f2.f1)).bind λWY=>(if EC.length<4398046511104 then(aH.l1 k (wrap64 (x5+1)) rJ nZ uB (EC++[(⟨(bA nZ x5).f0,(bA nZ x5).f1,(⟨WY.1,WY.2⟩:dP)⟩:aV)])) else(none))) else(none)) else(some (uB,EC))
end
def aH.f(k:Nat)(bI:List (vC))(aU:List (pO)):Option ((List (dP))×(List (aV))):=aH.l0 k 0 bI aU ([]:List (dP))
def aH.T5:Bool×List (List Nat×List Nat):=(true,[([],[]),([0],[0]),([],[]),([2],[2]),([],[]),([3,4],[3,4]),([5],[5]),([6],[6]),([7],[7]),([1,8,7],[1,8]),([0,1,2,3,4,5,6,7,8,9],[]),([10,9,9,0,1,2,3,4,5,6,7,8,9],[9,10])])
def aH.B5:List Nat:=[0,1,0,4,0,28,60,124,252,511,1023,2047]
theorem aH.Gt:dW .any (opsOf Tryz.f21 5)=aH.T5:=by kernel_rfl
theorem aH.zC:bJ aH.T5.2 aH.B5=true:=by kernel_rfl
def aH.W9:Bool×List (List Nat×List Nat):=(true,[([],[]),([0],[0]),([],[]),([2],[2]),([],[]),([4],[4]),([],[]),([6],[6]),([7],[7]),([3,5,8],[3,5,8]),([9],[9]),([1,10,8],[1,10]),([0,1,2,3,4,5,6,7,8,9,10,11],[]),([12,11,11,0,1,2,3,4,5,6,7,8,9,10,11],[11,12])])
def aH.B10:List Nat:=[0,1,0,4,0,16,0,64,192,508,1020,2047,4095,8191]
theorem aH.D9:dW .any (opsOf Tryz.f21 10)=aH.W9:=by kernel_rfl
theorem aH.zf:bJ aH.W9.2 aH.B10=true:=by kernel_rfl
set_option maxHeartbeats 8000000 in
theorem aH.calls(k:Nat)(gL:Option Addr)(fQ:Nat)(bI:List (vC))(gu:Option Addr)(fw:Nat)(aU:List (pO))(r1:List (dP))(r2:List (aV))(w:World)(qf:Kd.C Hw w gL bI.length bI)(qg:bI.length<=fQ)(nL:Kd.C Dv w gu aU.length aU)(nM:aU.length<=fw)(h:aH.f k bI aU=some (r1,r2)):
  Calls Tryz.prog 21 #[.agg #[.slice gL bI.length fQ,.slice gu aU.length fw]] w λe w'=>∃TN Tq:Value,e= .returned (.agg #[TN,Tq])/\Kd.R CV 88 w' w.heap.size (λ_=>True) TN r1/\Kd.R tF 141 w' w.heap.size (λ_=>True) Tq r2/\Below w.heap.size w w':=by
 have ag8:=Tryz.underlying62
 have abu:=Tryz.underlying78
 have ag7:=Tryz.underlying72
 have an3:=Tryz.underlying74
 have akH:=Tryz.underlying141
 have CF:=aa.mk qf
 have Nw:=aa.mk qg
 clear qf qg
 have yu:=aa.mk nL
 have IK:=aa.mk nM
 clear nL nM
 have HB:=aa.mk (Below.refl w.heap.size w)
 have H:(aH.l0 k 0 bI aU ([]:List (dP)))=some (r1,r2):=h
 clear h
 have H':=aa.mk H
 clear H
 go_enter Tryz.func21,Tryz.ntmps21
 go_wp2_with (first|((with_reducible refine cZ (N:=1) rfl ?_);refine dA ?hg (N:=1) ?hd (cs:=#[.slice gL bI.length fQ,.slice gu aU.length fw]) (t:=62) ?hr ?_;(case hd=>rfl);(case hg=>rfl);(case hr=>first|(go_simp;done)|(go_simp;rfl));intro iF hg w2 eH hb;have fH:=aa.mk (bL (by repeat(first|(with_reducible first|exact HB.out|apply ae|apply ag|apply ah)|exact HB.out)) hb);have fU:=aa.mk (eH);have gV:=aa.mk ((by rw[hg];exact(aW (by repeat(first|(with_reducible first|exact HB.out|apply ae|apply ag|apply ah)|exact HB.out))):w.heap.size<=iF));have iT:=aa.mk ((by rw[hg];exact(aW (by repeat(first|(with_reducible first|exact HB.out|apply ae|apply ag|apply ah)|exact HB.out))):w.heap.size<=iF));clear HB;have HB:=fH;have bX:=fU;have am6:=gV;have lC:=iT;clear fH fU gV iT;clear hb eH hg)|((with_reducible refine cZ (N:=2) rfl ?_);refine dA ?hg (N:=2) ?hd (cs:=#[.slice none 0 0,.slice none 0 0]) (t:=78) ?hr ?_;(case hd=>rfl);(case hg=>rfl);(case hr=>first|(go_simp;done)|(go_simp;rfl));intro jC hg w3 eH hb;have fH:=aa.mk (dn (g:=iF) (o:= .cells #[.slice gL bI.length fQ,.slice gu aU.length fw] 62 (0,0)) (by(with_reducible repeat(first|refine aC ?_ _|refine aG ?_|refine ay ?_ _));exact bX.out) hb);have fU:=aa.mk (bL (by repeat(first|(with_reducible first|exact HB.out|apply ae|apply ag|apply ah|refine az ?_ lC.out)|exact HB.out)) hb);have gV:=aa.mk (eH);have iT:=aa.mk ((by rw[hg];exact(aW (by repeat(first|(with_reducible first|exact HB.out|apply ae|apply ag|apply ah|refine az ?_ lC.out)|exact HB.out))):w.heap.size<=jC));have tK:=aa.mk ((by rw[hg];exact(aW (by repeat(first|(with_reducible first|exact HB.out|apply ae|apply ag|apply ah|refine az ?_ lC.out)|exact HB.out))):w.heap.size<=jC));have yN:=aa.mk ((by rw[hg];exact Nat.ne_of_lt (iC (g:=iF) (o:= .cells #[.slice gL bI.length fQ,.slice gu aU.length fw] 62 (0,0)) (by(with_reducible repeat(first|refine aC ?_ _|refine aG ?_|refine ay ?_ _));exact bX.out)):iF≠jC));have yM:=aa.mk ((by rw[hg];exact Nat.ne_of_gt (iC (g:=iF) (o:= .cells #[.slice gL bI.length fQ,.slice gu aU.length fw] 62 (0,0)) (by(with_reducible repeat(first|refine aC ?_ _|refine aG ?_|refine ay ?_ _));exact bX.out)):jC≠iF));clear bX;clear HB;have bX:=fH;have HB:=fU;have eU:=gV;have am5:=iT;have mQ:=tK;have uY:=yN;have uX:=yM;clear fH fU gV iT tK yN yM;clear hb eH hg)|((with_reducible refine cZ (N:=3) rfl ?_);refine dA ?hg (N:=3) ?hd (cs:=#[.slice none 0 0,.slice none 0 0]) (t:=78) ?hr ?_;(case hd=>rfl);(case hg=>rfl);(case hr=>first|(go_simp;done)|(go_simp;rfl));intro ji hg w4 eH hb;have fH:=aa.mk (dn (g:=iF) (o:= .cells #[.slice gL bI.length fQ,.slice gu aU.length fw] 62 (0,0)) (by(with_reducible repeat(first|refine aC ?_ _|refine aG ?_|refine ay ?_ _));exact bX.out) hb);have fU:=aa.mk (dn (g:=jC) (o:= .cells #[.slice none 0 0,.slice none 0 0] 78 (0,0)) (by(with_reducible repeat(first|refine aC ?_ _|refine aG ?_|refine ay ?_ _));exact eU.out) hb);have gV:=aa.mk (bL (by repeat(first|(with_reducible first|exact HB.out|apply ae|apply ag|apply ah|refine az ?_ lC.out|refine az ?_ mQ.out)|exact HB.out)) hb);have iT:=aa.mk (eH);have tK:=aa.mk ((by rw[hg];exact(aW (by repeat(first|(with_reducible first|exact HB.out|apply ae|apply ag|apply ah|refine az ?_ lC.out|refine az ?_ mQ.out)|exact HB.out))):w.heap.size<=ji));have yN:=aa.mk ((by rw[hg];exact(aW (by repeat(first|(with_reducible first|exact HB.out|apply ae|apply ag|apply ah|refine az ?_ lC.out|refine az ?_ mQ.out)|exact HB.out))):w.heap.size<=ji));have yM:=aa.mk ((by rw[hg];exact Nat.ne_of_lt (iC (g:=iF) (o:= .cells #[.slice gL bI.length fQ,.slice gu aU.length fw] 62 (0,0)) (by(with_reducible repeat(first|refine aC ?_ _|refine aG ?_|refine ay ?_ _));exact bX.out)):iF≠ji));have n7_:=aa.mk ((by rw[hg];exact Nat.ne_of_gt (iC (g:=iF) (o:= .cells #[.slice gL bI.length fQ,.slice gu aU.length fw] 62 (0,0)) (by(with_reducible repeat(first|refine aC ?_ _|refine aG ?_|refine ay ?_ _));exact bX.out)):ji≠iF));have n8_:=aa.mk ((by rw[hg];exact Nat.ne_of_lt (iC (g:=jC) (o:= .cells #[.slice none 0 0,.slice none 0 0] 78 (0,0)) (by(with_reducible repeat(first|refine aC ?_ _|refine aG ?_|refine ay ?_ _));exact eU.out)):jC≠ji));have n9_:=aa.mk ((by rw[hg];exact Nat.ne_of_gt (iC (g:=jC) (o:= .cells #[.slice none 0 0,.slice none 0 0] 78 (0,0)) (by(with_reducible repeat(first|refine aC ?_ _|refine aG ?_|refine ay ?_ _));exact eU.out)):ji≠jC));clear bX;clear eU;clear HB;have bX:=fH;have eU:=fU;have HB:=gV;have dm:=iT;have am4:=tK;have pK:=yN;have lX:=yM;have oL:=n7_;have rF:=n8_;have zh:=n9_;clear fH fU gV iT tK yN yM n7_ n8_ n9_;clear hb eH hg))
 go_loopg [4] k (λkq v4 w'=>∃(iv:Int) (fV:List (dP)) (iw:Value),v4= .int .i64 iv/\aa (aH.l0 kq iv bI aU fV=some (r1,r2))/\aa (kq<=k)/\aa (Kd.R CV 88 w' w.heap.size (λ_=>True) iw fV)/\aa (w'.heap[iF]?=some (.cells #[(.slice gL bI.length fQ),(.slice gu aU.length fw)] 62 (0,0)))/\aa (w'.heap[jC]?=some (.cells #[(.slice none 0 0),(.slice none 0 0)] 78 (0,0)))/\aa (w'.heap[ji]?=some (.cells #[iw,(.slice none 0 0)] 78 (0,0)))/\aa (Below w.heap.size w w'))
 case atStart=>exact⟨(0),(([]:List (dP))),(.slice none 0 0),(by first|rfl|(simp;done)|(simp[*];done)),H',⟨Nat.le_refl _⟩,⟨by first|exact Kd.iK _ _ _ _ _|exact Kd.Np _ _ _ _ _|exact Kd.Na _ _ _ _ _|exact Kd.Nl _ _ _ _ _|exact Kd.Nf _ _ _ _ _⟩,⟨by(with_reducible repeat(first|refine aC ?_ _|refine aG ?_|refine ay ?_ _));exact bX.out⟩,⟨by(with_reducible repeat(first|refine aC ?_ _|refine aG ?_|refine ay ?_ _));exact eU.out⟩,⟨by(with_reducible repeat(first|refine aC ?_ _|refine aG ?_|refine ay ?_ _));exact dm.out⟩,⟨by repeat(first|(with_reducible first|exact HB.out|apply ae|apply ag|apply ah|refine az ?_ lC.out|refine az ?_ mQ.out|refine az ?_ pK.out)|exact HB.out)⟩⟩
 case round=>
  clear H'
  (try clear c2);(try clear p2)
  obtain⟨iv,fV,iw,rfl,HA,qN,bR,bX,eU,dm,HB⟩:=hrel
  cases gk with
  |zero=>exact absurd HA.out (by simp[aH.l0])
  |succ k1=>
   have H:=HA.out
   clear HA
   simp only[aH.l0] at H
   by_cases c5:iv<(bI.length:Int)
   .rw[if_pos c5] at H
    have Iq:decide (iv<(bI.length:Int))=true:=decide_eq_true c5
    clear c5
    by_cases c6:0<=iv
    .rw[if_pos c6] at H
     have x8:decide (0<=iv)=true:=decide_eq_true c6
     clear c6
     replace H:=Option.bind_eq_some_iff.mp H
     obtain⟨⟨t167,t168⟩,A70,H⟩:=H
     replace H:(if fV.length<8796093022208 then(aH.l0 k1 (wrap64 (iv+1)) bI aU (fV++[(⟨t167,t168⟩:dP)])) else(none))=some (r1,r2):=H
     have A7:=aa.mk A70
     clear A70
     by_cases c8:fV.length<8796093022208
     .rw[if_pos c8] at H
      have aiU:=aa.mk c8
      clear c8
      obtain⟨TM,H7⟩:∃y_:List (dP),y_=(fV++[(⟨t167,t168⟩:dP)]):=⟨_,rfl⟩
      replace H:(aH.l0 k1 (wrap64 (iv+1)) bI aU TM)=some (r1,r2):=by first|(rw[H7];with_reducible exact H)|(have wP:=(Option.bind_some _ _).symm.trans H;rw[H7];with_reducible exact wP)|(have wP:=(Option.bind_some _ _).symm.trans H;with_reducible exact wP)|with_reducible exact H|(rw[H7];exact H)|exact H
      have adu:=aa.mk H7
      clear H7
      have H':=aa.mk H
      clear H
      have aoh:=uY.out
      have aoe:=uX.out
      have abO:=lX.out
      have abK:=oL.out
      have uT:wr.cell? ⟨iF,0,none⟩=some (.slice gL bI.length fQ):=(aA bX.out 0).trans rfl
      have uS:wr.cell? ⟨iF,1,none⟩=some (.slice gu aU.length fw):=(aA bX.out 1).trans rfl
      have uR:=aD bX.out 0
      have uQ:=aD bX.out 1
      try go_wp2
      have fH:=aa.mk (Kd.cO bR.out)
      have fU:=aa.mk (aG bX.out)
      have gV:=aa.mk (aG eU.out)
      have iT:=aa.mk (aG dm.out)
      have tK:=aa.mk (ah HB.out)
      clear bR
      clear bX
      clear eU
      clear dm
      clear HB
      have bR:=fH
      have bX:=fU
      have eU:=gV
      have dm:=iT
      have HB:=tK
      clear fH fU gV iT tK
      have TY:0<=(iv:Int):=of_decide_eq_true (by first|(with_reducible assumption)|assumption)
      have TW:iv<(bI.length:Int):=of_decide_eq_true (by first|(with_reducible assumption)|assumption)
      obtain⟨Et,e166,uP,uO⟩:=Zx CF.out iv TY TW
      have ny:=uO
      have nA:=uP
      cases e166
      replace uP:=(HB.out.cell (World.block_lt_of_cell? w _ uP)).trans uP
      replace uO:=(HB.out.cell (World.block_lt_of_cell? w _ uO)).trans uO
      replace TY:=eq_true TY
      replace TW:=eq_true TW
      refine dB (n:=12) (S:=λw'=>w'.cell? ⟨ji,0,none⟩=some (iw)/\w'.cell? ⟨ji,1,none⟩=some (.slice none 0 0)/\w'.cell? ⟨iF,0,none⟩=some (.slice (some Et) bI.length fQ)/\w'.cell? ⟨iF,1,none⟩=some (.slice gu aU.length fw)/\w'.cell? (Et.add ((iv).toNat*2))=some (.int .i64 ((oW bI iv).f0))/\w'.cell? ⟨(Et.add ((iv).toNat*2)).block,(Et.add ((iv).toNat*2)).off+1,none⟩=some (.int .i64 ((oW bI iv).f1))) (ds:=[11]) #[O,O,O,O,O,O,O,O,O,O,O,O] (by kernel_rfl) rfl rfl ⟨(aA dm.out 0).trans rfl,(aA dm.out 1).trans rfl,(aA bX.out 0).trans rfl,(aA bX.out 1).trans rfl,((HB.out.cell (World.block_lt_of_cell? w _ nA)).trans nA),((HB.out.cell (World.block_lt_of_cell? w _ ny)).trans ny)⟩ (λhHeld=>?_);refine bu aH.Gt aH.zC (λak bN=>?_)
      generalize wr.drew=w12 at bR bX eU dm HB uP uO hHeld ⊢
      refine aZ 0 14 #[I,O,O,O,O,O,O,O,O,O,O,O] ak (h:=?_)
      refine aZ 2 16 #[I,O,I,O,O,O,O,O,O,O,O,O] ak (h:=?_)
      refine aZ 4 18 #[I,O,I,O,I,O,O,O,O,O,O,O] ak (h:=?_)
      refine dG 1 15 #[I,I,I,O,I,O,O,O,O,O,O,O] ak bN hHeld (hy:=by(rintro w' ⟨s0,s1,s2,s3,s4,s5⟩;go_simp;with_reducible rfl)) (h:=?_)
      refine dG 3 17 #[I,I,I,I,I,O,O,O,O,O,O,O] ak bN hHeld (hy:=by(rintro w' ⟨s0,s1,s2,s3,s4,s5⟩;go_simp;with_reducible rfl)) (h:=?_)
      refine aZ 5 19 #[I,I,I,I,I,I,O,O,O,O,O,O] ak (h:=?_)
      refine dG 6 20 #[I,I,I,I,I,I,I,O,O,O,O,O] ak bN hHeld (hy:=by(rintro w' ⟨s0,s1,s2,s3,s4,s5⟩;go_simp;with_reducible rfl)) (h:=?_)
      refine dO (i:=7) (N:=some 21) #[I,I,I,I,I,I,I,I,O,O,O,O] rfl rfl (aI ak.out (by kernel_rfl)) (by decide) (λK hK=>?_)
      refine bW Tryz.func55 (by kernel_rfl) rfl #[.agg #[.int .i64 ((oW bI iv).f0),.int .i64 ((oW bI iv).f1)]] (by rfl) rfl rfl (by(try simp only[List.map_toArray,List.map_cons,List.map_nil]);first|done|rfl|(simp only[List.length_drop,List.length_take];rfl)) ?_
      with_reducible refine(gM.calls ((oW bI iv).f0) ((oW bI iv).f1) t167 t168 _ A7.out).mono ?_
      rintro e w13 ⟨rfl,hb⟩
      refine⟨_,rfl,?_⟩
      have fH:=aa.mk (Kd.bV (by(with_reducible repeat(first|apply Kd.bK|apply Kd.dh|apply Kd.cO));exact bR.out) hb)
      have fU:=aa.mk (dn (g:=iF) (o:= .cells #[.slice (some Et) bI.length fQ,.slice gu aU.length fw] 62 (0,0)) (by(with_reducible repeat(first|refine aC ?_ _|refine aG ?_|refine ay ?_ _));exact bX.out) hb)
      have gV:=aa.mk (dn (g:=jC) (o:= .cells #[.slice none 0 0,.slice none 0 0] 78 (0,0)) (by(with_reducible repeat(first|refine aC ?_ _|refine aG ?_|refine ay ?_ _));exact eU.out) hb)
      have iT:=aa.mk (dn (g:=ji) (o:= .cells #[iw,.slice none 0 0] 78 (0,0)) (by(with_reducible repeat(first|refine aC ?_ _|refine aG ?_|refine ay ?_ _));exact dm.out) hb)
      have tK:=aa.mk (bL (by repeat(first|(with_reducible first|exact HB.out|apply ae|apply ag|apply ah|refine az ?_ lC.out|refine az ?_ mQ.out|refine az ?_ pK.out)|exact HB.out)) hb)
      clear bR
      clear bX
      clear eU
      clear dm
      clear HB
      have bR:=fH
      have bX:=fU
      have eU:=gV
      have dm:=iT
      have HB:=tK
      clear fH fU gV iT tK
      (try clear hb)
      (try clear hb2)
      (try clear hk)
      (try clear hi)
      refine hK.out _ _ ⟨(aA dm.out 0).trans rfl,(aA dm.out 1).trans rfl,(aA bX.out 0).trans rfl,(aA bX.out 1).trans rfl,((HB.out.cell (World.block_lt_of_cell? w _ nA)).trans nA),((HB.out.cell (World.block_lt_of_cell? w _ ny)).trans ny)⟩ (λhHeld=>?_)
      clear hK K
      refine bH (a':=?_) ?_ ?_
      rotate_left
      .show Act.put _ (some 21) _=_
       simp only[Act.put,sb0,sb1,dD,dI,dY]
       rfl
      refine dO (i:=8) (N:=some 22) #[I,I,I,I,I,I,I,I,I,O,O,O] rfl rfl (aI ak.out (by kernel_rfl)) (by decide) (λK hK=>?_)
      refine bT (w1:=?_) (v:=?_) (by rfl) rfl ?_ ?_
      rotate_left 2
      .go_simp
       constructor
       .rfl
       .rfl
      refine hK.out _ _ ⟨(aA (ay dm.out _) 0).trans rfl,(aA (ay dm.out _) 1).trans rfl,(aA (ay bX.out _) 0).trans rfl,(aA (ay bX.out _) 1).trans rfl,(World.cell?_alloc_lt _ _ _ (World.block_lt_of_cell? _ _ (((HB.out.cell (World.block_lt_of_cell? w _ nA)).trans nA)))).trans (((HB.out.cell (World.block_lt_of_cell? w _ nA)).trans nA)),(World.cell?_alloc_lt _ _ _ (World.block_lt_of_cell? _ _ (((HB.out.cell (World.block_lt_of_cell? w _ ny)).trans ny)))).trans (((HB.out.cell (World.block_lt_of_cell? w _ ny)).trans ny))⟩ (λhHeld=>?_)
      clear hK K
      refine bH (a':=?_) ?_ ?_
      rotate_left
      .show Act.put _ (some 22) _=_
       simp only[Act.put,sb0,sb1,dD,dI,dY]
       rfl
      refine dO (i:=9) (N:=some 23) #[I,I,I,I,I,I,I,I,I,I,O,O] rfl rfl (aI ak.out (by kernel_rfl)) (by decide) (λK hK=>?_)
      refine Kd.qJ CV (w0:=w) w.heap.size (by rfl) (.tmp 15) (.tmp 22) 75 88 (.agg #[(.int .i64 0),(.int .i64 0)]) 16 rfl Tryz.underlying75 Ym rfl (by decide) (by omega) iw fV (⟨t167,t168⟩:dP) [.int .i64 t167,.int .i64 t168] (λ_=>True) (λ_=>False) rfl rfl ?aP (λ_ hk=>hk.elim) ?aF ?aO ?aB ?aS ?aL ?_
      (case aP=>exact Mt _ _ _ (⟨t167,t168⟩:dP))
      (case aB=>exact(by repeat(first|(with_reducible first|exact HB.out|apply ae|apply ag|apply ah|refine az ?_ lC.out|refine az ?_ mQ.out|refine az ?_ pK.out)|exact HB.out)))
      (case aF=>exact(λ_ _=>trivial))
      (case aO=>exact(by(with_reducible repeat(first|apply Kd.bK|apply Kd.dh|apply Kd.cO));exact bR.out))
      (case aS=>exact(aW (by repeat(first|(with_reducible first|exact HB.out|apply ae|apply ag|apply ah|refine az ?_ lC.out|refine az ?_ mQ.out|refine az ?_ pK.out)|exact HB.out))))
      (case aL=>have:=aiU.out;omega)
      intro anG w14 ho hb hg hat
      rw[<- adu.out] at ho
      have fH:=aa.mk (mX (g:=iF) (o:= .cells #[.slice (some Et) bI.length fQ,.slice gu aU.length fw] 62 (0,0)) (by(with_reducible repeat(first|refine aC ?_ _|refine aG ?_|refine ay ?_ _));exact bX.out) hg (Kd.K6 bR.out bX.out (by decide)))
      have fU:=aa.mk (mX (g:=jC) (o:= .cells #[.slice none 0 0,.slice none 0 0] 78 (0,0)) (by(with_reducible repeat(first|refine aC ?_ _|refine aG ?_|refine ay ?_ _));exact eU.out) hg (Kd.K6 bR.out eU.out (by decide)))
      have gV:=aa.mk (mX (g:=ji) (o:= .cells #[iw,.slice none 0 0] 78 (0,0)) (by(with_reducible repeat(first|refine aC ?_ _|refine aG ?_|refine ay ?_ _));exact dm.out) hg (Kd.K6 bR.out dm.out (by decide)))
      have iT:=aa.mk (hb)
      have tK:=aa.mk (ho)
      clear bX
      clear eU
      clear dm
      clear HB
      clear bR
      have bX:=fH
      have eU:=fU
      have dm:=gV
      have HB:=iT
      have Xk:=tK
      clear fH fU gV iT tK
      clear ho hb hg hat
      obtain⟨aeJ,acU,acT⟩:=Kd.kP Xk.out
      (first|subst acT|(injection acT with WO f2_ WN;have f4_:=WO.symm;have f5_:=WN.symm;clear WO f2_ WN;subst f4_;subst f5_))
      refine hK.out _ _ ⟨(aA dm.out 0).trans rfl,(aA dm.out 1).trans rfl,(aA bX.out 0).trans rfl,(aA bX.out 1).trans rfl,((HB.out.cell (World.block_lt_of_cell? w _ nA)).trans nA),((HB.out.cell (World.block_lt_of_cell? w _ ny)).trans ny)⟩ (λhHeld=>?_)
      clear hK K
      refine bH (a':=?_) ?_ ?_
      rotate_left
      .show Act.put _ (some 23) _=_
       simp only[Act.put,sb0,sb1,dD,dI,dY]
       rfl
      refine aZ 10 24 #[I,I,I,I,I,I,I,I,I,I,I,O] ak (h:=?_)
      refine dE (i:=11) (N:=none) #[I,I,I,I,I,I,I,I,I,I,I,I] rfl rfl (aI ak.out (by kernel_rfl)) (by decide) (λK hK=>?_)
      have an9:w14.cell? ⟨ji,0,none⟩=some (iw):=(aA dm.out 0).trans rfl
      have alq:=aD dm.out 0
      have ae3:=lX.out
      have ae2:=rF.out
      have ae8:=oL.out
      have ae7:=zh.out
      refine gW (w1:=?_) (by rfl) rfl ?_ ?_
      rotate_left
      .go_simp
       rfl
      refine hK.out _ _ ?_
      clear hK K
      refine dK (bG ak.out (by kernel_rfl)) ?_
      try go_wp2
      go_roundg k1
      case measure=>have:=qN.out;omega
      case rel=>exact⟨(wrap64 (iv+1)),(TM),(.slice aeJ TM.length acU),(by first|rfl|(simp;done)|(simp[*];done)),H',⟨by have:=qN.out;omega⟩,⟨by(with_reducible repeat(first|apply Kd.bK|apply Kd.dh|apply Kd.cO));exact Kd.bB (Kd.dx (p:=⟨ji,0,none⟩) (Kd.ql Xk.out dm.out (by decide)) (λ_ hk=>hk.2) (.slice aeJ TM.length acU)) (λ_ hk=>trivial)⟩,⟨by(with_reducible repeat(first|refine aC ?_ _|refine aG ?_|refine ay ?_ _));refine dw ?_ lX.out _;(with_reducible repeat(first|refine aC ?_ _|refine aG ?_|refine ay ?_ _));exact bX.out⟩,⟨by(with_reducible repeat(first|refine aC ?_ _|refine aG ?_|refine ay ?_ _));refine dw ?_ rF.out _;(with_reducible repeat(first|refine aC ?_ _|refine aG ?_|refine ay ?_ _));exact eU.out⟩,⟨by(with_reducible repeat(first|refine aC ?_ _|refine aG ?_|refine ay ?_ _));refine nE (cs:=#[iw,.slice none 0 0]) ?_ 0 _ rfl;(with_reducible repeat(first|refine aC ?_ _|refine aG ?_|refine ay ?_ _));exact dm.out⟩,⟨by repeat(first|(with_reducible first|exact HB.out|apply ae|apply ag|apply ah|refine az ?_ lC.out|refine az ?_ mQ.out|refine az ?_ pK.out)|exact HB.out)⟩⟩
     .rw[if_neg c8] at H
      exact absurd H (by simp)
    .rw[if_neg c6] at H
     exact absurd H (by simp)
   .rw[if_neg c5] at H
    have Iq:decide (iv<(bI.length:Int))=false:=decide_eq_false c5
    clear c5
    have H':=aa.mk H
    clear H
    have ak8:=uY.out
    have akY:=uX.out
    have ak7:=lX.out
    have akX:=oL.out
    have UO:wr.cell? ⟨iF,0,none⟩=some (.slice gL bI.length fQ):=(aA bX.out 0).trans rfl
    have UN:wr.cell? ⟨iF,1,none⟩=some (.slice gu aU.length fw):=(aA bX.out 1).trans rfl
    have UF:=aD bX.out 0
    have UE:=aD bX.out 1
    go_wp2
    go_loopg [5] k1 (λkq v5 w'=>∃(dz:Int) (jf:List (aV)) (jR:Value),v5= .int .i64 dz/\aa (aH.l1 kq dz bI aU fV jf=some (r1,r2))/\aa (kq<=k1)/\aa (Kd.R CV 88 w' w.heap.size (λ_=>True) iw fV)/\aa (Kd.R tF 141 w' w.heap.size (λ_=>True) jR jf)/\aa (w'.heap[iF]?=some (.cells #[(.slice gL bI.length fQ),(.slice gu aU.length fw)] 62 (0,0)))/\aa (w'.heap[jC]?=some (.cells #[(.slice none 0 0),(.slice none 0 0)] 78 (0,0)))/\aa (w'.heap[ji]?=some (.cells #[iw,jR] 78 (0,0)))/\aa (Below w.heap.size w w'))
    case atStart=>exact⟨(0),(([]:List (aV))),(.slice none 0 0),(by first|rfl|(simp;done)|(simp[*];done)),H',⟨Nat.le_refl _⟩,⟨by(with_reducible repeat(first|apply Kd.bK|apply Kd.dh|apply Kd.cO));exact bR.out⟩,⟨by first|exact Kd.iK _ _ _ _ _|exact Kd.Np _ _ _ _ _|exact Kd.Na _ _ _ _ _|exact Kd.Nl _ _ _ _ _|exact Kd.Nf _ _ _ _ _⟩,⟨by(with_reducible repeat(first|refine aC ?_ _|refine aG ?_|refine ay ?_ _));exact bX.out⟩,⟨by(with_reducible repeat(first|refine aC ?_ _|refine aG ?_|refine ay ?_ _));exact eU.out⟩,⟨by(with_reducible repeat(first|refine aC ?_ _|refine aG ?_|refine ay ?_ _));exact dm.out⟩,⟨by repeat(first|(with_reducible first|exact HB.out|apply ae|apply ag|apply ah|refine az ?_ lC.out|refine az ?_ mQ.out|refine az ?_ pK.out)|exact HB.out)⟩⟩
    case round=>
     clear H'
     (try clear c1);(try clear p1);(try clear q1);(try clear hx1);(try clear c2);(try clear p2);(try clear c5);(try clear Iq);(try clear c6);(try clear x8);(try clear p6);(try clear c8)
     (try clear c9);(try clear c10);(try clear p16);(try clear q16);(try clear hx16);(try clear c17);(try clear c18);(try clear uT);(try clear uS);(try clear UO);(try clear UN);(try clear uR)
     (try clear uQ);(try clear UF);(try clear UE);(try clear uP);(try clear uO);(try clear TY);(try clear p2);(try clear TW)
     obtain⟨dz,jf,jR,rfl,HA,IJ,bR,dV,bX,eU,dm,HB⟩:=hrel
     cases gk with
     |zero=>exact absurd HA.out (by simp[aH.l1])
     |succ k2=>
      have H:=HA.out
      clear HA
      simp only[aH.l1] at H
      by_cases c20:dz<(aU.length:Int)
      .rw[if_pos c20] at H
       have ac7:decide (dz<(aU.length:Int))=true:=decide_eq_true c20
       clear c20
       by_cases c21:0<=dz
       .rw[if_pos c21] at H
        have alT:decide (0<=dz)=true:=decide_eq_true c21
        clear c21
        replace H:=Option.bind_eq_some_iff.mp H
        obtain⟨⟨t174,t175⟩,aeM,H⟩:=H
        replace H:(if jf.length<4398046511104 then(aH.l1 k2 (wrap64 (dz+1)) bI aU fV (jf++[(⟨(bA aU dz).f0,(bA aU dz).f1,(⟨t174,t175⟩:dP)⟩:aV)])) else(none))=some (r1,r2):=H
        have A22:=aa.mk aeM
        clear aeM
        by_cases c23:jf.length<4398046511104
        .rw[if_pos c23] at H
         have adA:=aa.mk c23
         clear c23
         obtain⟨Qd,H6⟩:∃y_:List (aV),y_=(jf++[(⟨(bA aU dz).f0,(bA aU dz).f1,(⟨t174,t175⟩:dP)⟩:aV)]):=⟨_,rfl⟩
         replace H:(aH.l1 k2 (wrap64 (dz+1)) bI aU fV Qd)=some (r1,r2):=by first|(rw[H6];with_reducible exact H)|(have wP:=(Option.bind_some _ _).symm.trans H;rw[H6];with_reducible exact wP)|(have wP:=(Option.bind_some _ _).symm.trans H;with_reducible exact wP)|with_reducible exact H|(rw[H6];exact H)|exact H
         have adt:=aa.mk H6
         clear H6
         have H':=aa.mk H
         clear H
         have ak5:=uY.out
         have akV:=uX.out
         have abN:=lX.out
         have abJ:=oL.out
         have MM:wr.cell? ⟨iF,0,none⟩=some (.slice gL bI.length fQ):=(aA bX.out 0).trans rfl
         have ML:wr.cell? ⟨iF,1,none⟩=some (.slice gu aU.length fw):=(aA bX.out 1).trans rfl
         have MH:=aD bX.out 0
         have MG:=aD bX.out 1
         have XU:0<=(dz:Int):=of_decide_eq_true (by first|(with_reducible assumption)|assumption)
         have XK:dz<(aU.length:Int):=of_decide_eq_true (by first|(with_reducible assumption)|assumption)
         obtain⟨Es,aix,Ff,Fe,Fb,Fa⟩:=RX yu.out dz XU XK
         cases aix
         replace Ff:=(HB.out.cell (World.block_lt_of_cell? w _ Ff)).trans Ff
         replace Fe:=(HB.out.cell (World.block_lt_of_cell? w _ Fe)).trans Fe
         replace Fb:=(HB.out.cell (World.block_lt_of_cell? w _ Fb)).trans Fb
         replace Fa:=(HB.out.cell (World.block_lt_of_cell? w _ Fa)).trans Fa
         replace XU:=eq_true XU
         replace XK:=eq_true XK
         try go_wp2_with (first|((with_reducible refine cZ (N:=6) rfl ?_);refine dA ?hg (N:=6) ?hd (cs:=#[.int .i64 0,.int .i64 0,.int .i64 0,.int .i64 0]) (t:=74) ?hr ?_;(case hd=>rfl);(case hg=>rfl);(case hr=>first|(go_simp;done)|(go_simp;rfl));intro dC hg Mg eH hb;have fH:=aa.mk (Kd.bV (by(with_reducible repeat(first|apply Kd.bK|apply Kd.dh|apply Kd.cO));exact bR.out) hb);have fU:=aa.mk (Kd.bV (by(with_reducible repeat(first|apply Kd.bK|apply Kd.dh|apply Kd.cO));exact dV.out) hb);have gV:=aa.mk (dn (g:=iF) (o:= .cells #[.slice gL bI.length fQ,.slice (some Es) aU.length fw] 62 (0,0)) (by(with_reducible repeat(first|refine aC ?_ _|refine aG ?_|refine ay ?_ _));exact bX.out) hb);have iT:=aa.mk (dn (g:=jC) (o:= .cells #[.slice none 0 0,.slice none 0 0] 78 (0,0)) (by(with_reducible repeat(first|refine aC ?_ _|refine aG ?_|refine ay ?_ _));exact eU.out) hb);have tK:=aa.mk (dn (g:=ji) (o:= .cells #[iw,jR] 78 (0,0)) (by(with_reducible repeat(first|refine aC ?_ _|refine aG ?_|refine ay ?_ _));exact dm.out) hb);have yN:=aa.mk (bL (by repeat(first|(with_reducible first|exact HB.out|apply ae|apply ag|apply ah|refine az ?_ lC.out|refine az ?_ mQ.out|refine az ?_ pK.out)|exact HB.out)) hb);have yM:=aa.mk (eH);have n7_:=aa.mk ((by rw[hg];exact(aW (by repeat(first|(with_reducible first|exact HB.out|apply ae|apply ag|apply ah|refine az ?_ lC.out|refine az ?_ mQ.out|refine az ?_ pK.out)|exact HB.out))):w.heap.size<=dC));have n8_:=aa.mk ((by rw[hg];exact(aW (by repeat(first|(with_reducible first|exact HB.out|apply ae|apply ag|apply ah|refine az ?_ lC.out|refine az ?_ mQ.out|refine az ?_ pK.out)|exact HB.out))):w.heap.size<=dC));have n9_:=aa.mk ((by rw[hg];exact Nat.ne_of_lt (iC (g:=iF) (o:= .cells #[.slice gL bI.length fQ,.slice (some Es) aU.length fw] 62 (0,0)) (by(with_reducible repeat(first|refine aC ?_ _|refine aG ?_|refine ay ?_ _));exact bX.out)):iF≠dC));have abk:=aa.mk ((by rw[hg];exact Nat.ne_of_gt (iC (g:=iF) (o:= .cells #[.slice gL bI.length fQ,.slice (some Es) aU.length fw] 62 (0,0)) (by(with_reducible repeat(first|refine aC ?_ _|refine aG ?_|refine ay ?_ _));exact bX.out)):dC≠iF));have abj:=aa.mk ((by rw[hg];exact Nat.ne_of_lt (iC (g:=jC) (o:= .cells #[.slice none 0 0,.slice none 0 0] 78 (0,0)) (by(with_reducible repeat(first|refine aC ?_ _|refine aG ?_|refine ay ?_ _));exact eU.out)):jC≠dC));have abh:=aa.mk ((by rw[hg];exact Nat.ne_of_gt (iC (g:=jC) (o:= .cells #[.slice none 0 0,.slice none 0 0] 78 (0,0)) (by(with_reducible repeat(first|refine aC ?_ _|refine aG ?_|refine ay ?_ _));exact eU.out)):dC≠jC));have abg:=aa.mk ((by rw[hg];exact Nat.ne_of_lt (iC (g:=ji) (o:= .cells #[iw,jR] 78 (0,0)) (by(with_reducible repeat(first|refine aC ?_ _|refine aG ?_|refine ay ?_ _));exact dm.out)):ji≠dC));have abf:=aa.mk ((by rw[hg];exact Nat.ne_of_gt (iC (g:=ji) (o:= .cells #[iw,jR] 78 (0,0)) (by(with_reducible repeat(first|refine aC ?_ _|refine aG ?_|refine ay ?_ _));exact dm.out)):dC≠ji));clear bR;clear dV;clear bX;clear eU;clear dm;clear HB;have bR:=fH;have dV:=fU;have bX:=gV;have eU:=iT;have dm:=tK;have HB:=yN;have gB:=yM;have am3:=n7_;have IM:=n8_;have rG:=n9_;have PC:=abk;have rE:=abj;have Pz:=abh;have oK:=abg;have Ex:=abf;clear fH fU gV iT tK yN yM n7_ n8_ n9_ abk abj abh abg abf;clear hb eH hg;have abM:=PC.out;have abI:=rG.out;have ak4:=Pz.out;have akU:=rE.out;have ak3:=Ex.out;have akT:=oK.out;have afy:Mg.cell? ⟨dC,0,none⟩=some (.int .i64 0):=(aA gB.out 0).trans rfl;have afx:Mg.cell? ⟨dC,1,none⟩=some (.int .i64 0):=(aA gB.out 1).trans rfl;have afw:Mg.cell? ⟨dC,2,none⟩=some (.int .i64 0):=(aA gB.out 2).trans rfl;have afv:Mg.cell? ⟨dC,3,none⟩=some (.int .i64 0):=(aA gB.out 3).trans rfl;have afl:=aD gB.out 0;have afk:=aD gB.out 1;have afj:=aD gB.out 2;have afi:=aD gB.out 3))
         have fH:aa (Kd.R CV 88 ((((Mg.setCell ⟨dC,0,none⟩ (.int .i64 ((bA aU dz).f0))).setCell ⟨dC,1,none⟩ (.int .i64 ((bA aU dz).f1))).setCell ⟨dC,2,none⟩ (.int .i64 ((bA aU dz).f2.f0))).setCell ⟨dC,3,none⟩ (.int .i64 ((bA aU dz).f2.f1))) w.heap.size (λ_=>True) iw fV):=⟨by(with_reducible repeat(first|apply Kd.bK|apply Kd.dh|apply Kd.cO));exact Kd.bB (Kd.dx (p:=⟨dC,3,none⟩) (Kd.dx (p:=⟨dC,2,none⟩) (Kd.dx (p:=⟨dC,1,none⟩) (Kd.dx (p:=⟨dC,0,none⟩) (Kd.ql bR.out gB.out (by decide)) (λ_ hk=>hk.2) (.int .i64 ((bA aU dz).f0))) (λ_ hk=>hk.2) (.int .i64 ((bA aU dz).f1))) (λ_ hk=>hk.2) (.int .i64 ((bA aU dz).f2.f0))) (λ_ hk=>hk.2) (.int .i64 ((bA aU dz).f2.f1))) (λ_ hk=>trivial)⟩
         have fU:aa (Kd.R tF 141 ((((Mg.setCell ⟨dC,0,none⟩ (.int .i64 ((bA aU dz).f0))).setCell ⟨dC,1,none⟩ (.int .i64 ((bA aU dz).f1))).setCell ⟨dC,2,none⟩ (.int .i64 ((bA aU dz).f2.f0))).setCell ⟨dC,3,none⟩ (.int .i64 ((bA aU dz).f2.f1))) w.heap.size (λ_=>True) jR jf):=⟨by(with_reducible repeat(first|apply Kd.bK|apply Kd.dh|apply Kd.cO));exact Kd.bB (Kd.dx (p:=⟨dC,3,none⟩) (Kd.dx (p:=⟨dC,2,none⟩) (Kd.dx (p:=⟨dC,1,none⟩) (Kd.dx (p:=⟨dC,0,none⟩) (Kd.ql dV.out gB.out (by decide)) (λ_ hk=>hk.2) (.int .i64 ((bA aU dz).f0))) (λ_ hk=>hk.2) (.int .i64 ((bA aU dz).f1))) (λ_ hk=>hk.2) (.int .i64 ((bA aU dz).f2.f0))) (λ_ hk=>hk.2) (.int .i64 ((bA aU dz).f2.f1))) (λ_ hk=>trivial)⟩
         have gV:aa (((((Mg.setCell ⟨dC,0,none⟩ (.int .i64 ((bA aU dz).f0))).setCell ⟨dC,1,none⟩ (.int .i64 ((bA aU dz).f1))).setCell ⟨dC,2,none⟩ (.int .i64 ((bA aU dz).f2.f0))).setCell ⟨dC,3,none⟩ (.int .i64 ((bA aU dz).f2.f1))).heap[iF]?=some (.cells #[.slice gL bI.length fQ,.slice (some Es) aU.length fw] 62 (0,0))):=⟨by(with_reducible repeat(first|refine aC ?_ _|refine aG ?_|refine ay ?_ _));refine dw ?_ rG.out _;(with_reducible repeat(first|refine aC ?_ _|refine aG ?_|refine ay ?_ _));refine dw ?_ rG.out _;(with_reducible repeat(first|refine aC ?_ _|refine aG ?_|refine ay ?_ _));refine dw ?_ rG.out _;(with_reducible repeat(first|refine aC ?_ _|refine aG ?_|refine ay ?_ _));refine dw ?_ rG.out _;(with_reducible repeat(first|refine aC ?_ _|refine aG ?_|refine ay ?_ _));exact bX.out⟩
         have iT:aa (((((Mg.setCell ⟨dC,0,none⟩ (.int .i64 ((bA aU dz).f0))).setCell ⟨dC,1,none⟩ (.int .i64 ((bA aU dz).f1))).setCell ⟨dC,2,none⟩ (.int .i64 ((bA aU dz).f2.f0))).setCell ⟨dC,3,none⟩ (.int .i64 ((bA aU dz).f2.f1))).heap[jC]?=some (.cells #[.slice none 0 0,.slice none 0 0] 78 (0,0))):=⟨by(with_reducible repeat(first|refine aC ?_ _|refine aG ?_|refine ay ?_ _));refine dw ?_ rE.out _;(with_reducible repeat(first|refine aC ?_ _|refine aG ?_|refine ay ?_ _));refine dw ?_ rE.out _;(with_reducible repeat(first|refine aC ?_ _|refine aG ?_|refine ay ?_ _));refine dw ?_ rE.out _;(with_reducible repeat(first|refine aC ?_ _|refine aG ?_|refine ay ?_ _));refine dw ?_ rE.out _;(with_reducible repeat(first|refine aC ?_ _|refine aG ?_|refine ay ?_ _));exact eU.out⟩
         have tK:aa (((((Mg.setCell ⟨dC,0,none⟩ (.int .i64 ((bA aU dz).f0))).setCell ⟨dC,1,none⟩ (.int .i64 ((bA aU dz).f1))).setCell ⟨dC,2,none⟩ (.int .i64 ((bA aU dz).f2.f0))).setCell ⟨dC,3,none⟩ (.int .i64 ((bA aU dz).f2.f1))).heap[ji]?=some (.cells #[iw,jR] 78 (0,0))):=⟨by(with_reducible repeat(first|refine aC ?_ _|refine aG ?_|refine ay ?_ _));refine dw ?_ oK.out _;(with_reducible repeat(first|refine aC ?_ _|refine aG ?_|refine ay ?_ _));refine dw ?_ oK.out _;(with_reducible repeat(first|refine aC ?_ _|refine aG ?_|refine ay ?_ _));refine dw ?_ oK.out _;(with_reducible repeat(first|refine aC ?_ _|refine aG ?_|refine ay ?_ _));refine dw ?_ oK.out _;(with_reducible repeat(first|refine aC ?_ _|refine aG ?_|refine ay ?_ _));exact dm.out⟩
         have yN:aa (((((Mg.setCell ⟨dC,0,none⟩ (.int .i64 ((bA aU dz).f0))).setCell ⟨dC,1,none⟩ (.int .i64 ((bA aU dz).f1))).setCell ⟨dC,2,none⟩ (.int .i64 ((bA aU dz).f2.f0))).setCell ⟨dC,3,none⟩ (.int .i64 ((bA aU dz).f2.f1))).heap[dC]?=some (.cells #[.int .i64 ((bA aU dz).f0),.int .i64 ((bA aU dz).f1),.int .i64 ((bA aU dz).f2.f0),.int .i64 ((bA aU dz).f2.f1)] 74 (0,0))):=⟨by(with_reducible repeat(first|refine aC ?_ _|refine aG ?_|refine ay ?_ _));refine nE (cs:=#[.int .i64 ((bA aU dz).f0),.int .i64 ((bA aU dz).f1),.int .i64 ((bA aU dz).f2.f0),.int .i64 0]) ?_ 3 _ rfl;(with_reducible repeat(first|refine aC ?_ _|refine aG ?_|refine ay ?_ _));refine nE (cs:=#[.int .i64 ((bA aU dz).f0),.int .i64 ((bA aU dz).f1),.int .i64 0,.int .i64 0]) ?_ 2 _ rfl;(with_reducible repeat(first|refine aC ?_ _|refine aG ?_|refine ay ?_ _));refine nE (cs:=#[.int .i64 ((bA aU dz).f0),.int .i64 0,.int .i64 0,.int .i64 0]) ?_ 1 _ rfl;(with_reducible repeat(first|refine aC ?_ _|refine aG ?_|refine ay ?_ _));refine nE (cs:=#[.int .i64 0,.int .i64 0,.int .i64 0,.int .i64 0]) ?_ 0 _ rfl;(with_reducible repeat(first|refine aC ?_ _|refine aG ?_|refine ay ?_ _));exact gB.out⟩
         have yM:aa (Below w.heap.size w ((((Mg.setCell ⟨dC,0,none⟩ (.int .i64 ((bA aU dz).f0))).setCell ⟨dC,1,none⟩ (.int .i64 ((bA aU dz).f1))).setCell ⟨dC,2,none⟩ (.int .i64 ((bA aU dz).f2.f0))).setCell ⟨dC,3,none⟩ (.int .i64 ((bA aU dz).f2.f1)))):=⟨by repeat(first|(with_reducible first|exact HB.out|apply ae|apply ag|apply ah|refine az ?_ lC.out|refine az ?_ mQ.out|refine az ?_ pK.out|refine az ?_ IM.out)|exact HB.out)⟩
         (try clear bR)
         (try clear dV)
         (try clear bX)
         (try clear eU)
         (try clear dm)
         (try clear gB)
         (try clear HB)
         generalize((((Mg.setCell ⟨dC,0,none⟩ (.int .i64 ((bA aU dz).f0))).setCell ⟨dC,1,none⟩ (.int .i64 ((bA aU dz).f1))).setCell ⟨dC,2,none⟩ (.int .i64 ((bA aU dz).f2.f0))).setCell ⟨dC,3,none⟩ (.int .i64 ((bA aU dz).f2.f1)))=w32 at fH fU gV iT tK yN yM ⊢
         have bR:=fH
         have dV:=fU
         have bX:=gV
         have eU:=iT
         have dm:=tK
         have gB:=yN
         have HB:=yM
         clear fH fU gV iT tK yN yM
         have fH:=aa.mk (Kd.cO bR.out)
         have fU:=aa.mk (Kd.cO dV.out)
         have gV:=aa.mk (aG bX.out)
         have iT:=aa.mk (aG eU.out)
         have tK:=aa.mk (aG dm.out)
         have yN:=aa.mk (aG gB.out)
         have yM:=aa.mk (ah HB.out)
         clear bR
         clear dV
         clear bX
         clear eU
         clear dm
         clear gB
         clear HB
         have bR:=fH
         have dV:=fU
         have bX:=gV
         have eU:=iT
         have dm:=tK
         have gB:=yN
         have HB:=yM
         clear fH fU gV iT tK yN yM
         refine dB (n:=14) (S:=λw'=>w'.cell? ⟨ji,0,none⟩=some (iw)/\w'.cell? ⟨ji,1,none⟩=some (jR)/\w'.cell? ⟨dC,0,none⟩=some (.int .i64 ((bA aU dz).f0))/\w'.cell? ⟨dC,1,none⟩=some (.int .i64 ((bA aU dz).f1))/\w'.cell? ⟨dC,2,none⟩=some (.int .i64 ((bA aU dz).f2.f0))/\w'.cell? ⟨dC,3,none⟩=some (.int .i64 ((bA aU dz).f2.f1))) (ds:=[13]) #[O,O,O,O,O,O,O,O,O,O,O,O,O,O] (by kernel_rfl) rfl rfl ⟨(aA dm.out 0).trans rfl,(aA dm.out 1).trans rfl,(aA gB.out 0).trans rfl,(aA gB.out 1).trans rfl,(aA gB.out 2).trans rfl,(aA gB.out 3).trans rfl⟩ (λhHeld=>?_);refine bu aH.D9 aH.zf (λak bN=>?_)
         generalize w32.drew=w33 at bR dV bX eU dm gB HB hHeld ⊢
         refine aZ 0 37 #[I,O,O,O,O,O,O,O,O,O,O,O,O,O] ak (h:=?_)
         refine aZ 2 39 #[I,O,I,O,O,O,O,O,O,O,O,O,O,O] ak (h:=?_)
         refine aZ 4 41 #[I,O,I,O,I,O,O,O,O,O,O,O,O,O] ak (h:=?_)
         refine aZ 6 43 #[I,O,I,O,I,O,I,O,O,O,O,O,O,O] ak (h:=?_)
         refine dG 1 38 #[I,I,I,O,I,O,I,O,O,O,O,O,O,O] ak bN hHeld (hy:=by(rintro w' ⟨s0,s1,s2,s3,s4,s5⟩;go_simp;with_reducible rfl)) (h:=?_)
         refine dG 3 40 #[I,I,I,I,I,O,I,O,O,O,O,O,O,O] ak bN hHeld (hy:=by(rintro w' ⟨s0,s1,s2,s3,s4,s5⟩;go_simp;with_reducible rfl)) (h:=?_)
         refine dG 5 42 #[I,I,I,I,I,I,I,O,O,O,O,O,O,O] ak bN hHeld (hy:=by(rintro w' ⟨s0,s1,s2,s3,s4,s5⟩;go_simp;with_reducible rfl)) (h:=?_)
         refine dG 7 44 #[I,I,I,I,I,I,I,I,O,O,O,O,O,O] ak bN hHeld (hy:=by(rintro w' ⟨s0,s1,s2,s3,s4,s5⟩;go_simp;with_reducible rfl)) (h:=?_)
         refine dO (i:=8) (N:=some 45) #[I,I,I,I,I,I,I,I,I,O,O,O,O,O] rfl rfl (aI ak.out (by kernel_rfl)) (by decide) (λK hK=>?_)
         refine bW Tryz.func55 (by kernel_rfl) rfl #[.agg #[.int .i64 ((bA aU dz).f2.f0),.int .i64 ((bA aU dz).f2.f1)]] (by rfl) rfl rfl (by(try simp only[List.map_toArray,List.map_cons,List.map_nil]);first|done|rfl|(simp only[List.length_drop,List.length_take];rfl)) ?_
         with_reducible refine(gM.calls ((bA aU dz).f2.f0) ((bA aU dz).f2.f1) t174 t175 _ A22.out).mono ?_
         rintro e w34 ⟨rfl,hb⟩
         refine⟨_,rfl,?_⟩
         have fH:=aa.mk (Kd.bV (by(with_reducible repeat(first|apply Kd.bK|apply Kd.dh|apply Kd.cO));exact bR.out) hb)
         have fU:=aa.mk (Kd.bV (by(with_reducible repeat(first|apply Kd.bK|apply Kd.dh|apply Kd.cO));exact dV.out) hb)
         have gV:=aa.mk (dn (g:=iF) (o:= .cells #[.slice gL bI.length fQ,.slice (some Es) aU.length fw] 62 (0,0)) (by(with_reducible repeat(first|refine aC ?_ _|refine aG ?_|refine ay ?_ _));exact bX.out) hb)
         have iT:=aa.mk (dn (g:=jC) (o:= .cells #[.slice none 0 0,.slice none 0 0] 78 (0,0)) (by(with_reducible repeat(first|refine aC ?_ _|refine aG ?_|refine ay ?_ _));exact eU.out) hb)
         have tK:=aa.mk (dn (g:=ji) (o:= .cells #[iw,jR] 78 (0,0)) (by(with_reducible repeat(first|refine aC ?_ _|refine aG ?_|refine ay ?_ _));exact dm.out) hb)
         have yN:=aa.mk (dn (g:=dC) (o:= .cells #[.int .i64 ((bA aU dz).f0),.int .i64 ((bA aU dz).f1),.int .i64 ((bA aU dz).f2.f0),.int .i64 ((bA aU dz).f2.f1)] 74 (0,0)) (by(with_reducible repeat(first|refine aC ?_ _|refine aG ?_|refine ay ?_ _));exact gB.out) hb)
         have yM:=aa.mk (bL (by repeat(first|(with_reducible first|exact HB.out|apply ae|apply ag|apply ah|refine az ?_ lC.out|refine az ?_ mQ.out|refine az ?_ pK.out|refine az ?_ IM.out)|exact HB.out)) hb)
         clear bR
         clear dV
         clear bX
         clear eU
         clear dm
         clear gB
         clear HB
         have bR:=fH
         have dV:=fU
         have bX:=gV
         have eU:=iT
         have dm:=tK
         have gB:=yN
         have HB:=yM
         clear fH fU gV iT tK yN yM
         (try clear hb)
         (try clear hb2)
         (try clear hk)
         (try clear hi)
         refine hK.out _ _ ⟨(aA dm.out 0).trans rfl,(aA dm.out 1).trans rfl,(aA gB.out 0).trans rfl,(aA gB.out 1).trans rfl,(aA gB.out 2).trans rfl,(aA gB.out 3).trans rfl⟩ (λhHeld=>?_)
         clear hK K
         refine bH (a':=?_) ?_ ?_
         rotate_left
         .show Act.put _ (some 45) _=_
          simp only[Act.put,sb0,sb1,dD,dI,dY]
          rfl
         refine aZ 9 46 #[I,I,I,I,I,I,I,I,I,I,O,O,O,O] ak (h:=?_)
         refine dO (i:=10) (N:=some 47) #[I,I,I,I,I,I,I,I,I,I,I,O,O,O] rfl rfl (aI ak.out (by kernel_rfl)) (by decide) (λK hK=>?_)
         refine bT (w1:=?_) (v:=?_) (by rfl) rfl ?_ ?_
         rotate_left 2
         .go_simp
          constructor
          .rfl
          .rfl
         refine hK.out _ _ ⟨(aA (ay dm.out _) 0).trans rfl,(aA (ay dm.out _) 1).trans rfl,(aA (ay gB.out _) 0).trans rfl,(aA (ay gB.out _) 1).trans rfl,(aA (ay gB.out _) 2).trans rfl,(aA (ay gB.out _) 3).trans rfl⟩ (λhHeld=>?_)
         clear hK K
         refine bH (a':=?_) ?_ ?_
         rotate_left
         .show Act.put _ (some 47) _=_
          simp only[Act.put,sb0,sb1,dD,dI,dY]
          rfl
         refine dO (i:=11) (N:=some 48) #[I,I,I,I,I,I,I,I,I,I,I,I,O,O] rfl rfl (aI ak.out (by kernel_rfl)) (by decide) (λK hK=>?_)
         refine Kd.qJ tF (w0:=w) w.heap.size (by rfl) (.tmp 38) (.tmp 47) 76 141 (.agg #[(.int .i64 0),(.int .i64 0),(.int .i64 0),(.int .i64 0)]) 32 rfl Tryz.underlying76 Uk rfl (by decide) (by omega) jR jf (⟨(bA aU dz).f0,(bA aU dz).f1,(⟨t174,t175⟩:dP)⟩:aV) [.int .i64 ((bA aU dz).f0),.int .i64 ((bA aU dz).f1),.int .i64 t174,.int .i64 t175] (λ_=>True) (λ_=>False) rfl rfl ?aP (λ_ hk=>hk.elim) ?aF ?aO ?aB ?aS ?aL ?_
         (case aP=>exact QZ _ _ _ (⟨(bA aU dz).f0,(bA aU dz).f1,(⟨t174,t175⟩:dP)⟩:aV))
         (case aB=>exact(by repeat(first|(with_reducible first|exact HB.out|apply ae|apply ag|apply ah|refine az ?_ lC.out|refine az ?_ mQ.out|refine az ?_ pK.out|refine az ?_ IM.out)|exact HB.out)))
         (case aF=>exact(λ_ _=>trivial))
         (case aO=>exact(by(with_reducible repeat(first|apply Kd.bK|apply Kd.dh|apply Kd.cO));exact dV.out))
         (case aS=>exact(aW (by repeat(first|(with_reducible first|exact HB.out|apply ae|apply ag|apply ah|refine az ?_ lC.out|refine az ?_ mQ.out|refine az ?_ pK.out|refine az ?_ IM.out)|exact HB.out))))
         (case aL=>have:=adA.out;omega)
         intro anF w35 ho hb hg hat
         rw[<- adt.out] at ho
         have fH:=aa.mk (Kd.Vn (by(with_reducible repeat(first|apply Kd.bK|apply Kd.dh|apply Kd.cO));exact bR.out) (Kd.lI (by(with_reducible repeat(first|apply Kd.bK|apply Kd.dh|apply Kd.cO));exact dV.out)) (by decide) hg)
         have fU:=aa.mk (mX (g:=iF) (o:= .cells #[.slice gL bI.length fQ,.slice (some Es) aU.length fw] 62 (0,0)) (by(with_reducible repeat(first|refine aC ?_ _|refine aG ?_|refine ay ?_ _));exact bX.out) hg (Kd.K6 dV.out bX.out (by decide)))
         have gV:=aa.mk (mX (g:=jC) (o:= .cells #[.slice none 0 0,.slice none 0 0] 78 (0,0)) (by(with_reducible repeat(first|refine aC ?_ _|refine aG ?_|refine ay ?_ _));exact eU.out) hg (Kd.K6 dV.out eU.out (by decide)))
         have iT:=aa.mk (mX (g:=ji) (o:= .cells #[iw,jR] 78 (0,0)) (by(with_reducible repeat(first|refine aC ?_ _|refine aG ?_|refine ay ?_ _));exact dm.out) hg (Kd.K6 dV.out dm.out (by decide)))
         have tK:=aa.mk (mX (g:=dC) (o:= .cells #[.int .i64 ((bA aU dz).f0),.int .i64 ((bA aU dz).f1),.int .i64 ((bA aU dz).f2.f0),.int .i64 ((bA aU dz).f2.f1)] 74 (0,0)) (by(with_reducible repeat(first|refine aC ?_ _|refine aG ?_|refine ay ?_ _));exact gB.out) hg (Kd.K6 dV.out gB.out (by decide)))
         have yN:=aa.mk (hb)
         have yM:=aa.mk (ho)
         clear bR
         clear bX
         clear eU
         clear dm
         clear gB
         clear HB
         clear dV
         have bR:=fH
         have bX:=fU
         have eU:=gV
         have dm:=iT
         have gB:=tK
         have HB:=yN
         have Xj:=yM
         clear fH fU gV iT tK yN yM
         clear ho hb hg hat
         obtain⟨aal,Zf,acP⟩:=Kd.kP Xj.out
         (first|subst acP|(injection acP with WO f2_ WN;have f4_:=WO.symm;have f5_:=WN.symm;clear WO f2_ WN;subst f4_;subst f5_))
         refine hK.out _ _ ⟨(aA dm.out 0).trans rfl,(aA dm.out 1).trans rfl,(aA gB.out 0).trans rfl,(aA gB.out 1).trans rfl,(aA gB.out 2).trans rfl,(aA gB.out 3).trans rfl⟩ (λhHeld=>?_)
         clear hK K
         refine bH (a':=?_) ?_ ?_
         rotate_left
         .show Act.put _ (some 48) _=_
          simp only[Act.put,sb0,sb1,dD,dI,dY]
          rfl
         refine aZ 12 49 #[I,I,I,I,I,I,I,I,I,I,I,I,I,O] ak (h:=?_)
         refine dE (i:=13) (N:=none) #[I,I,I,I,I,I,I,I,I,I,I,I,I,I] rfl rfl (aI ak.out (by kernel_rfl)) (by decide) (λK hK=>?_)
         have an8:w35.cell? ⟨ji,1,none⟩=some (jR):=(aA dm.out 1).trans rfl
         have alp:=aD dm.out 1
         have ae1:=lX.out
         have ae0:=rF.out
         have aeZ:=Ex.out
         have ae6:=oL.out
         have ae5:=zh.out
         have ae4:=oK.out
         refine gW (w1:=?_) (by rfl) rfl ?_ ?_
         rotate_left
         .go_simp
          rfl
         refine hK.out _ _ ?_
         clear hK K
         refine dK (bG ak.out (by kernel_rfl)) ?_
         try go_wp2
         go_roundg k2
         case measure=>have:=qN.out;have:=IJ.out;omega
         case rel=>exact⟨(wrap64 (dz+1)),(Qd),(.slice aal Qd.length Zf),(by first|rfl|(simp;done)|(simp[*];done)),H',⟨by have:=qN.out;have:=IJ.out;omega⟩,⟨by(with_reducible repeat(first|apply Kd.bK|apply Kd.dh|apply Kd.cO));exact Kd.bB (Kd.dx (p:=⟨ji,1,none⟩) (Kd.ql bR.out dm.out (by decide)) (λ_ hk=>hk.2) (.slice aal Qd.length Zf)) (λ_ hk=>trivial)⟩,⟨by(with_reducible repeat(first|apply Kd.bK|apply Kd.dh|apply Kd.cO));exact Kd.bB (Kd.dx (p:=⟨ji,1,none⟩) (Kd.ql Xj.out dm.out (by decide)) (λ_ hk=>hk.2) (.slice aal Qd.length Zf)) (λ_ hk=>trivial)⟩,⟨by(with_reducible repeat(first|refine aC ?_ _|refine aG ?_|refine ay ?_ _));refine dw ?_ lX.out _;(with_reducible repeat(first|refine aC ?_ _|refine aG ?_|refine ay ?_ _));exact bX.out⟩,⟨by(with_reducible repeat(first|refine aC ?_ _|refine aG ?_|refine ay ?_ _));refine dw ?_ rF.out _;(with_reducible repeat(first|refine aC ?_ _|refine aG ?_|refine ay ?_ _));exact eU.out⟩,⟨by(with_reducible repeat(first|refine aC ?_ _|refine aG ?_|refine ay ?_ _));refine nE (cs:=#[iw,jR]) ?_ 1 _ rfl;(with_reducible repeat(first|refine aC ?_ _|refine aG ?_|refine ay ?_ _));exact dm.out⟩,⟨by repeat(first|(with_reducible first|exact HB.out|apply ae|apply ag|apply ah|refine az ?_ lC.out|refine az ?_ mQ.out|refine az ?_ pK.out|refine az ?_ IM.out)|exact HB.out)⟩⟩
        .rw[if_neg c23] at H
         exact absurd H (by simp)
       .rw[if_neg c21] at H
        exact absurd H (by simp)
      .rw[if_neg c20] at H
       have ac7:decide (dz<(aU.length:Int))=false:=decide_eq_false c20
       clear c20
       simp only[Option.some.injEq,Prod.mk.injEq] at H
       obtain⟨rfl,rfl⟩:=H
       have ak1:=uY.out
       have akR:=uX.out
       have abL:=lX.out
       have abH:=oL.out
       have UI:wr.cell? ⟨iF,0,none⟩=some (.slice gL bI.length fQ):=(aA bX.out 0).trans rfl
       have UH:wr.cell? ⟨iF,1,none⟩=some (.slice gu aU.length fw):=(aA bX.out 1).trans rfl
       have Uz:=aD bX.out 0
       have Uy:=aD bX.out 1
       have ak0:=zh.out
       have akQ:=rF.out
       have afs:wr.cell? ⟨ji,0,none⟩=some (iw):=(aA dm.out 0).trans rfl
       have afr:wr.cell? ⟨ji,1,none⟩=some (jR):=(aA dm.out 1).trans rfl
       have aff:=aD dm.out 0
       have afe:=aD dm.out 1
       obtain⟨VS,U5,aiq⟩:=Kd.kP bR.out
       subst aiq
       have afq:wr.cell? ⟨jC,0,none⟩=some (.slice none 0 0):=(aA eU.out 0).trans rfl
       have afp:wr.cell? ⟨jC,1,none⟩=some (.slice none 0 0):=(aA eU.out 1).trans rfl
       have afd:=aD eU.out 0
       have afc:=aD eU.out 1
       obtain⟨aak,Ze,aip⟩:=Kd.kP dV.out
       subst aip
       go_wp2
       refine bodyPost_ret (results_cell_row rfl _ _ jC 78 #[.slice VS fV.length U5,.slice aak jf.length Ze] (0,0) _ rfl (by(with_reducible repeat(first|refine aC ?_ _|refine aG ?_|refine ay ?_ _));refine nE (cs:=#[.slice VS fV.length U5,.slice none 0 0]) ?_ 1 _ rfl;(with_reducible repeat(first|refine aC ?_ _|refine aG ?_|refine ay ?_ _));refine nE (cs:=#[.slice none 0 0,.slice none 0 0]) ?_ 0 _ rfl;(with_reducible repeat(first|refine aC ?_ _|refine aG ?_|refine ay ?_ _));exact eU.out) Tryz.underlying78 rfl (by kernel_rfl)) rfl ?_
       exact⟨_,_,by first|rfl|(simp[aY,aX]<;>rfl)|(simp[*,aY,aX]<;>rfl),by(with_reducible repeat(first|apply Kd.bK|apply Kd.dh|apply Kd.cO));exact Kd.bB (Kd.dx (p:=⟨jC,1,none⟩) (Kd.dx (p:=⟨jC,0,none⟩) (Kd.ql bR.out eU.out (by decide)) (λ_ hk=>hk.2) (.slice VS fV.length U5)) (λ_ hk=>hk.2) (.slice aak jf.length Ze)) (λ_ hk=>trivial),by(with_reducible repeat(first|apply Kd.bK|apply Kd.dh|apply Kd.cO));exact Kd.bB (Kd.dx (p:=⟨jC,1,none⟩) (Kd.dx (p:=⟨jC,0,none⟩) (Kd.ql dV.out eU.out (by decide)) (λ_ hk=>hk.2) (.slice VS fV.length U5)) (λ_ hk=>hk.2) (.slice aak jf.length Ze)) (λ_ hk=>trivial),by repeat(first|(with_reducible first|exact HB.out|apply ae|apply ag|apply ah|refine az ?_ lC.out|refine az ?_ mQ.out|refine az ?_ pK.out)|exact HB.out)⟩
def eu.f(a0:Int)(a1:Int)(a2:Int):Option (Bool):=if a1<=a0 then(some (decide (a0<=a2))) else(some false)
set_option maxHeartbeats 8000000 in
theorem eu.calls(a0:Int)(a1:Int)(a2:Int)(r:Bool)(w:World)(h:eu.f a0 a1 a2=some r):
  Calls Tryz.prog 76 #[.int .i64 a0,.int .i64 a1,.int .i64 a2] w λe w'=>e= .returned (.bool r)/\bF w w':=by
 have H:(if a1<=a0 then(some (decide (a0<=a2))) else(some false))=some r:=h
 clear h
 by_cases c4:a1<=a0
 .rw[if_pos c4] at H
  have ze:decide (a1<=a0)=true:=decide_eq_true c4
  clear c4
  obtain rfl:=Option.some.inj H
  go_enter Tryz.func76,Tryz.ntmps76
  go_wp2
  go_ret
  exact⟨by first|rfl|(simp;done)|(simp[*];done),by repeat(first|exact bF.refl _|apply bF.step)⟩
 .rw[if_neg c4] at H
  have ze:decide (a1<=a0)=false:=decide_eq_false c4
  clear c4
  obtain rfl:=Option.some.inj H
  go_enter Tryz.func76,Tryz.ntmps76
  go_wp2
  go_ret
  exact⟨by first|rfl|(simp;done)|(simp[*];done),by repeat(first|exact bF.refl _|apply bF.step)⟩
def fI.f(di:Int)(dU:Int)(a1:Int):Option (Bool):=(eu.f a1 di dU).bind λt189=>(some t189)
set_option maxHeartbeats 8000000 in
theorem fI.calls(di:Int)(dU:Int)(a1:Int)(r:Bool)(w:World)(h:fI.f di dU a1=some r):
  Calls Tryz.prog 100 #[.agg #[.int .i64 di,.int .i64 dU],.int .i64 a1] w λe w'=>e= .returned (.bool r)/\Below w.heap.size w w':=by
 have OO:=Tryz.underlying88
 have HB:=aa.mk (Below.refl w.heap.size w)
 have H:((eu.f a1 di dU).bind λt189=>(some t189))=some r:=h
 clear h
 replace H:=Option.bind_eq_some_iff.mp H
 obtain⟨t189,XA,H⟩:=H
 replace H:(some t189)=some r:=H
 have A3:=aa.mk XA
 clear XA
 obtain rfl:=Option.some.inj H
 go_enter Tryz.func100,Tryz.ntmps100
 go_wp2_with (first|((with_reducible refine cZ (N:=2) rfl ?_);refine dA ?hg (N:=2) ?hd (cs:=#[.int .i64 di,.int .i64 dU]) (t:=88) ?hr ?_;(case hd=>rfl);(case hg=>rfl);(case hr=>first|(go_simp;done)|(go_simp;rfl));intro MX hg w4 eH hb;have fH:=aa.mk (bL (by repeat(first|(with_reducible first|exact HB.out|apply ae|apply ag|apply ah)|exact HB.out)) hb);have fU:=aa.mk (eH);have gV:=aa.mk ((by rw[hg];exact(aW (by repeat(first|(with_reducible first|exact HB.out|apply ae|apply ag|apply ah)|exact HB.out))):w.heap.size<=MX));have iT:=aa.mk ((by rw[hg];exact(aW (by repeat(first|(with_reducible first|exact HB.out|apply ae|apply ag|apply ah)|exact HB.out))):w.heap.size<=MX));clear HB;have HB:=fH;have NG:=fU;have am2:=gV;have aep:=iT;clear fH fU gV iT;clear hb eH hg;have Rp:w4.cell? ⟨MX,0,none⟩=some (.int .i64 di):=(aA NG.out 0).trans rfl;have Ro:w4.cell? ⟨MX,1,none⟩=some (.int .i64 dU):=(aA NG.out 1).trans rfl;have Rl:=aD NG.out 0;have Rk:=aD NG.out 1)|((with_reducible refine fu (f:=76) rfl ?_);refine lN (some 10) rfl rfl Tryz.func76 (by kernel_rfl) rfl #[.int .i64 a1,.int .i64 di,.int .i64 dU] rfl (by(try simp only[List.map_toArray,List.map_cons,List.map_nil]);first|done|rfl|(simp only[List.length_drop,List.length_take];rfl)) ?_;(with_reducible refine(eu.calls a1 di dU t189 _ A3.out).mono ?_);rintro e w' ⟨rfl,⟨nd,rfl⟩⟩;refine⟨_,rfl,?_⟩))
 go_ret
 exact⟨by first|rfl|(simp[aY,aX]<;>rfl)|(simp[*,aY,aX]<;>rfl),by repeat(first|(with_reducible first|exact HB.out|apply ae|apply ag|apply ah|refine az ?_ aep.out)|exact HB.out)⟩
end Go.Proofs.YtkjoilgpmngndaaGreat.au
