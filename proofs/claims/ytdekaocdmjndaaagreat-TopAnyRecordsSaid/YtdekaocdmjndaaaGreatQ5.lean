import Derived.Test.YtdekaocdmjndaaaGreatQ4
set_option maxRecDepth 100000
set_option linter.all false
namespace Go.Proofs.YtdekaocdmjndaaaGreat.ah
open Go.RowKit YtdekaocdmjndaaaGreatW.aj YtdekaocdmjndaaaGreatW.aH YtdekaocdmjndaaaGreatW.eu
attribute [local go_sem] nA pF qw sI mU mR pI pE
mutual
def aD.l0:Nat->Int->Int->Int->List (uP)->List (FW)->Int->Int->List (iK)->Option (Int×Int×(List (iK))×(List (jh)))
 |0,_,_,_,_,_,_,_,_=>none
 |k+1,x4,yz,yx,mr,nY,uU,uT,rW=>if x4<(mr.length:Int) then(if 0<=x4 then((iA.f ((fq mr x4).f0) ((fq mr x4).f1) ((fq mr x4).f2) ((fq mr x4).f3)).bind λJj=>(if rW.length<4398046511104 then(aD.l0 k (wrap64 (x4+1)) yz yx mr nY uU uT (rW++[(⟨Jj.1,Jj.2.1,Jj.2.2.1,Jj.2.2.2⟩:iK)])) else(none))) else(none)) else(aD.l1 k 0 yz yx mr nY uU uT rW ([]:List (jh)))
def aD.l1:Nat->Int->Int->Int->List (uP)->List (FW)->Int->Int->List (iK)->List (jh)->Option (Int×Int×(List (iK))×(List (jh)))
 |0,_,_,_,_,_,_,_,_,_=>none
 |k+1,x5,yz,yx,mr,nY,uU,uT,rW,Cn=>if x5<(nY.length:Int) then(if 0<=x5 then(if Cn.length<5864062014805 then(aD.l1 k (wrap64 (x5+1)) yz yx mr nY uU uT rW (Cn++[(⟨(dD nY x5).f0,(dD nY x5).f1,(dD nY x5).f2⟩:jh)])) else(none)) else(none)) else(some (uU,uT,rW,Cn))
end
def aD.f(k:Nat)(bu:Int)(bF:Int)(dA:List (uP))(dC:List (FW)):Option (Int×Int×(List (iK))×(List (jh))):=aD.l0 k 0 bu bF dA dC bu bF ([]:List (iK))
def aD.T5:Bool×List (List Nat×List Nat):=(true,[([],[]),([0],[0]),([],[]),([2],[2]),([],[]),([3,4],[3,4]),([5],[5]),([6],[6]),([7],[7]),([1,8,7],[1,8]),([0,1,2,3,4,5,6,7,8,9],[]),([10,9,9,0,1,2,3,4,5,6,7,8,9],[9,10])])
def aD.B5:List Nat:=[0,1,0,4,0,28,60,124,252,511,1023,2047]
theorem aD.yV:eB .any (opsOf Tryz.f21 5)=aD.T5:=by kernel_rfl
theorem aD.rP:bI aD.T5.2 aD.B5=true:=by kernel_rfl
set_option maxHeartbeats 8000000 in
theorem aD.calls(k:Nat)(bu:Int)(bF:Int)(jK:Option Addr)(jg:Nat)(dA:List (uP))(mf:Option Addr)(kz:Nat)(dC:List (FW))(r1:Int)(r2:Int)(r3:List (iK))(r4:List (jh))(w:World)(xK:Kd.C rD w jK dA.length dA)(xL:dA.length<=jg)(EO:Kd.C AX w mf dC.length dC)(EU:dC.length<=kz)(h:aD.f k bu bF dA dC=some (r1,r2,r3,r4)):
  Calls Tryz.prog 21 #[.agg #[.int .i64 bu,.int .i64 bF,.slice jK dA.length jg,.slice mf dC.length kz]] w λe w'=>∃v2_ v3_:Value,e= .returned (.agg #[.int .i64 r1,.int .i64 r2,v2_,v3_])/\Kd.R wY 188 w' w.heap.size (λ_=>True) v2_ r3/\Kd.R yf 191 w' w.heap.size (λ_=>True) v3_ r4/\Below w.heap.size w w':=by
 have aeg:=Tryz.underlying59
 have akz:=Tryz.underlying67
 have Yi:=Tryz.underlying63
 have Yj:=Tryz.underlying190
 have akA:=Tryz.underlying62
 have ahG:=Tryz.underlying191
 have Pm:=aa.mk xK
 have TP:=aa.mk xL
 clear xK xL
 have TC:=aa.mk EO
 have aaQ:=aa.mk EU
 clear EO EU
 have HB:=aa.mk (Below.refl w.heap.size w)
 have H:(aD.l0 k 0 bu bF dA dC bu bF ([]:List (iK)))=some (r1,r2,r3,r4):=h
 clear h
 have H':=aa.mk H
 clear H
 go_enter Tryz.func21,Tryz.ntmps21
 go_wp2_with (first|((with_reducible refine dM (N:=1) rfl ?_);refine ek ?hg (N:=1) ?hd (cs:=#[.int .i64 bu,.int .i64 bF,.slice jK dA.length jg,.slice mf dC.length kz]) (t:=59) ?hr ?_;(case hd=>rfl);(case hg=>rfl);(case hr=>first|(go_simp;done)|(go_simp;rfl));intro dR hg w2 fK hb;have ic:=aa.mk (bZ (by repeat(first|(with_reducible first|exact HB.out|apply ae|apply ag|apply ak)|exact HB.out)) hb);have ib:=aa.mk (fK);have iU:=aa.mk ((by rw[hg];exact(aT (by repeat(first|(with_reducible first|exact HB.out|apply ae|apply ag|apply ak)|exact HB.out))):w.heap.size<=dR));have jR:=aa.mk ((by rw[hg];exact(aT (by repeat(first|(with_reducible first|exact HB.out|apply ae|apply ag|apply ak)|exact HB.out))):w.heap.size<=dR));clear HB;have HB:=ic;have bC:=ib;have ajN:=iU;have kY:=jR;clear ic ib iU jR;clear hb fK hg)|((with_reducible refine dM (N:=2) rfl ?_);refine ek ?hg (N:=2) ?hd (cs:=#[.int .i64 0,.int .i64 0,.slice none 0 0,.slice none 0 0]) (t:=67) ?hr ?_;(case hd=>rfl);(case hg=>rfl);(case hr=>first|(go_simp;done)|(go_simp;rfl));intro gK hg w3 fK hb;have ic:=aa.mk (gT (g:=dR) (o:= .cells #[.int .i64 bu,.int .i64 bF,.slice jK dA.length jg,.slice mf dC.length kz] 59 (0,0)) (by(with_reducible repeat(first|refine aG ?_ _|refine aI ?_|refine ay ?_ _));exact bC.out) hb);have ib:=aa.mk (bZ (by repeat(first|(with_reducible first|exact HB.out|apply ae|apply ag|apply ak|refine aJ ?_ kY.out)|exact HB.out)) hb);have iU:=aa.mk (fK);have jR:=aa.mk ((by rw[hg];exact(aT (by repeat(first|(with_reducible first|exact HB.out|apply ae|apply ag|apply ak|refine aJ ?_ kY.out)|exact HB.out))):w.heap.size<=gK));have zm:=aa.mk ((by rw[hg];exact(aT (by repeat(first|(with_reducible first|exact HB.out|apply ae|apply ag|apply ak|refine aJ ?_ kY.out)|exact HB.out))):w.heap.size<=gK));have IY:=aa.mk ((by rw[hg];exact Nat.ne_of_lt (ig (g:=dR) (o:= .cells #[.int .i64 bu,.int .i64 bF,.slice jK dA.length jg,.slice mf dC.length kz] 59 (0,0)) (by(with_reducible repeat(first|refine aG ?_ _|refine aI ?_|refine ay ?_ _));exact bC.out)):dR≠gK));have IX:=aa.mk ((by rw[hg];exact Nat.ne_of_gt (ig (g:=dR) (o:= .cells #[.int .i64 bu,.int .i64 bF,.slice jK dA.length jg,.slice mf dC.length kz] 59 (0,0)) (by(with_reducible repeat(first|refine aG ?_ _|refine aI ?_|refine ay ?_ _));exact bC.out)):gK≠dR));clear bC;clear HB;have bC:=ic;have HB:=ib;have eH:=iU;have ajM:=jR;have mq:=zm;have pW:=IY;have pV:=IX;clear ic ib iU jR zm IY IX;clear hb fK hg;have aeo:=pW.out;have aen:=pV.out;have C8:w3.cell? ⟨dR,0,none⟩=some (.int .i64 bu):=(av bC.out 0).trans rfl;have C7:w3.cell? ⟨dR,1,none⟩=some (.int .i64 bF):=(av bC.out 1).trans rfl;have He:w3.cell? ⟨dR,2,none⟩=some (.slice jK dA.length jg):=(av bC.out 2).trans rfl;have Hd:w3.cell? ⟨dR,3,none⟩=some (.slice mf dC.length kz):=(av bC.out 3).trans rfl;have CZ:=aA bC.out 0;have CY:=aA bC.out 1;have G8:=aA bC.out 2;have G7:=aA bC.out 3)|((with_reducible refine dM (N:=3) rfl ?_);refine ek ?hg (N:=3) ?hd (cs:=#[.int .i64 0,.int .i64 0,.slice none 0 0,.slice none 0 0]) (t:=67) ?hr ?_;(case hd=>rfl);(case hg=>rfl);(case hr=>first|(go_simp;done)|(go_simp;rfl));intro eQ hg w6 fK hb;have ic:=aa.mk (gT (g:=dR) (o:= .cells #[.int .i64 bu,.int .i64 bF,.slice jK dA.length jg,.slice mf dC.length kz] 59 (0,0)) (by(with_reducible repeat(first|refine aG ?_ _|refine aI ?_|refine ay ?_ _));exact bC.out) hb);have ib:=aa.mk (gT (g:=gK) (o:= .cells #[.int .i64 0,.int .i64 0,.slice none 0 0,.slice none 0 0] 67 (0,0)) (by(with_reducible repeat(first|refine aG ?_ _|refine aI ?_|refine ay ?_ _));exact eH.out) hb);have iU:=aa.mk (bZ (by repeat(first|(with_reducible first|exact HB.out|apply ae|apply ag|apply ak|refine aJ ?_ kY.out|refine aJ ?_ mq.out)|exact HB.out)) hb);have jR:=aa.mk (fK);have zm:=aa.mk ((by rw[hg];exact(aT (by repeat(first|(with_reducible first|exact HB.out|apply ae|apply ag|apply ak|refine aJ ?_ kY.out|refine aJ ?_ mq.out)|exact HB.out))):w.heap.size<=eQ));have IY:=aa.mk ((by rw[hg];exact(aT (by repeat(first|(with_reducible first|exact HB.out|apply ae|apply ag|apply ak|refine aJ ?_ kY.out|refine aJ ?_ mq.out)|exact HB.out))):w.heap.size<=eQ));have IX:=aa.mk ((by rw[hg];exact Nat.ne_of_lt (ig (g:=dR) (o:= .cells #[.int .i64 bu,.int .i64 bF,.slice jK dA.length jg,.slice mf dC.length kz] 59 (0,0)) (by(with_reducible repeat(first|refine aG ?_ _|refine aI ?_|refine ay ?_ _));exact bC.out)):dR≠eQ));have X5:=aa.mk ((by rw[hg];exact Nat.ne_of_gt (ig (g:=dR) (o:= .cells #[.int .i64 bu,.int .i64 bF,.slice jK dA.length jg,.slice mf dC.length kz] 59 (0,0)) (by(with_reducible repeat(first|refine aG ?_ _|refine aI ?_|refine ay ?_ _));exact bC.out)):eQ≠dR));have X4:=aa.mk ((by rw[hg];exact Nat.ne_of_lt (ig (g:=gK) (o:= .cells #[.int .i64 0,.int .i64 0,.slice none 0 0,.slice none 0 0] 67 (0,0)) (by(with_reducible repeat(first|refine aG ?_ _|refine aI ?_|refine ay ?_ _));exact eH.out)):gK≠eQ));have X0:=aa.mk ((by rw[hg];exact Nat.ne_of_gt (ig (g:=gK) (o:= .cells #[.int .i64 0,.int .i64 0,.slice none 0 0,.slice none 0 0] 67 (0,0)) (by(with_reducible repeat(first|refine aG ?_ _|refine aI ?_|refine ay ?_ _));exact eH.out)):eQ≠gK));clear bC;clear eH;clear HB;have bC:=ic;have eH:=ib;have HB:=iU;have bJ:=jR;have ajL:=zm;have p8:=IY;have iv:=IX;have mW:=X5;have je:=X4;have sZ:=X0;clear ic ib iU jR zm IY IX X5 X4 X0;clear hb fK hg;have akN:=mW.out;have akL:=iv.out;have akM:=sZ.out;have akK:=je.out;have Ha:w6.cell? ⟨eQ,0,none⟩=some (.int .i64 0):=(av bJ.out 0).trans rfl;have G9:w6.cell? ⟨eQ,1,none⟩=some (.int .i64 0):=(av bJ.out 1).trans rfl;have Oc:w6.cell? ⟨eQ,2,none⟩=some (.slice none 0 0):=(av bJ.out 2).trans rfl;have Ob:w6.cell? ⟨eQ,3,none⟩=some (.slice none 0 0):=(av bJ.out 3).trans rfl;have G6:=aA bJ.out 0;have G5:=aA bJ.out 1;have NS:=aA bJ.out 2;have NR:=aA bJ.out 3))
 go_loopg [4] k (λkq v4 w'=>∃(eF:Int) (fE:List (iK)) (gH:Value),v4= .int .i64 eF/\aa (aD.l0 kq eF bu bF dA dC bu bF fE=some (r1,r2,r3,r4))/\aa (kq<=k)/\aa (Kd.R wY 188 w' w.heap.size (λ_=>True) gH fE)/\aa (w'.heap[dR]?=some (.cells #[.int .i64 bu,.int .i64 bF,(.slice jK dA.length jg),(.slice mf dC.length kz)] 59 (0,0)))/\aa (w'.heap[gK]?=some (.cells #[.int .i64 0,.int .i64 0,(.slice none 0 0),(.slice none 0 0)] 67 (0,0)))/\aa (w'.heap[eQ]?=some (.cells #[.int .i64 bu,.int .i64 bF,gH,(.slice none 0 0)] 67 (0,0)))/\aa (Below w.heap.size w w'))
 case atStart=>exact⟨(0),(([]:List (iK))),(.slice none 0 0),(by first|rfl|(simp;done)|(simp[*];done)),H',⟨Nat.le_refl _⟩,⟨by first|exact Kd.iH _ _ _ _ _|exact Kd.JC _ _ _ _ _|exact Kd.Js _ _ _ _ _|exact Kd.JA _ _ _ _ _|exact Kd.Jv _ _ _ _ _⟩,⟨by(with_reducible repeat(first|refine aG ?_ _|refine aI ?_|refine ay ?_ _));refine dO ?_ iv.out _;(with_reducible repeat(first|refine aG ?_ _|refine aI ?_|refine ay ?_ _));refine dO ?_ iv.out _;(with_reducible repeat(first|refine aG ?_ _|refine aI ?_|refine ay ?_ _));refine dO ?_ iv.out _;(with_reducible repeat(first|refine aG ?_ _|refine aI ?_|refine ay ?_ _));refine dO ?_ iv.out _;(with_reducible repeat(first|refine aG ?_ _|refine aI ?_|refine ay ?_ _));exact bC.out⟩,⟨by(with_reducible repeat(first|refine aG ?_ _|refine aI ?_|refine ay ?_ _));refine dO ?_ je.out _;(with_reducible repeat(first|refine aG ?_ _|refine aI ?_|refine ay ?_ _));refine dO ?_ je.out _;(with_reducible repeat(first|refine aG ?_ _|refine aI ?_|refine ay ?_ _));refine dO ?_ je.out _;(with_reducible repeat(first|refine aG ?_ _|refine aI ?_|refine ay ?_ _));refine dO ?_ je.out _;(with_reducible repeat(first|refine aG ?_ _|refine aI ?_|refine ay ?_ _));exact eH.out⟩,⟨by(with_reducible repeat(first|refine aG ?_ _|refine aI ?_|refine ay ?_ _));refine iF (cs:=#[.int .i64 bu,.int .i64 bF,.slice none 0 0,.slice none 0 0]) ?_ 3 _ rfl;(with_reducible repeat(first|refine aG ?_ _|refine aI ?_|refine ay ?_ _));refine iF (cs:=#[.int .i64 bu,.int .i64 bF,.slice none 0 0,.slice none 0 0]) ?_ 2 _ rfl;(with_reducible repeat(first|refine aG ?_ _|refine aI ?_|refine ay ?_ _));refine iF (cs:=#[.int .i64 bu,.int .i64 0,.slice none 0 0,.slice none 0 0]) ?_ 1 _ rfl;(with_reducible repeat(first|refine aG ?_ _|refine aI ?_|refine ay ?_ _));refine iF (cs:=#[.int .i64 0,.int .i64 0,.slice none 0 0,.slice none 0 0]) ?_ 0 _ rfl;(with_reducible repeat(first|refine aG ?_ _|refine aI ?_|refine ay ?_ _));exact bJ.out⟩,⟨by repeat(first|(with_reducible first|exact HB.out|apply ae|apply ag|apply ak|refine aJ ?_ kY.out|refine aJ ?_ mq.out|refine aJ ?_ p8.out)|exact HB.out)⟩⟩
 case round=>
  clear H'
  (try clear c2);(try clear p2);(try clear c4);(try clear c7);(try clear c8);(try clear C8);(try clear C7);(try clear He);(try clear Hd);(try clear Ha);(try clear G9);(try clear Oc)
  (try clear Ob);(try clear CZ);(try clear CY);(try clear G8);(try clear G7);(try clear G6);(try clear G5);(try clear NS);(try clear NR)
  obtain⟨eF,fE,gH,rfl,HA,pX,df,bC,eH,bJ,HB⟩:=hrel
  cases gk with
  |zero=>exact absurd HA.out (by simp[aD.l0])
  |succ k1=>
   have H:=HA.out
   clear HA
   simp only[aD.l0] at H
   by_cases c10:eF<(dA.length:Int)
   .rw[if_pos c10] at H
    have Tw:decide (eF<(dA.length:Int))=true:=decide_eq_true c10
    clear c10
    by_cases c11:0<=eF
    .rw[if_pos c11] at H
     have Ji:decide (0<=eF)=true:=decide_eq_true c11
     clear c11
     replace H:=Option.bind_eq_some_iff.mp H
     obtain⟨⟨t161,t162,t163,t164⟩,abt,H⟩:=H
     replace H:(if fE.length<4398046511104 then(aD.l0 k1 (wrap64 (eF+1)) bu bF dA dC bu bF (fE++[(⟨t161,t162,t163,t164⟩:iK)])) else(none))=some (r1,r2,r3,r4):=H
     have A12:=aa.mk abt
     clear abt
     by_cases c13:fE.length<4398046511104
     .rw[if_pos c13] at H
      have aai:=aa.mk c13
      clear c13
      obtain⟨Qj,EF⟩:∃y_:List (iK),y_=(fE++[(⟨t161,t162,t163,t164⟩:iK)]):=⟨_,rfl⟩
      replace H:(aD.l0 k1 (wrap64 (eF+1)) bu bF dA dC bu bF Qj)=some (r1,r2,r3,r4):=by first|(rw[EF];with_reducible exact H)|(have o8:=(Option.bind_some _ _).symm.trans H;rw[EF];with_reducible exact o8)|(have o8:=(Option.bind_some _ _).symm.trans H;with_reducible exact o8)|with_reducible exact H|(rw[EF];exact H)|exact H
      have Z9:=aa.mk EF
      clear EF
      have H':=aa.mk H
      clear H
      have ah9:=pW.out
      have ahW:=pV.out
      have ah8:=iv.out
      have ahV:=mW.out
      have Rk:wr.cell? ⟨dR,0,none⟩=some (.int .i64 bu):=(av bC.out 0).trans rfl
      have Rj:wr.cell? ⟨dR,1,none⟩=some (.int .i64 bF):=(av bC.out 1).trans rfl
      have Ri:wr.cell? ⟨dR,2,none⟩=some (.slice jK dA.length jg):=(av bC.out 2).trans rfl
      have Rh:wr.cell? ⟨dR,3,none⟩=some (.slice mf dC.length kz):=(av bC.out 3).trans rfl
      have Q6:=aA bC.out 0
      have Q5:=aA bC.out 1
      have Q4:=aA bC.out 2
      have Q3:=aA bC.out 3
      try go_wp2
      have ic:=aa.mk (Kd.bX df.out)
      have ib:=aa.mk (aI bC.out)
      have iU:=aa.mk (aI eH.out)
      have jR:=aa.mk (aI bJ.out)
      have zm:=aa.mk (ak HB.out)
      clear df
      clear bC
      clear eH
      clear bJ
      clear HB
      have df:=ic
      have bC:=ib
      have eH:=iU
      have bJ:=jR
      have HB:=zm
      clear ic ib iU jR zm
      have Qt:0<=(eF:Int):=of_decide_eq_true (by first|(with_reducible assumption)|assumption)
      have Qs:eF<(dA.length:Int):=of_decide_eq_true (by first|(with_reducible assumption)|assumption)
      obtain⟨ug,afz,sQ,sP,sO,sN⟩:=RD Pm.out eF Qt Qs
      have lQ:=sN
      have lS:=sO
      have lT:=sP
      have lU:=sQ
      cases afz
      replace sQ:=(HB.out.cell (World.block_lt_of_cell? w _ sQ)).trans sQ
      replace sP:=(HB.out.cell (World.block_lt_of_cell? w _ sP)).trans sP
      replace sO:=(HB.out.cell (World.block_lt_of_cell? w _ sO)).trans sO
      replace sN:=(HB.out.cell (World.block_lt_of_cell? w _ sN)).trans sN
      replace Qt:=eq_true Qt
      replace Qs:=eq_true Qs
      refine fF (n:=12) (S:=λw'=>w'.cell? ⟨eQ,0,none⟩=some (.int .i64 bu)/\w'.cell? ⟨eQ,1,none⟩=some (.int .i64 bF)/\w'.cell? ⟨eQ,2,none⟩=some (gH)/\w'.cell? ⟨eQ,3,none⟩=some (.slice none 0 0)/\w'.cell? ⟨dR,0,none⟩=some (.int .i64 bu)/\w'.cell? ⟨dR,1,none⟩=some (.int .i64 bF)/\w'.cell? ⟨dR,2,none⟩=some (.slice (some ug) dA.length jg)/\w'.cell? ⟨dR,3,none⟩=some (.slice mf dC.length kz)/\w'.cell? (ug.add ((eF).toNat*4))=some (.int .i64 ((fq dA eF).f0))/\w'.cell? ⟨(ug.add ((eF).toNat*4)).block,(ug.add ((eF).toNat*4)).off+1,none⟩=some (.int .i64 ((fq dA eF).f1))/\w'.cell? ⟨(ug.add ((eF).toNat*4)).block,(ug.add ((eF).toNat*4)).off+2,none⟩=some (.int .i64 ((fq dA eF).f2))/\w'.cell? ⟨(ug.add ((eF).toNat*4)).block,(ug.add ((eF).toNat*4)).off+3,none⟩=some (.int .i64 ((fq dA eF).f3))) (ds:=[11]) #[O,O,O,O,O,O,O,O,O,O,O,O] (by kernel_rfl) rfl rfl ⟨(av bJ.out 0).trans rfl,(av bJ.out 1).trans rfl,(av bJ.out 2).trans rfl,(av bJ.out 3).trans rfl,(av bC.out 0).trans rfl,(av bC.out 1).trans rfl,(av bC.out 2).trans rfl,(av bC.out 3).trans rfl,((HB.out.cell (World.block_lt_of_cell? w _ lU)).trans lU),((HB.out.cell (World.block_lt_of_cell? w _ lT)).trans lT),((HB.out.cell (World.block_lt_of_cell? w _ lS)).trans lS),((HB.out.cell (World.block_lt_of_cell? w _ lQ)).trans lQ)⟩ (λhHeld=>?_);refine bG aD.yV aD.rP (λau cz=>?_)
      generalize wr.drew=w17 at df bC eH bJ HB sQ sP sO sN hHeld ⊢
      refine bq 0 22 #[I,O,O,O,O,O,O,O,O,O,O,O] au (h:=?_)
      refine bq 2 24 #[I,O,I,O,O,O,O,O,O,O,O,O] au (h:=?_)
      refine bq 4 26 #[I,O,I,O,I,O,O,O,O,O,O,O] au (h:=?_)
      refine fJ 1 23 #[I,I,I,O,I,O,O,O,O,O,O,O] au cz hHeld (hy:=by(rintro w' ⟨s0,s1,s2,s3,s4,s5,s6,s7,s8,s9,s10,s11⟩;go_simp;with_reducible rfl)) (h:=?_)
      refine fJ 3 25 #[I,I,I,I,I,O,O,O,O,O,O,O] au cz hHeld (hy:=by(rintro w' ⟨s0,s1,s2,s3,s4,s5,s6,s7,s8,s9,s10,s11⟩;go_simp;with_reducible rfl)) (h:=?_)
      refine bq 5 27 #[I,I,I,I,I,I,O,O,O,O,O,O] au (h:=?_)
      refine fJ 6 28 #[I,I,I,I,I,I,I,O,O,O,O,O] au cz hHeld (hy:=by(rintro w' ⟨s0,s1,s2,s3,s4,s5,s6,s7,s8,s9,s10,s11⟩;go_simp;with_reducible rfl)) (h:=?_)
      refine gB (i:=7) (N:=some 29) #[I,I,I,I,I,I,I,I,O,O,O,O] rfl rfl (aM au.out (by kernel_rfl)) (by decide) (λK hK=>?_)
      refine bT Tryz.func76 (by kernel_rfl) rfl #[.agg #[.int .i64 ((fq dA eF).f0),.int .i64 ((fq dA eF).f1),.int .i64 ((fq dA eF).f2),.int .i64 ((fq dA eF).f3)]] (by rfl) rfl rfl (by(try simp only[List.map_toArray,List.map_cons,List.map_nil]);first|done|rfl|(simp only[List.length_drop,List.length_take];rfl)) ?_
      with_reducible refine(iA.calls ((fq dA eF).f0) ((fq dA eF).f1) ((fq dA eF).f2) ((fq dA eF).f3) t161 t162 t163 t164 _ A12.out).mono ?_
      rintro e w18 ⟨rfl,hb⟩
      refine⟨_,rfl,?_⟩
      have ic:=aa.mk (Kd.dm (by(with_reducible repeat(first|apply Kd.bH|apply Kd.bQ|apply Kd.bX));exact df.out) hb)
      have ib:=aa.mk (gT (g:=dR) (o:= .cells #[.int .i64 bu,.int .i64 bF,.slice (some ug) dA.length jg,.slice mf dC.length kz] 59 (0,0)) (by(with_reducible repeat(first|refine aG ?_ _|refine aI ?_|refine ay ?_ _));exact bC.out) hb)
      have iU:=aa.mk (gT (g:=gK) (o:= .cells #[.int .i64 0,.int .i64 0,.slice none 0 0,.slice none 0 0] 67 (0,0)) (by(with_reducible repeat(first|refine aG ?_ _|refine aI ?_|refine ay ?_ _));exact eH.out) hb)
      have jR:=aa.mk (gT (g:=eQ) (o:= .cells #[.int .i64 bu,.int .i64 bF,gH,.slice none 0 0] 67 (0,0)) (by(with_reducible repeat(first|refine aG ?_ _|refine aI ?_|refine ay ?_ _));exact bJ.out) hb)
      have zm:=aa.mk (bZ (by repeat(first|(with_reducible first|exact HB.out|apply ae|apply ag|apply ak|refine aJ ?_ kY.out|refine aJ ?_ mq.out|refine aJ ?_ p8.out)|exact HB.out)) hb)
      clear df
      clear bC
      clear eH
      clear bJ
      clear HB
      have df:=ic
      have bC:=ib
      have eH:=iU
      have bJ:=jR
      have HB:=zm
      clear ic ib iU jR zm
      (try clear hb)
      (try clear hb2)
      (try clear hk)
      (try clear hi)
      refine hK.out _ _ ⟨(av bJ.out 0).trans rfl,(av bJ.out 1).trans rfl,(av bJ.out 2).trans rfl,(av bJ.out 3).trans rfl,(av bC.out 0).trans rfl,(av bC.out 1).trans rfl,(av bC.out 2).trans rfl,(av bC.out 3).trans rfl,((HB.out.cell (World.block_lt_of_cell? w _ lU)).trans lU),((HB.out.cell (World.block_lt_of_cell? w _ lT)).trans lT),((HB.out.cell (World.block_lt_of_cell? w _ lS)).trans lS),((HB.out.cell (World.block_lt_of_cell? w _ lQ)).trans lQ)⟩ (λhHeld=>?_)
      clear hK K
      refine aW (a':=?_) ?_ ?_
      rotate_left
      .show Act.put _ (some 29) _=_
       simp only[Act.put,sb0,sb1,bR,cB,dX]
       rfl
      refine gB (i:=8) (N:=some 30) #[I,I,I,I,I,I,I,I,I,O,O,O] rfl rfl (aM au.out (by kernel_rfl)) (by decide) (λK hK=>?_)
      refine bD (w1:=?_) (v:=?_) (by rfl) rfl ?_ ?_
      rotate_left 2
      .go_simp
       constructor
       .rfl
       .rfl
      refine hK.out _ _ ⟨(av (ay bJ.out _) 0).trans rfl,(av (ay bJ.out _) 1).trans rfl,(av (ay bJ.out _) 2).trans rfl,(av (ay bJ.out _) 3).trans rfl,(av (ay bC.out _) 0).trans rfl,(av (ay bC.out _) 1).trans rfl,(av (ay bC.out _) 2).trans rfl,(av (ay bC.out _) 3).trans rfl,(World.cell?_alloc_lt _ _ _ (World.block_lt_of_cell? _ _ (((HB.out.cell (World.block_lt_of_cell? w _ lU)).trans lU)))).trans (((HB.out.cell (World.block_lt_of_cell? w _ lU)).trans lU)),(World.cell?_alloc_lt _ _ _ (World.block_lt_of_cell? _ _ (((HB.out.cell (World.block_lt_of_cell? w _ lT)).trans lT)))).trans (((HB.out.cell (World.block_lt_of_cell? w _ lT)).trans lT)),(World.cell?_alloc_lt _ _ _ (World.block_lt_of_cell? _ _ (((HB.out.cell (World.block_lt_of_cell? w _ lS)).trans lS)))).trans (((HB.out.cell (World.block_lt_of_cell? w _ lS)).trans lS)),(World.cell?_alloc_lt _ _ _ (World.block_lt_of_cell? _ _ (((HB.out.cell (World.block_lt_of_cell? w _ lQ)).trans lQ)))).trans (((HB.out.cell (World.block_lt_of_cell? w _ lQ)).trans lQ))⟩ (λhHeld=>?_)
      clear hK K
      refine aW (a':=?_) ?_ ?_
      rotate_left
      .show Act.put _ (some 30) _=_
       simp only[Act.put,sb0,sb1,bR,cB,dX]
       rfl
      refine gB (i:=9) (N:=some 31) #[I,I,I,I,I,I,I,I,I,I,O,O] rfl rfl (aM au.out (by kernel_rfl)) (by decide) (λK hK=>?_)
      refine Kd.ui wY (w0:=w) w.heap.size (by rfl) (.tmp 23) (.tmp 30) 64 188 (.agg #[(.int .i64 0),(.int .i64 0),(.int .i64 0),(.int .i64 0)]) 32 rfl Tryz.underlying64 QI rfl (by decide) (by omega) gH fE (⟨t161,t162,t163,t164⟩:iK) [.int .i64 t161,.int .i64 t162,.int .i64 t163,.int .i64 t164] (λ_=>True) (λ_=>False) rfl rfl ?aP (λ_ hk=>hk.elim) ?aF ?aO ?aB ?aS ?aL ?_
      (case aP=>exact NF _ _ _ (⟨t161,t162,t163,t164⟩:iK))
      (case aB=>exact(by repeat(first|(with_reducible first|exact HB.out|apply ae|apply ag|apply ak|refine aJ ?_ kY.out|refine aJ ?_ mq.out|refine aJ ?_ p8.out)|exact HB.out)))
      (case aF=>exact(λ_ _=>trivial))
      (case aO=>exact(by(with_reducible repeat(first|apply Kd.bH|apply Kd.bQ|apply Kd.bX));exact df.out))
      (case aS=>exact(aT (by repeat(first|(with_reducible first|exact HB.out|apply ae|apply ag|apply ak|refine aJ ?_ kY.out|refine aJ ?_ mq.out|refine aJ ?_ p8.out)|exact HB.out))))
      (case aL=>have:=aai.out;omega)
      intro akf w19 ho hb hg hat
      rw[<- Z9.out] at ho
      have ic:=aa.mk (lI (g:=dR) (o:= .cells #[.int .i64 bu,.int .i64 bF,.slice (some ug) dA.length jg,.slice mf dC.length kz] 59 (0,0)) (by(with_reducible repeat(first|refine aG ?_ _|refine aI ?_|refine ay ?_ _));exact bC.out) hg (Kd.FD df.out bC.out (by decide)))
      have ib:=aa.mk (lI (g:=gK) (o:= .cells #[.int .i64 0,.int .i64 0,.slice none 0 0,.slice none 0 0] 67 (0,0)) (by(with_reducible repeat(first|refine aG ?_ _|refine aI ?_|refine ay ?_ _));exact eH.out) hg (Kd.FD df.out eH.out (by decide)))
      have iU:=aa.mk (lI (g:=eQ) (o:= .cells #[.int .i64 bu,.int .i64 bF,gH,.slice none 0 0] 67 (0,0)) (by(with_reducible repeat(first|refine aG ?_ _|refine aI ?_|refine ay ?_ _));exact bJ.out) hg (Kd.FD df.out bJ.out (by decide)))
      have jR:=aa.mk (hb)
      have zm:=aa.mk (ho)
      clear bC
      clear eH
      clear bJ
      clear HB
      clear df
      have bC:=ic
      have eH:=ib
      have bJ:=iU
      have HB:=jR
      have TH:=zm
      clear ic ib iU jR zm
      clear ho hb hg hat
      obtain⟨abr,ZA,Zv⟩:=Kd.di TH.out
      (first|subst Zv|(injection Zv with Zp f2_ Zo;have f4_:=Zp.symm;have f5_:=Zo.symm;clear Zp f2_ Zo;subst f4_;subst f5_))
      refine hK.out _ _ ⟨(av bJ.out 0).trans rfl,(av bJ.out 1).trans rfl,(av bJ.out 2).trans rfl,(av bJ.out 3).trans rfl,(av bC.out 0).trans rfl,(av bC.out 1).trans rfl,(av bC.out 2).trans rfl,(av bC.out 3).trans rfl,((HB.out.cell (World.block_lt_of_cell? w _ lU)).trans lU),((HB.out.cell (World.block_lt_of_cell? w _ lT)).trans lT),((HB.out.cell (World.block_lt_of_cell? w _ lS)).trans lS),((HB.out.cell (World.block_lt_of_cell? w _ lQ)).trans lQ)⟩ (λhHeld=>?_)
      clear hK K
      refine aW (a':=?_) ?_ ?_
      rotate_left
      .show Act.put _ (some 31) _=_
       simp only[Act.put,sb0,sb1,bR,cB,dX]
       rfl
      refine bq 10 32 #[I,I,I,I,I,I,I,I,I,I,I,O] au (h:=?_)
      refine fB (i:=11) (N:=none) #[I,I,I,I,I,I,I,I,I,I,I,I] rfl rfl (aM au.out (by kernel_rfl)) (by decide) (λK hK=>?_)
      have akF:w19.cell? ⟨eQ,2,none⟩=some (gH):=(av bJ.out 2).trans rfl
      have ait:=aA bJ.out 2
      have abD:=iv.out
      have abC:=je.out
      have abF:=mW.out
      have abE:=sZ.out
      refine kg (w1:=?_) (by rfl) rfl ?_ ?_
      rotate_left
      .go_simp
       rfl
      refine hK.out _ _ ?_
      clear hK K
      refine fM (bP au.out (by kernel_rfl)) ?_
      try go_wp2
      go_roundg k1
      case measure=>have:=pX.out;omega
      case rel=>exact⟨(wrap64 (eF+1)),(Qj),(.slice abr Qj.length ZA),(by first|rfl|(simp;done)|(simp[*];done)),H',⟨by have:=pX.out;omega⟩,⟨by(with_reducible repeat(first|apply Kd.bH|apply Kd.bQ|apply Kd.bX));exact Kd.bM (Kd.gP (p:=⟨eQ,2,none⟩) (Kd.iG TH.out bJ.out (by decide)) (λ_ hk=>hk.2) (.slice abr Qj.length ZA)) (λ_ hk=>trivial)⟩,⟨by(with_reducible repeat(first|refine aG ?_ _|refine aI ?_|refine ay ?_ _));refine dO ?_ iv.out _;(with_reducible repeat(first|refine aG ?_ _|refine aI ?_|refine ay ?_ _));exact bC.out⟩,⟨by(with_reducible repeat(first|refine aG ?_ _|refine aI ?_|refine ay ?_ _));refine dO ?_ je.out _;(with_reducible repeat(first|refine aG ?_ _|refine aI ?_|refine ay ?_ _));exact eH.out⟩,⟨by(with_reducible repeat(first|refine aG ?_ _|refine aI ?_|refine ay ?_ _));refine iF (cs:=#[.int .i64 bu,.int .i64 bF,gH,.slice none 0 0]) ?_ 2 _ rfl;(with_reducible repeat(first|refine aG ?_ _|refine aI ?_|refine ay ?_ _));exact bJ.out⟩,⟨by repeat(first|(with_reducible first|exact HB.out|apply ae|apply ag|apply ak|refine aJ ?_ kY.out|refine aJ ?_ mq.out|refine aJ ?_ p8.out)|exact HB.out)⟩⟩
     .rw[if_neg c13] at H
      exact absurd H (by simp)
    .rw[if_neg c11] at H
     exact absurd H (by simp)
   .rw[if_neg c10] at H
    have Tw:decide (eF<(dA.length:Int))=false:=decide_eq_false c10
    clear c10
    have H':=aa.mk H
    clear H
    have ah7:=pW.out
    have ahU:=pV.out
    have ah6:=iv.out
    have ahT:=mW.out
    have Rf:wr.cell? ⟨dR,0,none⟩=some (.int .i64 bu):=(av bC.out 0).trans rfl
    have Rc:wr.cell? ⟨dR,1,none⟩=some (.int .i64 bF):=(av bC.out 1).trans rfl
    have Rb:wr.cell? ⟨dR,2,none⟩=some (.slice jK dA.length jg):=(av bC.out 2).trans rfl
    have Ra:wr.cell? ⟨dR,3,none⟩=some (.slice mf dC.length kz):=(av bC.out 3).trans rfl
    have Q0:=aA bC.out 0
    have QZ:=aA bC.out 1
    have QY:=aA bC.out 2
    have QX:=aA bC.out 3
    go_wp2
    go_loopg [5] k1 (λkq v5 w'=>∃(iT:Int) (jI:List (jh)) (jW:Value),v5= .int .i64 iT/\aa (aD.l1 kq iT bu bF dA dC bu bF fE jI=some (r1,r2,r3,r4))/\aa (kq<=k1)/\aa (Kd.R wY 188 w' w.heap.size (λ_=>True) gH fE)/\aa (Kd.R yf 191 w' w.heap.size (λ_=>True) jW jI)/\aa (w'.heap[dR]?=some (.cells #[.int .i64 bu,.int .i64 bF,(.slice jK dA.length jg),(.slice mf dC.length kz)] 59 (0,0)))/\aa (w'.heap[gK]?=some (.cells #[.int .i64 0,.int .i64 0,(.slice none 0 0),(.slice none 0 0)] 67 (0,0)))/\aa (w'.heap[eQ]?=some (.cells #[.int .i64 bu,.int .i64 bF,gH,jW] 67 (0,0)))/\aa (Below w.heap.size w w'))
    case atStart=>exact⟨(0),(([]:List (jh))),(.slice none 0 0),(by first|rfl|(simp;done)|(simp[*];done)),H',⟨Nat.le_refl _⟩,⟨by(with_reducible repeat(first|apply Kd.bH|apply Kd.bQ|apply Kd.bX));exact df.out⟩,⟨by first|exact Kd.iH _ _ _ _ _|exact Kd.JC _ _ _ _ _|exact Kd.Js _ _ _ _ _|exact Kd.JA _ _ _ _ _|exact Kd.Jv _ _ _ _ _⟩,⟨by(with_reducible repeat(first|refine aG ?_ _|refine aI ?_|refine ay ?_ _));exact bC.out⟩,⟨by(with_reducible repeat(first|refine aG ?_ _|refine aI ?_|refine ay ?_ _));exact eH.out⟩,⟨by(with_reducible repeat(first|refine aG ?_ _|refine aI ?_|refine ay ?_ _));exact bJ.out⟩,⟨by repeat(first|(with_reducible first|exact HB.out|apply ae|apply ag|apply ak|refine aJ ?_ kY.out|refine aJ ?_ mq.out|refine aJ ?_ p8.out)|exact HB.out)⟩⟩
    case round=>
     clear H'
     (try clear c1);(try clear p1);(try clear q1);(try clear hx1);(try clear c2);(try clear p2);(try clear c4);(try clear p6);(try clear c7);(try clear c8);(try clear c10);(try clear Tw)
     (try clear c11);(try clear Ji);(try clear c13);(try clear c14);(try clear c15);(try clear p16);(try clear q16);(try clear hx16);(try clear c21);(try clear c22);(try clear c23);(try clear Rk)
     (try clear Rj);(try clear Ri);(try clear Rh);(try clear Rf);(try clear Rc);(try clear Rb);(try clear Ra);(try clear C8);(try clear C7);(try clear He);(try clear Hd);(try clear Ha)
     (try clear G9);(try clear Oc);(try clear Ob);(try clear Q6);(try clear Q5);(try clear Q4);(try clear Q3);(try clear Q0);(try clear QZ);(try clear QY);(try clear QX);(try clear CZ)
     (try clear CY);(try clear G8);(try clear G7);(try clear G6);(try clear G5);(try clear NS);(try clear NR);(try clear sQ);(try clear sP);(try clear sO);(try clear sN);(try clear Qt)
     (try clear p2);(try clear Qs)
     obtain⟨iT,jI,jW,rfl,HA,IB,df,iw,bC,eH,bJ,HB⟩:=hrel
     cases gk with
     |zero=>exact absurd HA.out (by simp[aD.l1])
     |succ k2=>
      have H:=HA.out
      clear HA
      simp only[aD.l1] at H
      by_cases Ll:iT<(dC.length:Int)
      .rw[if_pos Ll] at H
       have OO:decide (iT<(dC.length:Int))=true:=decide_eq_true Ll
       clear Ll
       by_cases OM:0<=iT
       .rw[if_pos OM] at H
        have Tk:decide (0<=iT)=true:=decide_eq_true OM
        clear OM
        by_cases c27:jI.length<5864062014805
        .rw[if_pos c27] at H
         have aaf:=aa.mk c27
         clear c27
         obtain⟨Ms,EE⟩:∃y_:List (jh),y_=(jI++[(⟨(dD dC iT).f0,(dD dC iT).f1,(dD dC iT).f2⟩:jh)]):=⟨_,rfl⟩
         replace H:(aD.l1 k2 (wrap64 (iT+1)) bu bF dA dC bu bF fE Ms)=some (r1,r2,r3,r4):=by first|(rw[EE];with_reducible exact H)|(have o8:=(Option.bind_some _ _).symm.trans H;rw[EE];with_reducible exact o8)|(have o8:=(Option.bind_some _ _).symm.trans H;with_reducible exact o8)|with_reducible exact H|(rw[EE];exact H)|exact H
         have Z8:=aa.mk EE
         clear EE
         have H':=aa.mk H
         clear H
         have ah5:=pW.out
         have ahS:=pV.out
         have ah4:=iv.out
         have ahR:=mW.out
         have acJ:wr.cell? ⟨dR,0,none⟩=some (.int .i64 bu):=(av bC.out 0).trans rfl
         have acI:wr.cell? ⟨dR,1,none⟩=some (.int .i64 bF):=(av bC.out 1).trans rfl
         have acH:wr.cell? ⟨dR,2,none⟩=some (.slice jK dA.length jg):=(av bC.out 2).trans rfl
         have acG:wr.cell? ⟨dR,3,none⟩=some (.slice mf dC.length kz):=(av bC.out 3).trans rfl
         have ab9:=aA bC.out 0
         have ab8:=aA bC.out 1
         have ab7:=aA bC.out 2
         have ab6:=aA bC.out 3
         have UG:0<=(iT:Int):=of_decide_eq_true (by first|(with_reducible assumption)|assumption)
         have Uz:iT<(dC.length:Int):=of_decide_eq_true (by first|(with_reducible assumption)|assumption)
         obtain⟨Jr,e168,CX,CW,CV⟩:=OU TC.out iT UG Uz
         cases e168
         replace CX:=(HB.out.cell (World.block_lt_of_cell? w _ CX)).trans CX
         replace CW:=(HB.out.cell (World.block_lt_of_cell? w _ CW)).trans CW
         replace CV:=(HB.out.cell (World.block_lt_of_cell? w _ CV)).trans CV
         replace UG:=eq_true UG
         replace Uz:=eq_true Uz
         go_wp2_with (first|((with_reducible refine dM (N:=6) rfl ?_);refine ek ?hg (N:=6) ?hd (cs:=#[.int .i64 0,.int .i64 0,.int .i64 0]) (t:=62) ?hr ?_;(case hd=>rfl);(case hg=>rfl);(case hr=>first|(go_simp;done)|(go_simp;rfl));intro jS hg Un fK hb;have ic:=aa.mk (Kd.dm (by(with_reducible repeat(first|apply Kd.bH|apply Kd.bQ|apply Kd.bX));exact df.out) hb);have ib:=aa.mk (Kd.dm (by(with_reducible repeat(first|apply Kd.bH|apply Kd.bQ|apply Kd.bX));exact iw.out) hb);have iU:=aa.mk (gT (g:=dR) (o:= .cells #[.int .i64 bu,.int .i64 bF,.slice jK dA.length jg,.slice (some Jr) dC.length kz] 59 (0,0)) (by(with_reducible repeat(first|refine aG ?_ _|refine aI ?_|refine ay ?_ _));exact bC.out) hb);have jR:=aa.mk (gT (g:=gK) (o:= .cells #[.int .i64 0,.int .i64 0,.slice none 0 0,.slice none 0 0] 67 (0,0)) (by(with_reducible repeat(first|refine aG ?_ _|refine aI ?_|refine ay ?_ _));exact eH.out) hb);have zm:=aa.mk (gT (g:=eQ) (o:= .cells #[.int .i64 bu,.int .i64 bF,gH,jW] 67 (0,0)) (by(with_reducible repeat(first|refine aG ?_ _|refine aI ?_|refine ay ?_ _));exact bJ.out) hb);have IY:=aa.mk (bZ (by repeat(first|(with_reducible first|exact HB.out|apply ae|apply ag|apply ak|refine aJ ?_ kY.out|refine aJ ?_ mq.out|refine aJ ?_ p8.out)|exact HB.out)) hb);have IX:=aa.mk (fK);have X5:=aa.mk ((by rw[hg];exact(aT (by repeat(first|(with_reducible first|exact HB.out|apply ae|apply ag|apply ak|refine aJ ?_ kY.out|refine aJ ?_ mq.out|refine aJ ?_ p8.out)|exact HB.out))):w.heap.size<=jS));have X4:=aa.mk ((by rw[hg];exact(aT (by repeat(first|(with_reducible first|exact HB.out|apply ae|apply ag|apply ak|refine aJ ?_ kY.out|refine aJ ?_ mq.out|refine aJ ?_ p8.out)|exact HB.out))):w.heap.size<=jS));have X0:=aa.mk ((by rw[hg];exact Nat.ne_of_lt (ig (g:=dR) (o:= .cells #[.int .i64 bu,.int .i64 bF,.slice jK dA.length jg,.slice (some Jr) dC.length kz] 59 (0,0)) (by(with_reducible repeat(first|refine aG ?_ _|refine aI ?_|refine ay ?_ _));exact bC.out)):dR≠jS));have Yb:=aa.mk ((by rw[hg];exact Nat.ne_of_gt (ig (g:=dR) (o:= .cells #[.int .i64 bu,.int .i64 bF,.slice jK dA.length jg,.slice (some Jr) dC.length kz] 59 (0,0)) (by(with_reducible repeat(first|refine aG ?_ _|refine aI ?_|refine ay ?_ _));exact bC.out)):jS≠dR));have X9:=aa.mk ((by rw[hg];exact Nat.ne_of_lt (ig (g:=gK) (o:= .cells #[.int .i64 0,.int .i64 0,.slice none 0 0,.slice none 0 0] 67 (0,0)) (by(with_reducible repeat(first|refine aG ?_ _|refine aI ?_|refine ay ?_ _));exact eH.out)):gK≠jS));have X8:=aa.mk ((by rw[hg];exact Nat.ne_of_gt (ig (g:=gK) (o:= .cells #[.int .i64 0,.int .i64 0,.slice none 0 0,.slice none 0 0] 67 (0,0)) (by(with_reducible repeat(first|refine aG ?_ _|refine aI ?_|refine ay ?_ _));exact eH.out)):jS≠gK));have X7:=aa.mk ((by rw[hg];exact Nat.ne_of_lt (ig (g:=eQ) (o:= .cells #[.int .i64 bu,.int .i64 bF,gH,jW] 67 (0,0)) (by(with_reducible repeat(first|refine aG ?_ _|refine aI ?_|refine ay ?_ _));exact bJ.out)):eQ≠jS));have X6:=aa.mk ((by rw[hg];exact Nat.ne_of_gt (ig (g:=eQ) (o:= .cells #[.int .i64 bu,.int .i64 bF,gH,jW] 67 (0,0)) (by(with_reducible repeat(first|refine aG ?_ _|refine aI ?_|refine ay ?_ _));exact bJ.out)):jS≠eQ));clear df;clear iw;clear bC;clear eH;clear bJ;clear HB;have df:=ic;have iw:=ib;have bC:=iU;have eH:=jR;have bJ:=zm;have HB:=IY;have qa:=IX;have ajK:=X5;have PH:=X4;have tu:=X0;have LH:=Yb;have tq:=X9;have LG:=X8;have sW:=X7;have LF:=X6;clear ic ib iU jR zm IY IX X5 X4 X0 Yb X9 X8 X7 X6;clear hb fK hg;have ah3:=LH.out;have ahQ:=tu.out;have ah2:=LG.out;have ahP:=tq.out;have ah1:=LF.out;have ahO:=sW.out;have acF:Un.cell? ⟨jS,0,none⟩=some (.int .i64 0):=(av qa.out 0).trans rfl;have acE:Un.cell? ⟨jS,1,none⟩=some (.int .i64 0):=(av qa.out 1).trans rfl;have acD:Un.cell? ⟨jS,2,none⟩=some (.int .i64 0):=(av qa.out 2).trans rfl;have ab5:=aA qa.out 0;have ab4:=aA qa.out 1;have ab3:=aA qa.out 2;have ah0:=sZ.out;have ahN:=je.out;have acC:Un.cell? ⟨eQ,0,none⟩=some (.int .i64 bu):=(av bJ.out 0).trans rfl;have acB:Un.cell? ⟨eQ,1,none⟩=some (.int .i64 bF):=(av bJ.out 1).trans rfl;have acA:Un.cell? ⟨eQ,2,none⟩=some (gH):=(av bJ.out 2).trans rfl;have acz:Un.cell? ⟨eQ,3,none⟩=some (jW):=(av bJ.out 3).trans rfl;have ab2:=aA bJ.out 0;have ab1:=aA bJ.out 1;have ab0:=aA bJ.out 2;have abZ:=aA bJ.out 3)|((with_reducible refine dN (b:= .append) (xs:=#[.tmp 46,.tmp 54]) rfl ?_);at_builtin;refine Kd.jF yf (w0:=w) w.heap.size rfl (.tmp 46) (.tmp 54) 65 191 (.agg #[(.int .i64 0),(.int .i64 0),(.int .i64 0)]) 24 rfl Tryz.underlying65 QH rfl (by decide) (by omega) jW jI (⟨(dD dC iT).f0,(dD dC iT).f1,(dD dC iT).f2⟩:jh) [.int .i64 ((dD dC iT).f0),.int .i64 ((dD dC iT).f1),.int .i64 ((dD dC iT).f2)] (λ_=>True) (λ_=>False) rfl (by first|(go_simp;done)|(go_simp;rfl)) ?aP (λ_ hk=>hk.elim) ?aF ?aO ?aB ?aS ?aL ?_;(case aP=>exact ND _ _ _ (⟨(dD dC iT).f0,(dD dC iT).f1,(dD dC iT).f2⟩:jh));(case aB=>exact(by repeat(first|(with_reducible first|exact HB.out|apply ae|apply ag|apply ak|refine aJ ?_ kY.out|refine aJ ?_ mq.out|refine aJ ?_ p8.out|refine aJ ?_ PH.out)|exact HB.out)));(case aF=>exact(λ_ _=>trivial));(case aO=>exact(by(with_reducible repeat(first|apply Kd.bH|apply Kd.bQ|apply Kd.bX));exact Kd.bM (Kd.gP (p:=⟨jS,2,none⟩) (Kd.gP (p:=⟨jS,1,none⟩) (Kd.gP (p:=⟨jS,0,none⟩) (Kd.iG iw.out qa.out (by decide)) (λ_ hk=>hk.2) (.int .i64 ((dD dC iT).f0))) (λ_ hk=>hk.2) (.int .i64 ((dD dC iT).f1))) (λ_ hk=>hk.2) (.int .i64 ((dD dC iT).f2))) (λ_ hk=>trivial)));(case aS=>exact(aT (by repeat(first|(with_reducible first|exact HB.out|apply ae|apply ag|apply ak|refine aJ ?_ kY.out|refine aJ ?_ mq.out|refine aJ ?_ p8.out|refine aJ ?_ PH.out)|exact HB.out))));(case aL=>have:=aaf.out;omega);intro v171 w38 ho hb hg hat;rw[<- Z8.out] at ho;have ic:=aa.mk (Kd.RO (by(with_reducible repeat(first|apply Kd.bH|apply Kd.bQ|apply Kd.bX));exact(Kd.bM (Kd.gP (p:=⟨jS,2,none⟩) (Kd.gP (p:=⟨jS,1,none⟩) (Kd.gP (p:=⟨jS,0,none⟩) (Kd.iG df.out qa.out (by decide)) (λ_ hk=>hk.2) (.int .i64 ((dD dC iT).f0))) (λ_ hk=>hk.2) (.int .i64 ((dD dC iT).f1))) (λ_ hk=>hk.2) (.int .i64 ((dD dC iT).f2))) (λ_ h_=>h_.1))) (Kd.jY (by(with_reducible repeat(first|apply Kd.bH|apply Kd.bQ|apply Kd.bX));exact(Kd.bM (Kd.gP (p:=⟨jS,2,none⟩) (Kd.gP (p:=⟨jS,1,none⟩) (Kd.gP (p:=⟨jS,0,none⟩) (Kd.iG iw.out qa.out (by decide)) (λ_ hk=>hk.2) (.int .i64 ((dD dC iT).f0))) (λ_ hk=>hk.2) (.int .i64 ((dD dC iT).f1))) (λ_ hk=>hk.2) (.int .i64 ((dD dC iT).f2))) (λ_ h_=>h_.1)))) (by decide) hg);have ib:=aa.mk (lI (g:=dR) (o:= .cells #[.int .i64 bu,.int .i64 bF,.slice jK dA.length jg,.slice (some Jr) dC.length kz] 59 (0,0)) (by(with_reducible repeat(first|refine aG ?_ _|refine aI ?_|refine ay ?_ _));refine dO ?_ tu.out _;(with_reducible repeat(first|refine aG ?_ _|refine aI ?_|refine ay ?_ _));refine dO ?_ tu.out _;(with_reducible repeat(first|refine aG ?_ _|refine aI ?_|refine ay ?_ _));refine dO ?_ tu.out _;(with_reducible repeat(first|refine aG ?_ _|refine aI ?_|refine ay ?_ _));exact bC.out) hg (Kd.FD iw.out bC.out (by decide)));have iU:=aa.mk (lI (g:=gK) (o:= .cells #[.int .i64 0,.int .i64 0,.slice none 0 0,.slice none 0 0] 67 (0,0)) (by(with_reducible repeat(first|refine aG ?_ _|refine aI ?_|refine ay ?_ _));refine dO ?_ tq.out _;(with_reducible repeat(first|refine aG ?_ _|refine aI ?_|refine ay ?_ _));refine dO ?_ tq.out _;(with_reducible repeat(first|refine aG ?_ _|refine aI ?_|refine ay ?_ _));refine dO ?_ tq.out _;(with_reducible repeat(first|refine aG ?_ _|refine aI ?_|refine ay ?_ _));exact eH.out) hg (Kd.FD iw.out eH.out (by decide)));have jR:=aa.mk (lI (g:=eQ) (o:= .cells #[.int .i64 bu,.int .i64 bF,gH,jW] 67 (0,0)) (by(with_reducible repeat(first|refine aG ?_ _|refine aI ?_|refine ay ?_ _));refine dO ?_ sW.out _;(with_reducible repeat(first|refine aG ?_ _|refine aI ?_|refine ay ?_ _));refine dO ?_ sW.out _;(with_reducible repeat(first|refine aG ?_ _|refine aI ?_|refine ay ?_ _));refine dO ?_ sW.out _;(with_reducible repeat(first|refine aG ?_ _|refine aI ?_|refine ay ?_ _));exact bJ.out) hg (Kd.FD iw.out bJ.out (by decide)));have zm:=aa.mk (lI (g:=jS) (o:= .cells #[.int .i64 ((dD dC iT).f0),.int .i64 ((dD dC iT).f1),.int .i64 ((dD dC iT).f2)] 62 (0,0)) (by(with_reducible repeat(first|refine aG ?_ _|refine aI ?_|refine ay ?_ _));refine iF (cs:=#[.int .i64 ((dD dC iT).f0),.int .i64 ((dD dC iT).f1),.int .i64 0]) ?_ 2 _ rfl;(with_reducible repeat(first|refine aG ?_ _|refine aI ?_|refine ay ?_ _));refine iF (cs:=#[.int .i64 ((dD dC iT).f0),.int .i64 0,.int .i64 0]) ?_ 1 _ rfl;(with_reducible repeat(first|refine aG ?_ _|refine aI ?_|refine ay ?_ _));refine iF (cs:=#[.int .i64 0,.int .i64 0,.int .i64 0]) ?_ 0 _ rfl;(with_reducible repeat(first|refine aG ?_ _|refine aI ?_|refine ay ?_ _));exact qa.out) hg (Kd.FD iw.out qa.out (by decide)));have IY:=aa.mk (hb);have IX:=aa.mk (ho);clear df;clear bC;clear eH;clear bJ;clear qa;clear HB;clear iw;have df:=ic;have bC:=ib;have eH:=iU;have bJ:=jR;have qa:=zm;have HB:=IY;have TG:=IX;clear ic ib iU jR zm IY IX;clear ho hb hg hat;obtain⟨Xa,V3,afs⟩:=Kd.di TG.out;subst afs;have acy:w38.cell? ⟨eQ,0,none⟩=some (.int .i64 bu):=(av bJ.out 0).trans rfl;have acx:w38.cell? ⟨eQ,1,none⟩=some (.int .i64 bF):=(av bJ.out 1).trans rfl;have acw:w38.cell? ⟨eQ,2,none⟩=some (gH):=(av bJ.out 2).trans rfl;have acv:w38.cell? ⟨eQ,3,none⟩=some (jW):=(av bJ.out 3).trans rfl;have abY:=aA bJ.out 0;have abX:=aA bJ.out 1;have abW:=aA bJ.out 2;have abV:=aA bJ.out 3))
         go_roundg k2
         case measure=>have:=pX.out;have:=IB.out;omega
         case rel=>exact⟨(wrap64 (iT+1)),(Ms),(.slice Xa Ms.length V3),(by first|rfl|(simp;done)|(simp[*];done)),H',⟨by have:=pX.out;have:=IB.out;omega⟩,⟨by(with_reducible repeat(first|apply Kd.bH|apply Kd.bQ|apply Kd.bX));exact Kd.bM (Kd.gP (p:=⟨eQ,3,none⟩) (Kd.iG df.out bJ.out (by decide)) (λ_ hk=>hk.2) (.slice Xa Ms.length V3)) (λ_ hk=>trivial)⟩,⟨by(with_reducible repeat(first|apply Kd.bH|apply Kd.bQ|apply Kd.bX));exact Kd.bM (Kd.gP (p:=⟨eQ,3,none⟩) (Kd.iG TG.out bJ.out (by decide)) (λ_ hk=>hk.2) (.slice Xa Ms.length V3)) (λ_ hk=>trivial)⟩,⟨by(with_reducible repeat(first|refine aG ?_ _|refine aI ?_|refine ay ?_ _));refine dO ?_ iv.out _;(with_reducible repeat(first|refine aG ?_ _|refine aI ?_|refine ay ?_ _));exact bC.out⟩,⟨by(with_reducible repeat(first|refine aG ?_ _|refine aI ?_|refine ay ?_ _));refine dO ?_ je.out _;(with_reducible repeat(first|refine aG ?_ _|refine aI ?_|refine ay ?_ _));exact eH.out⟩,⟨by(with_reducible repeat(first|refine aG ?_ _|refine aI ?_|refine ay ?_ _));refine iF (cs:=#[.int .i64 bu,.int .i64 bF,gH,jW]) ?_ 3 _ rfl;(with_reducible repeat(first|refine aG ?_ _|refine aI ?_|refine ay ?_ _));exact bJ.out⟩,⟨by repeat(first|(with_reducible first|exact HB.out|apply ae|apply ag|apply ak|refine aJ ?_ kY.out|refine aJ ?_ mq.out|refine aJ ?_ p8.out|refine aJ ?_ PH.out)|exact HB.out)⟩⟩
        .rw[if_neg c27] at H
         exact absurd H (by simp)
       .rw[if_neg OM] at H
        exact absurd H (by simp)
      .rw[if_neg Ll] at H
       have OO:decide (iT<(dC.length:Int))=false:=decide_eq_false Ll
       clear Ll
       simp only[Option.some.injEq,Prod.mk.injEq] at H
       obtain⟨rfl,rfl,rfl,rfl⟩:=H
       have ahZ:=pW.out
       have ahM:=pV.out
       have ahY:=iv.out
       have ahL:=mW.out
       have acu:wr.cell? ⟨dR,0,none⟩=some (.int .i64 bu):=(av bC.out 0).trans rfl
       have acs:wr.cell? ⟨dR,1,none⟩=some (.int .i64 bF):=(av bC.out 1).trans rfl
       have acr:wr.cell? ⟨dR,2,none⟩=some (.slice jK dA.length jg):=(av bC.out 2).trans rfl
       have acp:wr.cell? ⟨dR,3,none⟩=some (.slice mf dC.length kz):=(av bC.out 3).trans rfl
       have abU:=aA bC.out 0
       have abT:=aA bC.out 1
       have abS:=aA bC.out 2
       have abR:=aA bC.out 3
       have ahX:=sZ.out
       have ahK:=je.out
       have aco:wr.cell? ⟨eQ,0,none⟩=some (.int .i64 bu):=(av bJ.out 0).trans rfl
       have acn:wr.cell? ⟨eQ,1,none⟩=some (.int .i64 bF):=(av bJ.out 1).trans rfl
       have acm:wr.cell? ⟨eQ,2,none⟩=some (gH):=(av bJ.out 2).trans rfl
       have ack:wr.cell? ⟨eQ,3,none⟩=some (jW):=(av bJ.out 3).trans rfl
       have abQ:=aA bJ.out 0
       have abP:=aA bJ.out 1
       have abO:=aA bJ.out 2
       have abN:=aA bJ.out 3
       have acj:wr.cell? ⟨gK,0,none⟩=some (.int .i64 0):=(av eH.out 0).trans rfl
       have aci:wr.cell? ⟨gK,1,none⟩=some (.int .i64 0):=(av eH.out 1).trans rfl
       have ach:wr.cell? ⟨gK,2,none⟩=some (.slice none 0 0):=(av eH.out 2).trans rfl
       have acg:wr.cell? ⟨gK,3,none⟩=some (.slice none 0 0):=(av eH.out 3).trans rfl
       have abM:=aA eH.out 0
       have abL:=aA eH.out 1
       have abK:=aA eH.out 2
       have abJ:=aA eH.out 3
       obtain⟨Sm,Rp,afr⟩:=Kd.di df.out
       subst afr
       obtain⟨W9,VZ,afq⟩:=Kd.di iw.out
       subst afq
       go_wp2
       refine bodyPost_ret (results_cell_row rfl _ _ gK 67 #[.int .i64 bu,.int .i64 bF,.slice Sm fE.length Rp,.slice W9 jI.length VZ] (0,0) _ rfl (by(with_reducible repeat(first|refine aG ?_ _|refine aI ?_|refine ay ?_ _));refine iF (cs:=#[.int .i64 bu,.int .i64 bF,.slice Sm fE.length Rp,.slice none 0 0]) ?_ 3 _ rfl;(with_reducible repeat(first|refine aG ?_ _|refine aI ?_|refine ay ?_ _));refine iF (cs:=#[.int .i64 bu,.int .i64 bF,.slice none 0 0,.slice none 0 0]) ?_ 2 _ rfl;(with_reducible repeat(first|refine aG ?_ _|refine aI ?_|refine ay ?_ _));refine iF (cs:=#[.int .i64 bu,.int .i64 0,.slice none 0 0,.slice none 0 0]) ?_ 1 _ rfl;(with_reducible repeat(first|refine aG ?_ _|refine aI ?_|refine ay ?_ _));refine iF (cs:=#[.int .i64 0,.int .i64 0,.slice none 0 0,.slice none 0 0]) ?_ 0 _ rfl;(with_reducible repeat(first|refine aG ?_ _|refine aI ?_|refine ay ?_ _));exact eH.out) Tryz.underlying67 rfl (by kernel_rfl)) rfl ?_
       exact⟨_,_,by first|rfl|(simp[bn,bg]<;>rfl)|(simp[*,bn,bg]<;>rfl),by(with_reducible repeat(first|apply Kd.bH|apply Kd.bQ|apply Kd.bX));exact Kd.bM (Kd.gP (p:=⟨gK,3,none⟩) (Kd.gP (p:=⟨gK,2,none⟩) (Kd.gP (p:=⟨gK,1,none⟩) (Kd.gP (p:=⟨gK,0,none⟩) (Kd.iG df.out eH.out (by decide)) (λ_ hk=>hk.2) (.int .i64 bu)) (λ_ hk=>hk.2) (.int .i64 bF)) (λ_ hk=>hk.2) (.slice Sm fE.length Rp)) (λ_ hk=>hk.2) (.slice W9 jI.length VZ)) (λ_ hk=>trivial),by(with_reducible repeat(first|apply Kd.bH|apply Kd.bQ|apply Kd.bX));exact Kd.bM (Kd.gP (p:=⟨gK,3,none⟩) (Kd.gP (p:=⟨gK,2,none⟩) (Kd.gP (p:=⟨gK,1,none⟩) (Kd.gP (p:=⟨gK,0,none⟩) (Kd.iG iw.out eH.out (by decide)) (λ_ hk=>hk.2) (.int .i64 bu)) (λ_ hk=>hk.2) (.int .i64 bF)) (λ_ hk=>hk.2) (.slice Sm fE.length Rp)) (λ_ hk=>hk.2) (.slice W9 jI.length VZ)) (λ_ hk=>trivial),by repeat(first|(with_reducible first|exact HB.out|apply ae|apply ag|apply ak|refine aJ ?_ kY.out|refine aJ ?_ mq.out|refine aJ ?_ p8.out)|exact HB.out)⟩
def jD.f(a0:Int)(a1:Int)(a2:Int):Option (Bool):=if a1<=a0 then(some (decide (a0<=a2))) else(some false)
set_option maxHeartbeats 8000000 in
theorem jD.calls(a0:Int)(a1:Int)(a2:Int)(r:Bool)(w:World)(h:jD.f a0 a1 a2=some r):
  Calls Tryz.prog 92 #[.int .i64 a0,.int .i64 a1,.int .i64 a2] w λe w'=>e= .returned (.bool r)/\aU w w':=by
 have H:(if a1<=a0 then(some (decide (a0<=a2))) else(some false))=some r:=h
 clear h
 by_cases c4:a1<=a0
 .rw[if_pos c4] at H
  have rO:decide (a1<=a0)=true:=decide_eq_true c4
  clear c4
  obtain rfl:=Option.some.inj H
  go_enter Tryz.func92,Tryz.ntmps92
  go_wp2
  go_ret
  exact⟨by first|rfl|(simp;done)|(simp[*];done),by repeat(first|exact aU.refl _|apply aU.step)⟩
 .rw[if_neg c4] at H
  have rO:decide (a1<=a0)=false:=decide_eq_false c4
  clear c4
  obtain rfl:=Option.some.inj H
  go_enter Tryz.func92,Tryz.ntmps92
  go_wp2
  go_ret
  exact⟨by first|rfl|(simp;done)|(simp[*];done),by repeat(first|exact aU.refl _|apply aU.step)⟩
def sU.f(a0:Int):Option (Bool):=(jD.f a0 (-50000) 50000).bind λt173=>(some t173)
set_option maxHeartbeats 8000000 in
theorem sU.calls(a0:Int)(r:Bool)(w:World)(h:sU.f a0=some r):
  Calls Tryz.prog 78 #[.int .i64 a0] w λe w'=>e= .returned (.bool r)/\aU w w':=by
 have H:((jD.f a0 (-50000) 50000).bind λt173=>(some t173))=some r:=h
 clear h
 replace H:=Option.bind_eq_some_iff.mp H
 obtain⟨t173,JO,H⟩:=H
 replace H:(some t173)=some r:=H
 have A2:=aa.mk JO
 clear JO
 obtain rfl:=Option.some.inj H
 go_enter Tryz.func78,Tryz.ntmps78
 go_wp2_with (first|((with_reducible refine iE (f:=92) rfl ?_);refine qz (some 4) rfl rfl Tryz.func92 (by kernel_rfl) rfl #[.int .i64 a0,.int .i64 (-50000),.int .i64 50000] rfl (by(try simp only[List.map_toArray,List.map_cons,List.map_nil]);first|done|rfl|(simp only[List.length_drop,List.length_take];rfl)) ?_;(with_reducible refine(jD.calls a0 (-50000) 50000 t173 _ A2.out).mono ?_);rintro e w' ⟨rfl,⟨nd,rfl⟩⟩;refine⟨_,rfl,?_⟩))
 go_ret
 exact⟨by first|rfl|(simp;done)|(simp[*];done),by repeat(first|exact aU.refl _|apply aU.step)⟩
def ja.f(l0:List (mh))(a1:Int)(a2:Int):Option ((List (mh))):=if(l0.length:Int)>0 then(if 0<=(wrap64 ((l0.length:Int)-1)) then(if(wrap64 ((l0.length:Int)-1))<(l0.length:Int) then(if a1<=(wrap64 (((bS l0 (wrap64 ((l0.length:Int)-1))).f1)+1)) then(some (l0.set ((wrap64 ((l0.length:Int)-1)):Int).toNat (⟨(bS l0 (wrap64 ((l0.length:Int)-1))).f0,mx ((bS l0 (wrap64 ((l0.length:Int)-1))).f1) a2⟩:mh))) else(if l0.length<8796093022208 then(some (l0++[(⟨a1,a2⟩:mh)])) else(none))) else(none)) else(none)) else(if l0.length<8796093022208 then(some (l0++[(⟨a1,a2⟩:mh)])) else(none))
set_option maxHeartbeats 8000000 in
theorem ja.calls(Io:Nat->Prop)(F6:Value)(l0:List (mh))(a1:Int)(a2:Int)(r:List (mh))(w0 w:World)(hB:Below w0.heap.size w0 w)(ho0:Kd.R nQ 63 w w0.heap.size Io F6 l0)(h:ja.f l0 a1 a2=some r):
  Calls Tryz.prog 80 #[F6,.int .i64 a1,.int .i64 a2] w λe w'=>∃Ql:Value,e= .returned (Ql)/\Kd.R nQ 63 w' w0.heap.size (λk_=>(Io k_\/w.heap.size<=k_)) Ql r/\Below w0.heap.size w0 w'/\Kept w w' (λk_=>Io k_):=by
 have Yi:=Tryz.underlying63
 have Ap:=aa.mk (show Kd.R nQ 63 w w0.heap.size (λk_=>(Io k_\/w.heap.size<=k_)) F6 l0 from Kd.bM ho0 (λk_ hk=>(.inl hk)))
 have HK:=aa.mk (Kept.refl w (λk_=>Io k_))
 have HW0:=aa.mk hB.size
 have HB:=aa.mk hB
 clear hB
 have H:(if(l0.length:Int)>0 then(if 0<=(wrap64 ((l0.length:Int)-1)) then(if(wrap64 ((l0.length:Int)-1))<(l0.length:Int) then(if a1<=(wrap64 (((bS l0 (wrap64 ((l0.length:Int)-1))).f1)+1)) then(some (l0.set ((wrap64 ((l0.length:Int)-1)):Int).toNat (⟨(bS l0 (wrap64 ((l0.length:Int)-1))).f0,mx ((bS l0 (wrap64 ((l0.length:Int)-1))).f1) a2⟩:mh))) else(if l0.length<8796093022208 then(some (l0++[(⟨a1,a2⟩:mh)])) else(none))) else(none)) else(none)) else(if l0.length<8796093022208 then(some (l0++[(⟨a1,a2⟩:mh)])) else(none)))=some r:=h
 clear h
 by_cases c4:(l0.length:Int)>0
 .rw[if_pos c4] at H
  have rO:decide (0<(l0.length:Int))=true:=decide_eq_true c4
  have afI:decide (0<l0.length)=true:=decide_eq_true (by omega)
  clear c4
  obtain⟨nR,NN⟩:∃j_:Int,(wrap64 ((l0.length:Int)-1))=j_:=⟨_,rfl⟩
  replace H:(if 0<=(nR) then(if(nR)<(l0.length:Int) then(if a1<=(wrap64 (((bS l0 (nR)).f1)+1)) then(some (l0.set ((nR):Int).toNat (⟨(bS l0 (nR)).f0,mx ((bS l0 (nR)).f1) a2⟩:mh))) else(if l0.length<8796093022208 then(some (l0++[(⟨a1,a2⟩:mh)])) else(none))) else(none)) else(none))=some r:=by first|(rw[NN] at H;exact H)|(simp only[NN] at H ⊢;exact H)
  have aik:(IntKind.i64.wrap ((l0.length:Int)-1))=nR:=(cB _).trans NN
  by_cases c6:0<=(nR)
  .rw[if_pos c6] at H
   have Rv:decide (0<=(nR))=true:=decide_eq_true c6
   clear c6
   by_cases c7:(nR)<(l0.length:Int)
   .rw[if_pos c7] at H
    have yt:decide ((nR)<(l0.length:Int))=true:=decide_eq_true c7
    clear c7
    by_cases c8:a1<=(wrap64 (((bS l0 (nR)).f1)+1))
    .rw[if_pos c8] at H
     have OJ:decide (a1<=(wrap64 (((bS l0 (nR)).f1)+1)))=true:=decide_eq_true c8
     clear c8
     obtain⟨U2,QT⟩:∃j_:Int,(mx ((bS l0 (nR)).f1) a2)=j_:=⟨_,rfl⟩
     replace H:(some (l0.set ((nR):Int).toNat (⟨(bS l0 (nR)).f0,U2⟩:mh)))=some r:=by first|(rw[QT] at H;exact H)|(simp only[QT] at H ⊢;exact H)
     have aij:(if((bS l0 (nR)).f1)<a2 then a2 else((bS l0 (nR)).f1))=U2:=QT
     obtain⟨XF,ED⟩:∃y_:List (mh),y_=(l0.set ((nR):Int).toNat (⟨(bS l0 (nR)).f0,U2⟩:mh)):=⟨_,rfl⟩
     replace H:(some XF)=some r:=by first|(rw[ED];with_reducible exact H)|(have o8:=(Option.bind_some _ _).symm.trans H;rw[ED];with_reducible exact o8)|(have o8:=(Option.bind_some _ _).symm.trans H;with_reducible exact o8)|with_reducible exact H|(rw[ED];exact H)|exact H
     have Z7:=aa.mk ED
     clear ED
     obtain rfl:=Option.some.inj H
     obtain⟨ana,ZB,afw⟩:=Kd.di Ap.out
     subst afw
     have GA:0<=((nR):Int):=of_decide_eq_true (by first|(with_reducible assumption)|assumption)
     have Gs:(nR)<(l0.length:Int):=of_decide_eq_true (by first|(with_reducible assumption)|assumption)
     obtain⟨O4,VY,I5,I4⟩:=kW (Kd.eZ Ap.out).2.2 (nR) GA Gs
     cases VY
     replace GA:=eq_true GA
     replace Gs:=eq_true Gs
     have UF:0<=((nR):Int):=of_decide_eq_true (by first|(with_reducible assumption)|assumption)
     have Uy:(nR)<(l0.length:Int):=of_decide_eq_true (by first|(with_reducible assumption)|assumption)
     obtain⟨ZU,afy,QP,QO⟩:=kW (Kd.eZ Ap.out).2.2 (nR) UF Uy
     obtain rfl:O4=ZU:=(by injection afy)
     replace UF:=eq_true UF
     replace Uy:=eq_true Uy
     have p10:0<=((nR):Int):=of_decide_eq_true (by first|(with_reducible assumption)|assumption)
     have q10:((nR):Int)<((l0.length:Int):Int):=of_decide_eq_true (by first|(with_reducible assumption)|assumption)
     obtain⟨Bg,alJ,Zx,Ze,afk,alM,aaI⟩:=Kd.zY Ap.out (by omega)
     (first|cases Zx|(injection Zx with Jf Zy Zz;(first|subst Jf|(injection Jf with Jf;subst Jf));subst Zz;clear Zy))
     have ag4:=aa.mk Ze
     have amX:=aa.mk aaI
     clear Ze afk aaI
     have agw:=aa.mk (show(Io Bg\/w.heap.size<=Bg) from(Ap.out.1 _ rfl))
     (first|simp only[add_plain] at I5|skip)
     (first|simp only[add_plain] at I4|skip)
     (first|simp only[add_plain] at QP|skip)
     (first|simp only[add_plain] at QO|skip)
     obtain⟨alO,YE,YU,Oj,NZ⟩:=Kd.Im Ap.out z63 ((nR):Int) p10 q10
     obtain rfl:=BS YU
     have aed:w.cell? ⟨Bg,((nR):Int).toNat*2,none⟩=some (.int .i64 ((bS l0 (nR)).f0)):=Oj 0 _ rfl
     have aec:w.cell? ⟨Bg,((nR):Int).toNat*2+1,none⟩=some (.int .i64 ((bS l0 (nR)).f1)):=Oj 1 _ rfl
     have aeL:w.frozen? ⟨Bg,((nR):Int).toNat*2,none⟩=false:=NZ 0
     have aeK:w.frozen? ⟨Bg,((nR):Int).toNat*2+1,none⟩=false:=NZ 1
     clear YE Oj NZ YU
     replace p10:=eq_true p10
     replace q10:=eq_true q10
     have aal:=aa.mk (show Kd.R nQ 63 w w0.heap.size (λk_=>(Io k_\/w.heap.size<=k_)) (.slice (some ⟨Bg,0,none⟩) l0.length ZB) l0 from(by(with_reducible repeat(first|apply Kd.bH|apply Kd.bQ|apply Kd.bX));exact Ap.out))
     obtain⟨alN,SL,YT,Oi,SK⟩:=Kd.Im aal.out z63 ((nR):Int) (of_decide_eq_true (by first|(with_reducible assumption)|assumption)) (by have h_:((nR):Int)<((l0.length:Int):Int):=of_decide_eq_true (by first|(with_reducible assumption)|assumption);first|exact h_|(have e_:=(Kd.eZ Ap.out).1;omega)|simpa using h_)
     obtain rfl:=BS YT
     have WG:=Kd.ZZ aal.out ((nR):Int) (of_decide_eq_true (by first|(with_reducible assumption)|assumption)) (by have h_:((nR):Int)<((l0.length:Int):Int):=of_decide_eq_true (by first|(with_reducible assumption)|assumption);first|exact h_|(have e_:=(Kd.eZ Ap.out).1;omega)|simpa using h_) (seg:=[.int .i64 U2]) (j:=1) SL Oi (show 2<=2 from by decide) (x':=(⟨(bS l0 (nR)).f0,U2⟩:mh)) (vH _ _ _ (⟨(bS l0 (nR)).f0,U2⟩:mh)) (λ_ hk=>hk)
     have U3:=Oi 1 _ rfl
     (try simp only[show(nQ).sz=2 from rfl,Nat.mul_one,Nat.add_zero] at U3)
     have Vh:=SK 1
     (try simp only[show(nQ).sz=2 from rfl,Nat.mul_one,Nat.add_zero] at Vh)
     clear SL Oi SK YT
     go_enter Tryz.func80,Tryz.ntmps80
     go_wp2_with (first|((with_reducible refine zA (t:=3) (p:=35) rfl ?_);refine xy (t:=3) (p:=35) (v:=?adM) (w1:=(w.setCell ⟨Bg,((nR):Int).toNat*2+1,none⟩ (.int .i64 U2))) ?hg ?ho ?hn ?hr ?_;(case ho=>rfl);(case hg=>rfl);(case hn=>rfl);(case hr=>first|(go_simp;done)|(go_simp;rfl));intro w13 hw;have hg:w.grownBy w13 (some Bg):=(by rw[hw];exact WG.2);have Yp:Kd.R nQ 63 w13 w0.heap.size (λk_=>(Io k_\/w.heap.size<=k_)) (.slice (some ⟨Bg,0,none⟩) l0.length ZB) XF:=(by rw[hw,Z7.out];exact WG.1);clear WG;have ic:=aa.mk (Yp);have ib:=aa.mk ((by rw[hw];exact aJ (HB.out) ag4.out:Below w0.heap.size w0 w13));have iU:=aa.mk (Kept.vF (S:=(λk_=>Io k_)) hg (by repeat(first|(with_reducible first|exact HK.out|apply Kept.alloc|apply Kept.drewN|apply Kept.drew)|exact HK.out)) (λk_ e_=>(Ap.out.1 k_ e_)));clear Ap;clear HB;clear HK;have Ap:=ic;have HB:=ib;have HK:=iU;clear ic ib iU;clear hg hw Yp))
     go_ret
     exact⟨_,by first|rfl|(simp[bn,bg]<;>rfl)|(simp only[<- NN,<- QT];first|rfl|(simp[bn,bg]<;>rfl))|(simp[*,bn,bg]<;>rfl),by(with_reducible repeat(first|apply Kd.bH|apply Kd.bQ|apply Kd.bX));exact Ap.out,by repeat(first|(with_reducible first|exact HB.out|apply ae|apply ag|apply ak)|exact HB.out),by repeat(first|(with_reducible first|exact HK.out|apply Kept.alloc|apply Kept.drewN|apply Kept.drew)|exact HK.out)⟩
    .rw[if_neg c8] at H
     have OJ:decide (a1<=(wrap64 (((bS l0 (nR)).f1)+1)))=false:=decide_eq_false c8
     clear c8
     by_cases c14:l0.length<8796093022208
     .rw[if_pos c14] at H
      have aah:=aa.mk c14
      clear c14
      obtain⟨adI,EC⟩:∃y_:List (mh),y_=(l0++[(⟨a1,a2⟩:mh)]):=⟨_,rfl⟩
      replace H:(some adI)=some r:=by first|(rw[EC];with_reducible exact H)|(have o8:=(Option.bind_some _ _).symm.trans H;rw[EC];with_reducible exact o8)|(have o8:=(Option.bind_some _ _).symm.trans H;with_reducible exact o8)|with_reducible exact H|(rw[EC];exact H)|exact H
      have Z6:=aa.mk EC
      clear EC
      obtain rfl:=Option.some.inj H
      obtain⟨am9,afG,afv⟩:=Kd.di Ap.out
      subst afv
      have GA:0<=((nR):Int):=of_decide_eq_true (by first|(with_reducible assumption)|assumption)
      have Gs:(nR)<(l0.length:Int):=of_decide_eq_true (by first|(with_reducible assumption)|assumption)
      obtain⟨O4,VY,I5,I4⟩:=kW (Kd.eZ Ap.out).2.2 (nR) GA Gs
      cases VY
      replace GA:=eq_true GA
      replace Gs:=eq_true Gs
      go_enter Tryz.func80,Tryz.ntmps80
      go_wp2_with (first|((with_reducible refine dN (b:= .append) (xs:=#[.tmp 37,.tmp 41]) rfl ?_);at_builtin;refine Kd.jF nQ (w0:=w0) w0.heap.size rfl (.tmp 37) (.tmp 41) 69 63 (.agg #[(.int .i64 0),(.int .i64 0)]) 16 rfl Tryz.underlying69 NJ rfl (by decide) (by omega) (.slice (some O4) l0.length afG) l0 (⟨a1,a2⟩:mh) [.int .i64 a1,.int .i64 a2] (λk_=>(Io k_\/w.heap.size<=k_)) (λ_=>False) rfl rfl ?aP (λ_ hk=>hk.elim) ?aF ?aO ?aB ?aS ?aL ?_;(case aP=>exact vH _ _ _ (⟨a1,a2⟩:mh));(case aB=>exact(by repeat(first|(with_reducible first|exact HB.out|apply ae|apply ag|apply ak)|exact HB.out)));(case aF=>exact(λk_ hk=>(.inr (Nat.le_trans (by first|exact HK.out.1|exact(show Kept w _ (λk_=>Io k_) from by repeat(first|(with_reducible first|exact HK.out|apply Kept.alloc|apply Kept.drewN|apply Kept.drew)|exact HK.out)).1) hk))));(case aO=>exact(by(with_reducible repeat(first|apply Kd.bH|apply Kd.bQ|apply Kd.bX));exact Ap.out));(case aS=>exact(aT (by repeat(first|(with_reducible first|exact HB.out|apply ae|apply ag|apply ak)|exact HB.out))));(case aL=>have:=aah.out;omega);intro ake w16 ho hb hg hat;rw[<- Z6.out] at ho;have ic:=aa.mk (hb);have ib:=aa.mk (Kept.vF (S:=(λk_=>Io k_)) hg (by repeat(first|(with_reducible first|exact HK.out|apply Kept.alloc|apply Kept.drewN|apply Kept.drew)|exact HK.out)) (λk_ e_=>(Ap.out.1 k_ e_)));have iU:=aa.mk (ho);clear HB;clear HK;clear Ap;have HB:=ic;have HK:=ib;have aau:=iU;clear ic ib iU;clear ho hb hg hat))
      go_ret
      exact⟨_,by first|rfl|(simp[bn,bg]<;>rfl)|(simp only[<- NN];first|rfl|(simp[bn,bg]<;>rfl))|(simp[*,bn,bg]<;>rfl),by(with_reducible repeat(first|apply Kd.bH|apply Kd.bQ|apply Kd.bX));exact aau.out,by repeat(first|(with_reducible first|exact HB.out|apply ae|apply ag|apply ak)|exact HB.out),by repeat(first|(with_reducible first|exact HK.out|apply Kept.alloc|apply Kept.drewN|apply Kept.drew)|exact HK.out)⟩
     .rw[if_neg c14] at H
      exact absurd H (by simp)
   .rw[if_neg c7] at H
    exact absurd H (by simp)
  .rw[if_neg c6] at H
   exact absurd H (by simp)
 .rw[if_neg c4] at H
  have rO:decide (0<(l0.length:Int))=false:=decide_eq_false c4
  have afI:decide (0<l0.length)=false:=decide_eq_false (by omega)
  clear c4
  by_cases c17:l0.length<8796093022208
  .rw[if_pos c17] at H
   have aag:=aa.mk c17
   clear c17
   obtain⟨adH,EB⟩:∃y_:List (mh),y_=(l0++[(⟨a1,a2⟩:mh)]):=⟨_,rfl⟩
   replace H:(some adH)=some r:=by first|(rw[EB];with_reducible exact H)|(have o8:=(Option.bind_some _ _).symm.trans H;rw[EB];with_reducible exact o8)|(have o8:=(Option.bind_some _ _).symm.trans H;with_reducible exact o8)|with_reducible exact H|(rw[EB];exact H)|exact H
   have Z5:=aa.mk EB
   clear EB
   obtain rfl:=Option.some.inj H
   obtain⟨ahn,afF,afu⟩:=Kd.di Ap.out
   subst afu
   go_enter Tryz.func80,Tryz.ntmps80
   go_wp2_with (first|((with_reducible refine dN (b:= .append) (xs:=#[.tmp 37,.tmp 41]) rfl ?_);at_builtin;refine Kd.jF nQ (w0:=w0) w0.heap.size rfl (.tmp 37) (.tmp 41) 69 63 (.agg #[(.int .i64 0),(.int .i64 0)]) 16 rfl Tryz.underlying69 NJ rfl (by decide) (by omega) (.slice ahn l0.length afF) l0 (⟨a1,a2⟩:mh) [.int .i64 a1,.int .i64 a2] (λk_=>(Io k_\/w.heap.size<=k_)) (λ_=>False) rfl rfl ?aP (λ_ hk=>hk.elim) ?aF ?aO ?aB ?aS ?aL ?_;(case aP=>exact vH _ _ _ (⟨a1,a2⟩:mh));(case aB=>exact(by repeat(first|(with_reducible first|exact HB.out|apply ae|apply ag|apply ak)|exact HB.out)));(case aF=>exact(λk_ hk=>(.inr (Nat.le_trans (by first|exact HK.out.1|exact(show Kept w _ (λk_=>Io k_) from by repeat(first|(with_reducible first|exact HK.out|apply Kept.alloc|apply Kept.drewN|apply Kept.drew)|exact HK.out)).1) hk))));(case aO=>exact(by(with_reducible repeat(first|apply Kd.bH|apply Kd.bQ|apply Kd.bX));exact Ap.out));(case aS=>exact(aT (by repeat(first|(with_reducible first|exact HB.out|apply ae|apply ag|apply ak)|exact HB.out))));(case aL=>have:=aag.out;omega);intro v182 w19 ho hb hg hat;rw[<- Z5.out] at ho;have ic:=aa.mk (hb);have ib:=aa.mk (Kept.vF (S:=(λk_=>Io k_)) hg (by repeat(first|(with_reducible first|exact HK.out|apply Kept.alloc|apply Kept.drewN|apply Kept.drew)|exact HK.out)) (λk_ e_=>(Ap.out.1 k_ e_)));have iU:=aa.mk (ho);clear HB;clear HK;clear Ap;have HB:=ic;have HK:=ib;have aat:=iU;clear ic ib iU;clear ho hb hg hat))
   go_ret
   exact⟨_,by first|rfl|(simp[bn,bg]<;>rfl)|(simp[*,bn,bg]<;>rfl),by(with_reducible repeat(first|apply Kd.bH|apply Kd.bQ|apply Kd.bX));exact aat.out,by repeat(first|(with_reducible first|exact HB.out|apply ae|apply ag|apply ak)|exact HB.out),by repeat(first|(with_reducible first|exact HK.out|apply Kept.alloc|apply Kept.drewN|apply Kept.drew)|exact HK.out)⟩
  .rw[if_neg c17] at H
   exact absurd H (by simp)
def aZ.l0:Nat->List Int->Int->Int->Int->Option (Int)
 |0,_,_,_,_=>none
 |k+1,x0,x1,x7,x8=>if x8<x7 then(if 0<=x8 then(if x8<(x0.length:Int) then(if x1=(rd x0 x8) then(some x8) else(aZ.l0 k x0 x1 x7 (wrap64 (x8+1)))) else(none)) else(none)) else(some (-1))
def aZ.f(k:Nat)(l0:List Int)(a1:Int):Option (Int):=aZ.l0 k l0 a1 (l0.length:Int) 0
set_option maxHeartbeats 8000000 in
theorem aZ.calls(k:Nat)(A0:Option Addr)(c0:Nat)(l0:List Int)(a1:Int)(r:Int)(w:World)(hr0:Kd.C (Kd.int .i64) w A0 l0.length l0)(hc0:l0.length<=c0)(h:aZ.f k l0 a1=some r):
  Calls Tryz.prog 196 #[.slice A0 l0.length c0,.int .i64 a1] w λe w'=>e= .returned (.int .i64 r)/\aU w w':=by
 have Iw:=aa.mk hr0
 have R7:=aa.mk hc0
 clear hr0 hc0
 have H:(aZ.l0 k l0 a1 (l0.length:Int) 0)=some r:=h
 clear h
 have H':=aa.mk H
 clear H
 go_enter Tryz.func196,Tryz.ntmps196
 go_wp2
 go_loopg [8] k (λkq v8 w'=>∃(nT:Int),v8= .int .i64 nT/\aa (aZ.l0 kq l0 a1 (l0.length:Int) nT=some r)/\aa (kq<=k)/\aU w w')
 case atStart=>exact⟨(0),(by first|rfl|(simp;done)|(simp[*];done)),H',⟨Nat.le_refl _⟩,by repeat(first|exact aU.refl _|apply aU.step)⟩
 case round=>
  clear H'
  (try clear c1);(try clear p2)
  obtain⟨nT,rfl,HA,pX,⟨m1,rfl⟩⟩:=hrel
  cases gk with
  |zero=>exact absurd HA.out (by simp[aZ.l0])
  |succ k1=>
   have H:=HA.out
   clear HA
   simp only[aZ.l0] at H
   by_cases c3:nT<(l0.length:Int)
   .rw[if_pos c3] at H
    have wo:decide (nT<(l0.length:Int))=true:=decide_eq_true c3
    clear c3
    by_cases c4:0<=nT
    .rw[if_pos c4] at H
     have rO:decide (0<=nT)=true:=decide_eq_true c4
     clear c4
     by_cases c5:nT<(l0.length:Int)
     .rw[if_pos c5] at H
      have OL:decide (nT<(l0.length:Int))=true:=decide_eq_true c5
      clear c5
      by_cases c6:a1=(rd l0 nT)
      .rw[if_pos c6] at H
       have Rv:(a1==(rd l0 nT))=true:=beq_iff_eq.mpr c6
       have afH:(a1 !=(rd l0 nT))=false:=bne_eq_false_iff_eq.mpr c6
       clear c6
       obtain rfl:=Option.some.inj H
       have Gz:0<=(nT:Int):=of_decide_eq_true (by first|(with_reducible assumption)|assumption)
       have Gr:nT<(l0.length:Int):=of_decide_eq_true (by first|(with_reducible assumption)|assumption)
       obtain⟨ZT,VX,QN⟩:=Kd.gu Iw.out nT Gz Gr
       cases VX
       replace Gz:=eq_true Gz
       replace Gr:=eq_true Gr
       go_wp2
       go_ret
       exact⟨by first|rfl|(simp;done)|(simp[*];done),by repeat(first|exact aU.refl _|apply aU.step)⟩
      .rw[if_neg c6] at H
       have Rv:(a1==(rd l0 nT))=false:=beq_eq_false_iff_ne.mpr c6
       have afH:(a1 !=(rd l0 nT))=true:=bne_iff_ne.mpr c6
       have H':=aa.mk H
       clear H
       have Gz:0<=(nT:Int):=of_decide_eq_true (by first|(with_reducible assumption)|assumption)
       have Gr:nT<(l0.length:Int):=of_decide_eq_true (by first|(with_reducible assumption)|assumption)
       obtain⟨ZT,VX,QN⟩:=Kd.gu Iw.out nT Gz Gr
       cases VX
       replace Gz:=eq_true Gz
       replace Gr:=eq_true Gr
       go_wp2
       go_roundg k1
       case measure=>have:=pX.out;omega
       case rel=>exact⟨(wrap64 (nT+1)),(by first|rfl|(simp;done)|(simp[*];done)),H',⟨by have:=pX.out;omega⟩,by repeat(first|exact aU.refl _|apply aU.step)⟩
     .rw[if_neg c5] at H
      exact absurd H (by simp)
    .rw[if_neg c4] at H
     exact absurd H (by simp)
   .rw[if_neg c3] at H
    have wo:decide (nT<(l0.length:Int))=false:=decide_eq_false c3
    clear c3
    obtain rfl:=Option.some.inj H
    go_wp2
    go_ret
    exact⟨by first|rfl|(simp;done)|(simp[*];done),by repeat(first|exact aU.refl _|apply aU.step)⟩
def eP.f(k:Nat)(l0:List Int)(a1:Int):Option (Bool):=(aZ.f k l0 a1).bind λt189=>(some (decide (t189>=0)))
set_option maxHeartbeats 8000000 in
theorem eP.calls(k:Nat)(A0:Option Addr)(c0:Nat)(l0:List Int)(a1:Int)(r:Bool)(w:World)(hr0:Kd.C (Kd.int .i64) w A0 l0.length l0)(hc0:l0.length<=c0)(h:eP.f k l0 a1=some r):
  Calls Tryz.prog 129 #[.slice A0 l0.length c0,.int .i64 a1] w λe w'=>e= .returned (.bool r)/\aU w w':=by
 have Iw:=aa.mk hr0
 have R7:=aa.mk hc0
 clear hr0 hc0
 have H:((aZ.f k l0 a1).bind λt189=>(some (decide (t189>=0))))=some r:=h
 clear h
 replace H:=Option.bind_eq_some_iff.mp H
 obtain⟨t189,Ul,H⟩:=H
 replace H:(some (decide (t189>=0)))=some r:=H
 have A3:=aa.mk Ul
 clear Ul
 obtain rfl:=Option.some.inj H
 go_enter Tryz.func129,Tryz.ntmps129
 go_wp2_with (first|((with_reducible refine iE (f:=196) rfl ?_);refine qz (some 7) rfl rfl Tryz.func196 (by kernel_rfl) rfl #[.slice A0 l0.length c0,.int .i64 a1] rfl (by(try simp only[List.map_toArray,List.map_cons,List.map_nil]);first|done|rfl|(simp only[List.length_drop,List.length_take];rfl)) ?_;(with_reducible refine(aZ.calls k _ _ l0 a1 t189 _ ?side1 ?side2 A3.out).mono ?_);(case side1=>repeat(first|exact Iw.out|(with_reducible refine Kd.Sg ?_ _)|(with_reducible refine Kd.Sd ?_ _)|(with_reducible refine Kd.WR ?_)));(case side2=>exact R7.out);rintro e w' ⟨rfl,⟨nd,rfl⟩⟩;refine⟨_,rfl,?_⟩))
 go_ret
 exact⟨by first|rfl|(simp;done)|(simp[*];done),by repeat(first|exact aU.refl _|apply aU.step)⟩
end Go.Proofs.YtdekaocdmjndaaaGreat.ah
