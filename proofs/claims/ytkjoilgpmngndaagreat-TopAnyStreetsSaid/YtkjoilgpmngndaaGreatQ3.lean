import Derived.Test.YtkjoilgpmngndaaGreatQ2
set_option linter.all false
namespace Go.Proofs.YtkjoilgpmngndaaGreat.av
open Go.RowKit Go.Proofs.YtkjoilgpmngndaaGreatW.aA Go.Proofs.YtkjoilgpmngndaaGreatW.aJ Go.Proofs.YtkjoilgpmngndaaGreatW.dn
attribute [local go_sem] mR nV oQ qA ma l9 nW nU
mutual
def ai.j0:Nat->Bool->List Int->Int->List (ql)->List (kW)->Option (Int)
 |0,_,_,_,_,_=>none
 |k+1,x25,gD,ik,dN,gB=>if x25=true then(some 3) else(if(gD.length:Int)=0 then(ai.j1 k true gD ik dN gB) else((aD.f ik 1 4).bind fun t103=>(if t103=true then(ai.j1 k ((dN.length:Int)==0) gD ik dN gB) else(ai.j1 k true gD ik dN gB))))
def ai.j1:Nat->Bool->List Int->Int->List (ql)->List (kW)->Option (Int)
 |0,_,_,_,_,_=>none
 |k+1,x41,gD,ik,dN,gB=>if x41=true then(some 1) else(ai.l0 k 0 gD ik dN gB)
def ai.l0:Nat->Int->List Int->Int->List (ql)->List (kW)->Option (Int)
 |0,_,_,_,_,_=>none
 |k+1,x3,gD,ik,dN,gB=>if x3<(dN.length:Int) then(if 0<=x3 then((aD.f ((bf dN x3).f0) 0 (wrap64 ((gD.length:Int)-1))).bind fun t106=>(if t106=true then((aD.f ((bf dN x3).f1) 0 (wrap64 (ik-1))).bind fun t107=>(if t107=true then((aD.f ((bf dN x3).f2) 0 1000).bind fun t108=>(if t108=true then((aD.f ((bf dN x3).f3.f0) 0 ((bf dN x3).f3.f1)).bind fun t109=>(if t109=true then(if((bf dN x3).f3.f1)>10000 then(some 1) else(ai.l0 k (wrap64 (x3+1)) gD ik dN gB)) else(some 1))) else(some 1))) else(some 1))) else(some 1))) else(none)) else(ai.l1 k 0 gD ik dN gB)
def ai.l1:Nat->Int->List Int->Int->List (ql)->List (kW)->Option (Int)
 |0,_,_,_,_,_=>none
 |k+1,x5,gD,ik,dN,gB=>if x5<(gD.length:Int) then(ai.l2 k x5 0 0 gD ik dN gB) else(ai.l3 k 0 gD ik dN gB)
def ai.l2:Nat->Int->Int->Int->List Int->Int->List (ql)->List (kW)->Option (Int)
 |0,_,_,_,_,_,_,_=>none
 |k+1,x5,x6,x7,gD,ik,dN,gB=>if x7<(dN.length:Int) then(if 0<=x7 then(if((bf dN x7).f0)=x5 then(ai.l2 k x5 (wrap64 (x6+((bf dN x7).f2))) (wrap64 (x7+1)) gD ik dN gB) else(ai.l2 k x5 x6 (wrap64 (x7+1)) gD ik dN gB)) else(none)) else(if 0<=x5 then(if x5<(gD.length:Int) then((aD.f (rd gD x5) 0 10000).bind fun t113=>(if t113=true then(if x6=0 then(some 1) else(ai.l1 k (wrap64 (x5+1)) gD ik dN gB)) else(some 1))) else(none)) else(none))
def ai.l3:Nat->Int->List Int->Int->List (ql)->List (kW)->Option (Int)
 |0,_,_,_,_,_=>none
 |k+1,x8,gD,ik,dN,gB=>if x8<(gB.length:Int) then(if 0<=x8 then((aD.f ((aZ gB x8).f0) 0 (wrap64 ((dN.length:Int)-1))).bind fun t116=>(if t116=true then((aD.f ((aZ gB x8).f1) 0 (wrap64 ((dN.length:Int)-1))).bind fun t117=>(if t117=true then(if((aZ gB x8).f0)=((aZ gB x8).f1) then(some 1) else(ai.l3 k (wrap64 (x8+1)) gD ik dN gB)) else(some 1))) else(some 1))) else(none)) else(some 0)
end
def ai.f(k:Nat)(bA:List Int)(bz:Int)(aM:List (ql))(bC:List (kW)):Option (Int):=if(bA.length:Int)>4 then(ai.j0 k true bA bz aM bC) else(if(aM.length:Int)>8 then(ai.j0 k true bA bz aM bC) else(ai.j0 k (decide ((bC.length:Int)>20)) bA bz aM bC))
set_option maxHeartbeats 8000000 in
set_option maxRecDepth 100000 in
theorem ai.calls(k:Nat)(dC:Option Addr)(dB:Nat)(bA:List Int)(bz:Int)(fw:Option Addr)(dm:Nat)(aM:List (ql))(eT:Option Addr)(dH:Nat)(bC:List (kW))(r:Int)(w:World)(yN:Kd.C (Kd.int .i64) w dC bA.length bA)(yP:bA.length<=dB)(yM:Kd.C Dc w fw aM.length aM)(yO:aM.length<=dm)(Ki:Kd.C Cu w eT bC.length bC)(Ko:bC.length<=dH)(h:ai.f k bA bz aM bC=some r):
  Calls Tryz.prog 6 #[.agg #[.slice dC bA.length dB,.int .i64 bz,.slice fw aM.length dm,.slice eT bC.length dH]] w fun e w'=>e= .returned (.int .i64 r)/\Below w.heap.size w w':=by
 have ai6:=Tryz.underlying26
 have apN:=Tryz.underlying36
 have apM:=Tryz.underlying38
 have KY:=aa.mk yN
 have YM:=aa.mk yP
 clear yN yP
 have rY:=aa.mk yM
 have YL:=aa.mk yO
 clear yM yO
 have KV:=aa.mk Ki
 have afs:=aa.mk Ko
 clear Ki Ko
 have HB:=aa.mk (Below.refl w.heap.size w)
 have H:(if(bA.length:Int)>4 then(ai.j0 k true bA bz aM bC) else(if(aM.length:Int)>8 then(ai.j0 k true bA bz aM bC) else(ai.j0 k (decide ((bC.length:Int)>20)) bA bz aM bC)))=some r:=h
 clear h
 have HC2:=aa.mk H
 clear H
 go_enter Tryz.func6,Tryz.ntmps6
 go_upto_region 1 with(first|((with_reducible refine bY (N:=1) rfl ?_);(try(refine eQ (by rfl) ?_;dsimp only));refine cZ ?hg (N:=1) ?hd (cs:=#[.slice dC bA.length dB,.int .i64 bz,.slice fw aM.length dm,.slice eT bC.length dH]) (t:=26) ?hr ?_;(case hd=>rfl);(case hg=>rfl);(case hr=>first|(go_simp;done)|(go_simp;rfl));intro aI hg w3 dM hb;have iF:=aa.mk (bT (by repeat(first|(with_reducible first|exact HB.out|apply ae|apply ah|apply au)|exact HB.out)) hb);have iE:=aa.mk (dM);have jg:=aa.mk ((by rw[hg];exact(aT (by repeat(first|(with_reducible first|exact HB.out|apply ae|apply ah|apply au)|exact HB.out))):w.heap.size<=aI));have jH:=aa.mk ((by rw[hg];exact(aT (by repeat(first|(with_reducible first|exact HB.out|apply ae|apply ah|apply au)|exact HB.out))):w.heap.size<=aI));clear HB;have HB:=iF;have az:=iE;have aoU:=jg;have dD:=jH;clear iF iE jg jH;clear hb dM hg))
 (try simp only[Act.put,List.setIfInBounds_toArray,List.set_cons_zero,List.set_cons_succ])
 go_cut [25] (fun v25 wc=>∃(kq:Nat) (Oa:Bool),v25= .bool Oa/\aa (ai.j0 kq Oa bA bz aM bC=some r)/\aa (kq<=k)/\aa (wc.heap[aI]?=some (.cells #[(.slice dC bA.length dB),.int .i64 bz,(.slice fw aM.length dm),(.slice eT bC.length dH)] 26 (0,0)))/\aa (Below w.heap.size w wc))
 case first=>
  have H:=HC2.out
  clear HC2
  by_cases c4:(bA.length:Int)>4
  .rw[if_pos c4] at H
   have lH:decide (4<(bA.length:Int))=true:=decide_eq_true c4
   have KE:decide (4<bA.length)=true:=decide_eq_true (by omega)
   clear c4
   (first|rw[lH]|(simp only[dL,ed];rw[lH])|skip)
   have H':=aa.mk H
   clear H
   have qJ:w3.cell? ⟨aI,0,none⟩=some (.slice dC bA.length dB):=(ak az.out 0).trans rfl
   have qI:w3.cell? ⟨aI,1,none⟩=some (.int .i64 bz):=(ak az.out 1).trans rfl
   have uN:w3.cell? ⟨aI,2,none⟩=some (.slice fw aM.length dm):=(ak az.out 2).trans rfl
   have uM:w3.cell? ⟨aI,3,none⟩=some (.slice eT bC.length dH):=(ak az.out 3).trans rfl
   have qF:=ag az.out 0
   have qE:=ag az.out 1
   have uI:=ag az.out 2
   have uH:=ag az.out 3
   go_wp2
   go_meet
   case rel=>exact⟨_,(true),(by first|rfl|(simp;done)|(simp[*];done)),H',⟨by first|omega|exact Nat.le_refl _⟩,⟨by(with_reducible repeat(first|refine aX ?_ _|refine bB ?_|refine aQ ?_ _));exact az.out⟩,⟨by repeat(first|(with_reducible first|exact HB.out|apply ae|apply ah|apply au|refine aH ?_ dD.out)|exact HB.out)⟩⟩
  .rw[if_neg c4] at H
   have lH:decide (4<(bA.length:Int))=false:=decide_eq_false c4
   have KE:decide (4<bA.length)=false:=decide_eq_false (by omega)
   clear c4
   (first|rw[lH]|(simp only[dL,ed];rw[lH])|skip)
   by_cases c6:(aM.length:Int)>8
   .rw[if_pos c6] at H
    have Be:decide (8<(aM.length:Int))=true:=decide_eq_true c6
    have Nl:decide (8<aM.length)=true:=decide_eq_true (by omega)
    clear c6
    have H':=aa.mk H
    clear H
    have qH:w3.cell? ⟨aI,0,none⟩=some (.slice dC bA.length dB):=(ak az.out 0).trans rfl
    have qG:w3.cell? ⟨aI,1,none⟩=some (.int .i64 bz):=(ak az.out 1).trans rfl
    have rO:w3.cell? ⟨aI,2,none⟩=some (.slice fw aM.length dm):=(ak az.out 2).trans rfl
    have uL:w3.cell? ⟨aI,3,none⟩=some (.slice eT bC.length dH):=(ak az.out 3).trans rfl
    have qD:=ag az.out 0
    have qC:=ag az.out 1
    have rJ:=ag az.out 2
    have uG:=ag az.out 3
    go_wp2
    go_meet
    case rel=>exact⟨_,(true),(by first|rfl|(simp;done)|(simp[*];done)),H',⟨by first|omega|exact Nat.le_refl _⟩,⟨by(with_reducible repeat(first|refine aX ?_ _|refine bB ?_|refine aQ ?_ _));exact az.out⟩,⟨by repeat(first|(with_reducible first|exact HB.out|apply ae|apply ah|apply au|refine aH ?_ dD.out)|exact HB.out)⟩⟩
   .rw[if_neg c6] at H
    have Be:decide (8<(aM.length:Int))=false:=decide_eq_false c6
    have Nl:decide (8<aM.length)=false:=decide_eq_false (by omega)
    clear c6
    have H':=aa.mk H
    clear H
    have uK:w3.cell? ⟨aI,0,none⟩=some (.slice dC bA.length dB):=(ak az.out 0).trans rfl
    have uJ:w3.cell? ⟨aI,1,none⟩=some (.int .i64 bz):=(ak az.out 1).trans rfl
    have yt:w3.cell? ⟨aI,2,none⟩=some (.slice fw aM.length dm):=(ak az.out 2).trans rfl
    have yo:w3.cell? ⟨aI,3,none⟩=some (.slice eT bC.length dH):=(ak az.out 3).trans rfl
    have uF:=ag az.out 0
    have uE:=ag az.out 1
    have yn:=ag az.out 2
    have ym:=ag az.out 3
    go_wp2
    go_meet
    case rel=>exact⟨_,(decide ((bC.length:Int)>20)),(by first|rfl|(simp;done)|(simp[*];done)),H',⟨by first|omega|exact Nat.le_refl _⟩,⟨by(with_reducible repeat(first|refine aX ?_ _|refine bB ?_|refine aQ ?_ _));exact az.out⟩,⟨by repeat(first|(with_reducible first|exact HB.out|apply ae|apply ah|apply au|refine aH ?_ dD.out)|exact HB.out)⟩⟩
 case rest=>
  clear HC2
  (try clear p2);(try clear c4);(try clear lH);(try clear KE);(try clear c6);(try clear Be);(try clear Nl);(try clear qJ);(try clear qI);(try clear uN);(try clear uM);(try clear qH)
  (try clear qG);(try clear rO);(try clear uL);(try clear uK);(try clear uJ);(try clear yt);(try clear yo);(try clear qF);(try clear qE);(try clear uI);(try clear uH);(try clear qD)
  (try clear qC);(try clear rJ);(try clear uG);(try clear uF);(try clear uE);(try clear yn);(try clear ym)
  obtain⟨kq,Oa,rfl,HA,QM,az,HB⟩:=hcut
  cases kq with
  |zero=>exact absurd HA.out (by simp[ai.j0])
  |succ XQ=>
   have H:=HA.out
   clear HA
   simp only[ai.j0] at H
   by_cases c9:Oa=true
   .subst c9
    replace H:(some 3)=some r:=by rw[if_pos rfl] at H;exact H
    obtain rfl:=Option.some.inj H
    go_wp2
    go_ret
    exact⟨by first|rfl|(simp[aW,aV]<;>rfl)|(simp[*,aW,aV]<;>rfl),by repeat(first|(with_reducible first|exact HB.out|apply ae|apply ah|apply au|refine aH ?_ dD.out)|exact HB.out)⟩
   .replace c9:=Bool.eq_false_iff.mpr c9
    subst c9
    replace H:(if(bA.length:Int)=0 then(ai.j1 XQ true bA bz aM bC) else((aD.f bz 1 4).bind fun t103=>(if t103=true then(ai.j1 XQ ((aM.length:Int)==0) bA bz aM bC) else(ai.j1 XQ true bA bz aM bC))))=some r:=by rw[if_neg (show ¬(false=true) by decide)] at H;exact H
    have abA:=aa.mk H
    clear H
    go_upto_region 3 with(fail)
    go_cut [41] (fun v41 wc=>∃(kq:Nat) (N9:Bool),v41= .bool N9/\aa (ai.j1 kq N9 bA bz aM bC=some r)/\aa (kq<=XQ)/\aa (wc.heap[aI]?=some (.cells #[(.slice dC bA.length dB),.int .i64 bz,(.slice fw aM.length dm),(.slice eT bC.length dH)] 26 (0,0)))/\aa (Below w.heap.size w wc))
    case first=>
     have H:=abA.out
     clear abA
     by_cases c11:(bA.length:Int)=0
     .rw[if_pos c11] at H
      have pg:((bA.length:Int)==0)=true:=beq_iff_eq.mpr c11
      have Dq:((bA.length:Int) !=0)=false:=bne_eq_false_iff_eq.mpr c11
      clear c11
      (first|rw[pg]|(simp only[dL,ed];rw[pg])|skip)
      have H':=aa.mk H
      clear H
      have wW:wc.cell? ⟨aI,0,none⟩=some (.slice dC bA.length dB):=(ak az.out 0).trans rfl
      have wV:wc.cell? ⟨aI,1,none⟩=some (.int .i64 bz):=(ak az.out 1).trans rfl
      have wU:wc.cell? ⟨aI,2,none⟩=some (.slice fw aM.length dm):=(ak az.out 2).trans rfl
      have wT:wc.cell? ⟨aI,3,none⟩=some (.slice eT bC.length dH):=(ak az.out 3).trans rfl
      have wI:=ag az.out 0
      have wH:=ag az.out 1
      have wG:=ag az.out 2
      have wF:=ag az.out 3
      go_wp2
      go_meet
      case rel=>exact⟨_,(true),(by first|rfl|(simp;done)|(simp[*];done)),H',⟨by have:=QM.out;first|omega|exact Nat.le_refl _⟩,⟨by(with_reducible repeat(first|refine aX ?_ _|refine bB ?_|refine aQ ?_ _));exact az.out⟩,⟨by repeat(first|(with_reducible first|exact HB.out|apply ae|apply ah|apply au|refine aH ?_ dD.out)|exact HB.out)⟩⟩
     .rw[if_neg c11] at H
      have pg:((bA.length:Int)==0)=false:=beq_eq_false_iff_ne.mpr c11
      have Dq:((bA.length:Int) !=0)=true:=bne_iff_ne.mpr c11
      have KF:¬(bA=[]):=fun h_=>c11 (by rw[h_];rfl)
      (first|rw[pg]|(simp only[dL,ed];rw[pg])|skip)
      replace H:=Option.bind_eq_some_iff.mp H
      obtain⟨t103,af7,H⟩:=H
      replace H:(if t103=true then(ai.j1 XQ ((aM.length:Int)==0) bA bz aM bC) else(ai.j1 XQ true bA bz aM bC))=some r:=H
      have A13:=aa.mk af7
      clear af7
      by_cases c14:t103=true
      .subst c14
       replace H:(ai.j1 XQ ((aM.length:Int)==0) bA bz aM bC)=some r:=by rw[if_pos rfl] at H;exact H
       have H':=aa.mk H
       clear H
       have wS:wc.cell? ⟨aI,0,none⟩=some (.slice dC bA.length dB):=(ak az.out 0).trans rfl
       have wR:wc.cell? ⟨aI,1,none⟩=some (.int .i64 bz):=(ak az.out 1).trans rfl
       have wQ:wc.cell? ⟨aI,2,none⟩=some (.slice fw aM.length dm):=(ak az.out 2).trans rfl
       have wP:wc.cell? ⟨aI,3,none⟩=some (.slice eT bC.length dH):=(ak az.out 3).trans rfl
       have wE:=ag az.out 0
       have wD:=ag az.out 1
       have wC:=ag az.out 2
       have wB:=ag az.out 3
       go_wp2_with (first|(go_at_call 35;(with_reducible refine(aD.calls bz 1 4 true _ A13.out).mono ?_);rintro e w' ⟨rfl,⟨nd,rfl⟩⟩))
       go_meet
       case rel=>exact⟨_,(((aM.length:Int)==0)),(by first|rfl|(simp;done)|(simp[*];done)),H',⟨by have:=QM.out;first|omega|exact Nat.le_refl _⟩,⟨by(with_reducible repeat(first|refine aX ?_ _|refine bB ?_|refine aQ ?_ _));exact az.out⟩,⟨by repeat(first|(with_reducible first|exact HB.out|apply ae|apply ah|apply au|refine aH ?_ dD.out)|exact HB.out)⟩⟩
      .replace c14:=Bool.eq_false_iff.mpr c14
       subst c14
       replace H:(ai.j1 XQ true bA bz aM bC)=some r:=by rw[if_neg (show ¬(false=true) by decide)] at H;exact H
       have H':=aa.mk H
       clear H
       have wO:wc.cell? ⟨aI,0,none⟩=some (.slice dC bA.length dB):=(ak az.out 0).trans rfl
       have wN:wc.cell? ⟨aI,1,none⟩=some (.int .i64 bz):=(ak az.out 1).trans rfl
       have wK:wc.cell? ⟨aI,2,none⟩=some (.slice fw aM.length dm):=(ak az.out 2).trans rfl
       have wJ:wc.cell? ⟨aI,3,none⟩=some (.slice eT bC.length dH):=(ak az.out 3).trans rfl
       have wy:=ag az.out 0
       have wo:=ag az.out 1
       have vZ:=ag az.out 2
       have vY:=ag az.out 3
       go_wp2_with (first|(go_at_call 35;(with_reducible refine(aD.calls bz 1 4 false _ A13.out).mono ?_);rintro e w' ⟨rfl,⟨nd,rfl⟩⟩))
       go_meet
       case rel=>exact⟨_,(true),(by first|rfl|(simp;done)|(simp[*];done)),H',⟨by have:=QM.out;first|omega|exact Nat.le_refl _⟩,⟨by(with_reducible repeat(first|refine aX ?_ _|refine bB ?_|refine aQ ?_ _));exact az.out⟩,⟨by repeat(first|(with_reducible first|exact HB.out|apply ae|apply ah|apply au|refine aH ?_ dD.out)|exact HB.out)⟩⟩
    case rest=>
     clear abA
     (try clear c1);(try clear p2);(try clear c4);(try clear lH);(try clear KE);(try clear c6);(try clear Be);(try clear Nl);(try clear c9);(try clear c11);(try clear pg);(try clear Dq)
     (try clear KF);(try clear c14);(try clear wW);(try clear wV);(try clear wU);(try clear wT);(try clear wS);(try clear wR);(try clear wQ);(try clear wP);(try clear wO);(try clear wN)
     (try clear wK);(try clear wJ);(try clear qJ);(try clear qI);(try clear uN);(try clear uM);(try clear qH);(try clear qG);(try clear rO);(try clear uL);(try clear uK);(try clear uJ)
     (try clear yt);(try clear yo);(try clear wI);(try clear wH);(try clear wG);(try clear wF);(try clear wE);(try clear wD);(try clear wC);(try clear wB);(try clear wy);(try clear wo)
     (try clear vZ);(try clear vY);(try clear qF);(try clear qE);(try clear uI);(try clear uH);(try clear qD);(try clear qC);(try clear rJ);(try clear uG);(try clear uF);(try clear uE)
     (try clear yn);(try clear ym);(try clear p2)
     obtain⟨kq,N9,rfl,HA,UE,az,HB⟩:=hcut
     cases kq with
     |zero=>exact absurd HA.out (by simp[ai.j1])
     |succ kj9=>
      have H:=HA.out
      clear HA
      simp only[ai.j1] at H
      by_cases c17:N9=true
      .subst c17
       replace H:(some 1)=some r:=by rw[if_pos rfl] at H;exact H
       obtain rfl:=Option.some.inj H
       go_wp2
       go_ret
       exact⟨by first|rfl|(simp[aW,aV]<;>rfl)|(simp[*,aW,aV]<;>rfl),by repeat(first|(with_reducible first|exact HB.out|apply ae|apply ah|apply au|refine aH ?_ dD.out)|exact HB.out)⟩
      .replace c17:=Bool.eq_false_iff.mpr c17
       subst c17
       replace H:(ai.l0 kj9 0 bA bz aM bC)=some r:=by rw[if_neg (show ¬(false=true) by decide)] at H;exact H
       have H':=aa.mk H
       clear H
       go_wp2
       go_loopg [3] kj9 (fun kq v3 w'=>∃(dh:Int),v3= .int .i64 dh/\aa (ai.l0 kq dh bA bz aM bC=some r)/\aa (kq<=kj9)/\aa (w'.heap[aI]?=some (.cells #[(.slice dC bA.length dB),.int .i64 bz,(.slice fw aM.length dm),(.slice eT bC.length dH)] 26 (0,0)))/\aa (Below w.heap.size w w'))
       case atStart=>exact⟨(0),(by first|rfl|(simp;done)|(simp[*];done)),H',⟨Nat.le_refl _⟩,⟨by(with_reducible repeat(first|refine aX ?_ _|refine bB ?_|refine aQ ?_ _));exact az.out⟩,⟨by repeat(first|(with_reducible first|exact HB.out|apply ae|apply ah|apply au|refine aH ?_ dD.out)|exact HB.out)⟩⟩
       case round=>
        clear H'
        (try clear c1);(try clear p2);(try clear c4);(try clear lH);(try clear KE);(try clear c6);(try clear Be);(try clear Nl);(try clear c9);(try clear c11);(try clear pg);(try clear Dq)
        (try clear KF);(try clear c14);(try clear c17);(try clear wW);(try clear wV);(try clear wU);(try clear wT);(try clear wS);(try clear wR);(try clear wQ);(try clear wP);(try clear wO)
        (try clear wN);(try clear wK);(try clear wJ);(try clear qJ);(try clear qI);(try clear uN);(try clear uM);(try clear qH);(try clear qG);(try clear rO);(try clear uL);(try clear uK)
        (try clear uJ);(try clear yt);(try clear yo);(try clear wI);(try clear wH);(try clear wG);(try clear wF);(try clear wE);(try clear wD);(try clear wC);(try clear wB);(try clear wy)
        (try clear wo);(try clear vZ);(try clear vY);(try clear qF);(try clear qE);(try clear uI);(try clear uH);(try clear qD);(try clear qC);(try clear rJ);(try clear uG);(try clear uF)
        (try clear uE);(try clear yn);(try clear ym);(try clear p2)
        obtain⟨dh,rfl,HA,QL,az,HB⟩:=hrel
        cases gk with
        |zero=>exact absurd HA.out (by simp[ai.l0])
        |succ k3=>
         have H:=HA.out
         clear HA
         simp only[ai.l0] at H
         by_cases c18:dh<(aM.length:Int)
         .rw[if_pos c18] at H
          have Bf:decide (dh<(aM.length:Int))=true:=decide_eq_true c18
          clear c18
          by_cases c19:0<=dh
          .rw[if_pos c19] at H
           have Tg:decide (0<=dh)=true:=decide_eq_true c19
           clear c19
           replace H:=Option.bind_eq_some_iff.mp H
           obtain⟨t106,af6,H⟩:=H
           replace H:(if t106=true then((aD.f ((bf aM dh).f1) 0 (wrap64 (bz-1))).bind fun t107=>(if t107=true then((aD.f ((bf aM dh).f2) 0 1000).bind fun t108=>(if t108=true then((aD.f ((bf aM dh).f3.f0) 0 ((bf aM dh).f3.f1)).bind fun t109=>(if t109=true then(if((bf aM dh).f3.f1)>10000 then(some 1) else(ai.l0 k3 (wrap64 (dh+1)) bA bz aM bC)) else(some 1))) else(some 1))) else(some 1))) else(some 1))=some r:=H
           have CS:=aa.mk af6
           clear af6
           by_cases c21:t106=true
           .subst c21
            replace H:((aD.f ((bf aM dh).f1) 0 (wrap64 (bz-1))).bind fun t107=>(if t107=true then((aD.f ((bf aM dh).f2) 0 1000).bind fun t108=>(if t108=true then((aD.f ((bf aM dh).f3.f0) 0 ((bf aM dh).f3.f1)).bind fun t109=>(if t109=true then(if((bf aM dh).f3.f1)>10000 then(some 1) else(ai.l0 k3 (wrap64 (dh+1)) bA bz aM bC)) else(some 1))) else(some 1))) else(some 1)))=some r:=by rw[if_pos rfl] at H;exact H
            replace H:=Option.bind_eq_some_iff.mp H
            obtain⟨t107,af4,H⟩:=H
            replace H:(if t107=true then((aD.f ((bf aM dh).f2) 0 1000).bind fun t108=>(if t108=true then((aD.f ((bf aM dh).f3.f0) 0 ((bf aM dh).f3.f1)).bind fun t109=>(if t109=true then(if((bf aM dh).f3.f1)>10000 then(some 1) else(ai.l0 k3 (wrap64 (dh+1)) bA bz aM bC)) else(some 1))) else(some 1))) else(some 1))=some r:=H
            have A22:=aa.mk af4
            clear af4
            by_cases c23:t107=true
            .subst c23
             replace H:((aD.f ((bf aM dh).f2) 0 1000).bind fun t108=>(if t108=true then((aD.f ((bf aM dh).f3.f0) 0 ((bf aM dh).f3.f1)).bind fun t109=>(if t109=true then(if((bf aM dh).f3.f1)>10000 then(some 1) else(ai.l0 k3 (wrap64 (dh+1)) bA bz aM bC)) else(some 1))) else(some 1)))=some r:=by rw[if_pos rfl] at H;exact H
             replace H:=Option.bind_eq_some_iff.mp H
             obtain⟨t108,af3,H⟩:=H
             replace H:(if t108=true then((aD.f ((bf aM dh).f3.f0) 0 ((bf aM dh).f3.f1)).bind fun t109=>(if t109=true then(if((bf aM dh).f3.f1)>10000 then(some 1) else(ai.l0 k3 (wrap64 (dh+1)) bA bz aM bC)) else(some 1))) else(some 1))=some r:=H
             have A24:=aa.mk af3
             clear af3
             by_cases OL:t108=true
             .subst OL
              replace H:((aD.f ((bf aM dh).f3.f0) 0 ((bf aM dh).f3.f1)).bind fun t109=>(if t109=true then(if((bf aM dh).f3.f1)>10000 then(some 1) else(ai.l0 k3 (wrap64 (dh+1)) bA bz aM bC)) else(some 1)))=some r:=by rw[if_pos rfl] at H;exact H
              replace H:=Option.bind_eq_some_iff.mp H
              obtain⟨t109,af2,H⟩:=H
              replace H:(if t109=true then(if((bf aM dh).f3.f1)>10000 then(some 1) else(ai.l0 k3 (wrap64 (dh+1)) bA bz aM bC)) else(some 1))=some r:=H
              have A26:=aa.mk af2
              clear af2
              by_cases c27:t109=true
              .subst c27
               replace H:(if((bf aM dh).f3.f1)>10000 then(some 1) else(ai.l0 k3 (wrap64 (dh+1)) bA bz aM bC))=some r:=by rw[if_pos rfl] at H;exact H
               by_cases c28:((bf aM dh).f3.f1)>10000
               .rw[if_pos c28] at H
                have OJ:decide (10000<((bf aM dh).f3.f1))=true:=decide_eq_true c28
                clear c28
                obtain rfl:=Option.some.inj H
                have Ic:wr.cell? ⟨aI,0,none⟩=some (.slice dC bA.length dB):=(ak az.out 0).trans rfl
                have Ib:wr.cell? ⟨aI,1,none⟩=some (.int .i64 bz):=(ak az.out 1).trans rfl
                have Ia:wr.cell? ⟨aI,2,none⟩=some (.slice fw aM.length dm):=(ak az.out 2).trans rfl
                have H9:wr.cell? ⟨aI,3,none⟩=some (.slice eT bC.length dH):=(ak az.out 3).trans rfl
                have FU:=ag az.out 0
                have FT:=ag az.out 1
                have FR:=ag az.out 2
                have FQ:=ag az.out 3
                have mQ:0<=(dh:Int):=of_decide_eq_true (by first|(with_reducible assumption)|assumption)
                have mP:dh<(aM.length:Int):=of_decide_eq_true (by first|(with_reducible assumption)|assumption)
                obtain⟨iO,AY,fq,fo,fe,eZ,eY⟩:=ou rY.out dh mQ mP
                cases AY
                replace fq:=(HB.out.cell (World.block_lt_of_cell? w _ fq)).trans fq
                replace fo:=(HB.out.cell (World.block_lt_of_cell? w _ fo)).trans fo
                replace fe:=(HB.out.cell (World.block_lt_of_cell? w _ fe)).trans fe
                replace eZ:=(HB.out.cell (World.block_lt_of_cell? w _ eZ)).trans eZ
                replace eY:=(HB.out.cell (World.block_lt_of_cell? w _ eY)).trans eY
                replace mQ:=eq_true mQ
                replace mP:=eq_true mP
                go_wp2_with (first|((with_reducible refine bY (N:=4) rfl ?_);(try(refine eQ (by rfl) ?_;dsimp only));refine cZ ?hg (N:=4) ?hd (cs:=#[.int .i64 0,.int .i64 0,.int .i64 0,.int .i64 0,.int .i64 0]) (t:=36) ?hr ?_;(case hd=>rfl);(case hg=>rfl);(case hr=>first|(go_simp;done)|(go_simp;rfl));intro dw hg UU dM hb;have iF:=aa.mk (gZ (g:=aI) (o:= .cells #[.slice dC bA.length dB,.int .i64 bz,.slice (some iO) aM.length dm,.slice eT bC.length dH] 26 (0,0)) (by(with_reducible repeat(first|refine aX ?_ _|refine bB ?_|refine aQ ?_ _));exact az.out) hb);have iE:=aa.mk (bT (by repeat(first|(with_reducible first|exact HB.out|apply ae|apply ah|apply au|refine aH ?_ dD.out)|exact HB.out)) hb);have jg:=aa.mk (dM);have jH:=aa.mk ((by rw[hg];exact(aT (by repeat(first|(with_reducible first|exact HB.out|apply ae|apply ah|apply au|refine aH ?_ dD.out)|exact HB.out))):w.heap.size<=dw));have tF:=aa.mk ((by rw[hg];exact(aT (by repeat(first|(with_reducible first|exact HB.out|apply ae|apply ah|apply au|refine aH ?_ dD.out)|exact HB.out))):w.heap.size<=dw));have tC:=aa.mk ((by rw[hg];exact Nat.ne_of_lt (fQ (g:=aI) (o:= .cells #[.slice dC bA.length dB,.int .i64 bz,.slice (some iO) aM.length dm,.slice eT bC.length dH] 26 (0,0)) (by(with_reducible repeat(first|refine aX ?_ _|refine bB ?_|refine aQ ?_ _));exact az.out)):aI≠dw));have tu:=aa.mk ((by rw[hg];exact Nat.ne_of_gt (fQ (g:=aI) (o:= .cells #[.slice dC bA.length dB,.int .i64 bz,.slice (some iO) aM.length dm,.slice eT bC.length dH] 26 (0,0)) (by(with_reducible repeat(first|refine aX ?_ _|refine bB ?_|refine aQ ?_ _));exact az.out)):dw≠aI));clear az;clear HB;have az:=iF;have HB:=iE;have cz:=jg;have K5:=jH;have rZ:=tF;have fZ:=tC;have jl:=tu;clear iF iE jg jH tF tC tu;clear hb dM hg;have amN:=jl.out;have amE:=fZ.out;have H8:UU.cell? ⟨dw,0,none⟩=some (.int .i64 0):=(ak cz.out 0).trans rfl;have H7:UU.cell? ⟨dw,1,none⟩=some (.int .i64 0):=(ak cz.out 1).trans rfl;have H6:UU.cell? ⟨dw,2,none⟩=some (.int .i64 0):=(ak cz.out 2).trans rfl;have H5:UU.cell? ⟨dw,3,none⟩=some (.int .i64 0):=(ak cz.out 3).trans rfl;have HZ:UU.cell? ⟨dw,4,none⟩=some (.int .i64 0):=(ak cz.out 4).trans rfl;have FP:=ag cz.out 0;have FO:=ag cz.out 1;have FN:=ag cz.out 2;have FM:=ag cz.out 3;have FL:=ag cz.out 4;have Hz:UU.cell? ⟨aI,0,none⟩=some (.slice dC bA.length dB):=(ak az.out 0).trans rfl;have Hy:UU.cell? ⟨aI,1,none⟩=some (.int .i64 bz):=(ak az.out 1).trans rfl;have Hw:UU.cell? ⟨aI,2,none⟩=some (.slice (some iO) aM.length dm):=(ak az.out 2).trans rfl;have Hu:UU.cell? ⟨aI,3,none⟩=some (.slice eT bC.length dH):=(ak az.out 3).trans rfl;have FJ:=ag az.out 0;have FI:=ag az.out 1;have FH:=ag az.out 2;have FE:=ag az.out 3)|((with_reducible refine bZ (f:=35) rfl ?_);refine iV (some 60) rfl rfl Tryz.func35 (by kernel_rfl) rfl #[.int .i64 ((bf aM dh).f0),.int .i64 0,.int .i64 (wrap64 ((bA.length:Int)-1))] rfl (by(try simp only[List.map_toArray,List.map_cons,List.map_nil]);first|done|rfl|(simp only[List.length_drop,List.length_take];rfl)) ?_;(with_reducible refine(aD.calls ((bf aM dh).f0) 0 (wrap64 ((bA.length:Int)-1)) true _ CS.out).mono ?_);rintro e w' ⟨rfl,⟨nd,rfl⟩⟩;refine⟨_,rfl,?_⟩)|(go_at_call 35;(with_reducible refine(aD.calls ((bf aM dh).f1) 0 (wrap64 (bz-1)) true _ A22.out).mono ?_);rintro e w' ⟨rfl,⟨nd,rfl⟩⟩)|(go_at_call 35;(with_reducible refine(aD.calls ((bf aM dh).f2) 0 1000 true _ A24.out).mono ?_);rintro e w' ⟨rfl,⟨nd,rfl⟩⟩)|(go_at_call 35;(with_reducible refine(aD.calls ((bf aM dh).f3.f0) 0 ((bf aM dh).f3.f1) true _ A26.out).mono ?_);rintro e w' ⟨rfl,⟨nd,rfl⟩⟩))
                go_ret
                exact⟨by first|rfl|(simp[aW,aV]<;>rfl)|(simp[*,aW,aV]<;>rfl),by repeat(first|(with_reducible first|exact HB.out|apply ae|apply ah|apply au|refine aH ?_ dD.out|refine aH ?_ rZ.out)|exact HB.out)⟩
               .rw[if_neg c28] at H
                have OJ:decide (10000<((bf aM dh).f3.f1))=false:=decide_eq_false c28
                clear c28
                have H':=aa.mk H
                clear H
                have Ht:wr.cell? ⟨aI,0,none⟩=some (.slice dC bA.length dB):=(ak az.out 0).trans rfl
                have Hr:wr.cell? ⟨aI,1,none⟩=some (.int .i64 bz):=(ak az.out 1).trans rfl
                have Hq:wr.cell? ⟨aI,2,none⟩=some (.slice fw aM.length dm):=(ak az.out 2).trans rfl
                have Ho:wr.cell? ⟨aI,3,none⟩=some (.slice eT bC.length dH):=(ak az.out 3).trans rfl
                have FD:=ag az.out 0
                have FC:=ag az.out 1
                have FB:=ag az.out 2
                have Fz:=ag az.out 3
                have mQ:0<=(dh:Int):=of_decide_eq_true (by first|(with_reducible assumption)|assumption)
                have mP:dh<(aM.length:Int):=of_decide_eq_true (by first|(with_reducible assumption)|assumption)
                obtain⟨iO,AY,fq,fo,fe,eZ,eY⟩:=ou rY.out dh mQ mP
                cases AY
                replace fq:=(HB.out.cell (World.block_lt_of_cell? w _ fq)).trans fq
                replace fo:=(HB.out.cell (World.block_lt_of_cell? w _ fo)).trans fo
                replace fe:=(HB.out.cell (World.block_lt_of_cell? w _ fe)).trans fe
                replace eZ:=(HB.out.cell (World.block_lt_of_cell? w _ eZ)).trans eZ
                replace eY:=(HB.out.cell (World.block_lt_of_cell? w _ eY)).trans eY
                replace mQ:=eq_true mQ
                replace mP:=eq_true mP
                go_wp2_with (first|((with_reducible refine bY (N:=4) rfl ?_);(try(refine eQ (by rfl) ?_;dsimp only));refine cZ ?hg (N:=4) ?hd (cs:=#[.int .i64 0,.int .i64 0,.int .i64 0,.int .i64 0,.int .i64 0]) (t:=36) ?hr ?_;(case hd=>rfl);(case hg=>rfl);(case hr=>first|(go_simp;done)|(go_simp;rfl));intro dw hg UT dM hb;have iF:=aa.mk (gZ (g:=aI) (o:= .cells #[.slice dC bA.length dB,.int .i64 bz,.slice (some iO) aM.length dm,.slice eT bC.length dH] 26 (0,0)) (by(with_reducible repeat(first|refine aX ?_ _|refine bB ?_|refine aQ ?_ _));exact az.out) hb);have iE:=aa.mk (bT (by repeat(first|(with_reducible first|exact HB.out|apply ae|apply ah|apply au|refine aH ?_ dD.out)|exact HB.out)) hb);have jg:=aa.mk (dM);have jH:=aa.mk ((by rw[hg];exact(aT (by repeat(first|(with_reducible first|exact HB.out|apply ae|apply ah|apply au|refine aH ?_ dD.out)|exact HB.out))):w.heap.size<=dw));have tF:=aa.mk ((by rw[hg];exact(aT (by repeat(first|(with_reducible first|exact HB.out|apply ae|apply ah|apply au|refine aH ?_ dD.out)|exact HB.out))):w.heap.size<=dw));have tC:=aa.mk ((by rw[hg];exact Nat.ne_of_lt (fQ (g:=aI) (o:= .cells #[.slice dC bA.length dB,.int .i64 bz,.slice (some iO) aM.length dm,.slice eT bC.length dH] 26 (0,0)) (by(with_reducible repeat(first|refine aX ?_ _|refine bB ?_|refine aQ ?_ _));exact az.out)):aI≠dw));have tu:=aa.mk ((by rw[hg];exact Nat.ne_of_gt (fQ (g:=aI) (o:= .cells #[.slice dC bA.length dB,.int .i64 bz,.slice (some iO) aM.length dm,.slice eT bC.length dH] 26 (0,0)) (by(with_reducible repeat(first|refine aX ?_ _|refine bB ?_|refine aQ ?_ _));exact az.out)):dw≠aI));clear az;clear HB;have az:=iF;have HB:=iE;have cz:=jg;have K5:=jH;have rZ:=tF;have fZ:=tC;have jl:=tu;clear iF iE jg jH tF tC tu;clear hb dM hg;have amM:=jl.out;have amD:=fZ.out;have Hm:UT.cell? ⟨dw,0,none⟩=some (.int .i64 0):=(ak cz.out 0).trans rfl;have Hl:UT.cell? ⟨dw,1,none⟩=some (.int .i64 0):=(ak cz.out 1).trans rfl;have Hg:UT.cell? ⟨dw,2,none⟩=some (.int .i64 0):=(ak cz.out 2).trans rfl;have Hf:UT.cell? ⟨dw,3,none⟩=some (.int .i64 0):=(ak cz.out 3).trans rfl;have He:UT.cell? ⟨dw,4,none⟩=some (.int .i64 0):=(ak cz.out 4).trans rfl;have Fy:=ag cz.out 0;have Fx:=ag cz.out 1;have Fw:=ag cz.out 2;have Fv:=ag cz.out 3;have Fu:=ag cz.out 4;have Hd:UT.cell? ⟨aI,0,none⟩=some (.slice dC bA.length dB):=(ak az.out 0).trans rfl;have Ha:UT.cell? ⟨aI,1,none⟩=some (.int .i64 bz):=(ak az.out 1).trans rfl;have G9:UT.cell? ⟨aI,2,none⟩=some (.slice (some iO) aM.length dm):=(ak az.out 2).trans rfl;have G8:UT.cell? ⟨aI,3,none⟩=some (.slice eT bC.length dH):=(ak az.out 3).trans rfl;have Fs:=ag az.out 0;have Fq:=ag az.out 1;have Fp:=ag az.out 2;have Fj:=ag az.out 3)|((with_reducible refine bZ (f:=35) rfl ?_);refine iV (some 60) rfl rfl Tryz.func35 (by kernel_rfl) rfl #[.int .i64 ((bf aM dh).f0),.int .i64 0,.int .i64 (wrap64 ((bA.length:Int)-1))] rfl (by(try simp only[List.map_toArray,List.map_cons,List.map_nil]);first|done|rfl|(simp only[List.length_drop,List.length_take];rfl)) ?_;(with_reducible refine(aD.calls ((bf aM dh).f0) 0 (wrap64 ((bA.length:Int)-1)) true _ CS.out).mono ?_);rintro e w' ⟨rfl,⟨nd,rfl⟩⟩;refine⟨_,rfl,?_⟩)|(go_at_call 35;(with_reducible refine(aD.calls ((bf aM dh).f1) 0 (wrap64 (bz-1)) true _ A22.out).mono ?_);rintro e w' ⟨rfl,⟨nd,rfl⟩⟩)|(go_at_call 35;(with_reducible refine(aD.calls ((bf aM dh).f2) 0 1000 true _ A24.out).mono ?_);rintro e w' ⟨rfl,⟨nd,rfl⟩⟩)|(go_at_call 35;(with_reducible refine(aD.calls ((bf aM dh).f3.f0) 0 ((bf aM dh).f3.f1) true _ A26.out).mono ?_);rintro e w' ⟨rfl,⟨nd,rfl⟩⟩))
                go_roundg k3
                case measure=>have:=QM.out;have:=UE.out;have:=QL.out;omega
                case rel=>exact⟨(wrap64 (dh+1)),(by first|rfl|(simp;done)|(simp[*];done)),H',⟨by have:=QM.out;have:=UE.out;have:=QL.out;omega⟩,⟨by(with_reducible repeat(first|refine aX ?_ _|refine bB ?_|refine aQ ?_ _));refine gF ?_ fZ.out _;(with_reducible repeat(first|refine aX ?_ _|refine bB ?_|refine aQ ?_ _));refine gF ?_ fZ.out _;(with_reducible repeat(first|refine aX ?_ _|refine bB ?_|refine aQ ?_ _));refine gF ?_ fZ.out _;(with_reducible repeat(first|refine aX ?_ _|refine bB ?_|refine aQ ?_ _));refine gF ?_ fZ.out _;(with_reducible repeat(first|refine aX ?_ _|refine bB ?_|refine aQ ?_ _));refine gF ?_ fZ.out _;(with_reducible repeat(first|refine aX ?_ _|refine bB ?_|refine aQ ?_ _));exact az.out⟩,⟨by repeat(first|(with_reducible first|exact HB.out|apply ae|apply ah|apply au|refine aH ?_ dD.out|refine aH ?_ rZ.out)|exact HB.out)⟩⟩
              .replace c27:=Bool.eq_false_iff.mpr c27
               subst c27
               replace H:(some 1)=some r:=by rw[if_neg (show ¬(false=true) by decide)] at H;exact H
               obtain rfl:=Option.some.inj H
               have G7:wr.cell? ⟨aI,0,none⟩=some (.slice dC bA.length dB):=(ak az.out 0).trans rfl
               have G6:wr.cell? ⟨aI,1,none⟩=some (.int .i64 bz):=(ak az.out 1).trans rfl
               have G5:wr.cell? ⟨aI,2,none⟩=some (.slice fw aM.length dm):=(ak az.out 2).trans rfl
               have GZ:wr.cell? ⟨aI,3,none⟩=some (.slice eT bC.length dH):=(ak az.out 3).trans rfl
               have Fh:=ag az.out 0
               have Fg:=ag az.out 1
               have Ff:=ag az.out 2
               have Fe:=ag az.out 3
               have mQ:0<=(dh:Int):=of_decide_eq_true (by first|(with_reducible assumption)|assumption)
               have mP:dh<(aM.length:Int):=of_decide_eq_true (by first|(with_reducible assumption)|assumption)
               obtain⟨iO,AY,fq,fo,fe,eZ,eY⟩:=ou rY.out dh mQ mP
               cases AY
               replace fq:=(HB.out.cell (World.block_lt_of_cell? w _ fq)).trans fq
               replace fo:=(HB.out.cell (World.block_lt_of_cell? w _ fo)).trans fo
               replace fe:=(HB.out.cell (World.block_lt_of_cell? w _ fe)).trans fe
               replace eZ:=(HB.out.cell (World.block_lt_of_cell? w _ eZ)).trans eZ
               replace eY:=(HB.out.cell (World.block_lt_of_cell? w _ eY)).trans eY
               replace mQ:=eq_true mQ
               replace mP:=eq_true mP
               go_wp2_with (first|((with_reducible refine bY (N:=4) rfl ?_);(try(refine eQ (by rfl) ?_;dsimp only));refine cZ ?hg (N:=4) ?hd (cs:=#[.int .i64 0,.int .i64 0,.int .i64 0,.int .i64 0,.int .i64 0]) (t:=36) ?hr ?_;(case hd=>rfl);(case hg=>rfl);(case hr=>first|(go_simp;done)|(go_simp;rfl));intro dw hg UR dM hb;have iF:=aa.mk (gZ (g:=aI) (o:= .cells #[.slice dC bA.length dB,.int .i64 bz,.slice (some iO) aM.length dm,.slice eT bC.length dH] 26 (0,0)) (by(with_reducible repeat(first|refine aX ?_ _|refine bB ?_|refine aQ ?_ _));exact az.out) hb);have iE:=aa.mk (bT (by repeat(first|(with_reducible first|exact HB.out|apply ae|apply ah|apply au|refine aH ?_ dD.out)|exact HB.out)) hb);have jg:=aa.mk (dM);have jH:=aa.mk ((by rw[hg];exact(aT (by repeat(first|(with_reducible first|exact HB.out|apply ae|apply ah|apply au|refine aH ?_ dD.out)|exact HB.out))):w.heap.size<=dw));have tF:=aa.mk ((by rw[hg];exact(aT (by repeat(first|(with_reducible first|exact HB.out|apply ae|apply ah|apply au|refine aH ?_ dD.out)|exact HB.out))):w.heap.size<=dw));have tC:=aa.mk ((by rw[hg];exact Nat.ne_of_lt (fQ (g:=aI) (o:= .cells #[.slice dC bA.length dB,.int .i64 bz,.slice (some iO) aM.length dm,.slice eT bC.length dH] 26 (0,0)) (by(with_reducible repeat(first|refine aX ?_ _|refine bB ?_|refine aQ ?_ _));exact az.out)):aI≠dw));have tu:=aa.mk ((by rw[hg];exact Nat.ne_of_gt (fQ (g:=aI) (o:= .cells #[.slice dC bA.length dB,.int .i64 bz,.slice (some iO) aM.length dm,.slice eT bC.length dH] 26 (0,0)) (by(with_reducible repeat(first|refine aX ?_ _|refine bB ?_|refine aQ ?_ _));exact az.out)):dw≠aI));clear az;clear HB;have az:=iF;have HB:=iE;have cz:=jg;have K5:=jH;have rZ:=tF;have fZ:=tC;have jl:=tu;clear iF iE jg jH tF tC tu;clear hb dM hg;have amL:=jl.out;have amC:=fZ.out;have GY:UR.cell? ⟨dw,0,none⟩=some (.int .i64 0):=(ak cz.out 0).trans rfl;have GX:UR.cell? ⟨dw,1,none⟩=some (.int .i64 0):=(ak cz.out 1).trans rfl;have GV:UR.cell? ⟨dw,2,none⟩=some (.int .i64 0):=(ak cz.out 2).trans rfl;have GU:UR.cell? ⟨dw,3,none⟩=some (.int .i64 0):=(ak cz.out 3).trans rfl;have GR:UR.cell? ⟨dw,4,none⟩=some (.int .i64 0):=(ak cz.out 4).trans rfl;have Fb:=ag cz.out 0;have Fa:=ag cz.out 1;have E9:=ag cz.out 2;have E8:=ag cz.out 3;have E5:=ag cz.out 4;have GQ:UR.cell? ⟨aI,0,none⟩=some (.slice dC bA.length dB):=(ak az.out 0).trans rfl;have GN:UR.cell? ⟨aI,1,none⟩=some (.int .i64 bz):=(ak az.out 1).trans rfl;have GM:UR.cell? ⟨aI,2,none⟩=some (.slice (some iO) aM.length dm):=(ak az.out 2).trans rfl;have GL:UR.cell? ⟨aI,3,none⟩=some (.slice eT bC.length dH):=(ak az.out 3).trans rfl;have EZ:=ag az.out 0;have EY:=ag az.out 1;have EX:=ag az.out 2;have EW:=ag az.out 3)|((with_reducible refine bZ (f:=35) rfl ?_);refine iV (some 60) rfl rfl Tryz.func35 (by kernel_rfl) rfl #[.int .i64 ((bf aM dh).f0),.int .i64 0,.int .i64 (wrap64 ((bA.length:Int)-1))] rfl (by(try simp only[List.map_toArray,List.map_cons,List.map_nil]);first|done|rfl|(simp only[List.length_drop,List.length_take];rfl)) ?_;(with_reducible refine(aD.calls ((bf aM dh).f0) 0 (wrap64 ((bA.length:Int)-1)) true _ CS.out).mono ?_);rintro e w' ⟨rfl,⟨nd,rfl⟩⟩;refine⟨_,rfl,?_⟩)|(go_at_call 35;(with_reducible refine(aD.calls ((bf aM dh).f1) 0 (wrap64 (bz-1)) true _ A22.out).mono ?_);rintro e w' ⟨rfl,⟨nd,rfl⟩⟩)|(go_at_call 35;(with_reducible refine(aD.calls ((bf aM dh).f2) 0 1000 true _ A24.out).mono ?_);rintro e w' ⟨rfl,⟨nd,rfl⟩⟩)|(go_at_call 35;(with_reducible refine(aD.calls ((bf aM dh).f3.f0) 0 ((bf aM dh).f3.f1) false _ A26.out).mono ?_);rintro e w' ⟨rfl,⟨nd,rfl⟩⟩))
               go_ret
               exact⟨by first|rfl|(simp[aW,aV]<;>rfl)|(simp[*,aW,aV]<;>rfl),by repeat(first|(with_reducible first|exact HB.out|apply ae|apply ah|apply au|refine aH ?_ dD.out|refine aH ?_ rZ.out)|exact HB.out)⟩
             .replace OL:=Bool.eq_false_iff.mpr OL
              subst OL
              replace H:(some 1)=some r:=by rw[if_neg (show ¬(false=true) by decide)] at H;exact H
              obtain rfl:=Option.some.inj H
              have GK:wr.cell? ⟨aI,0,none⟩=some (.slice dC bA.length dB):=(ak az.out 0).trans rfl
              have GJ:wr.cell? ⟨aI,1,none⟩=some (.int .i64 bz):=(ak az.out 1).trans rfl
              have GI:wr.cell? ⟨aI,2,none⟩=some (.slice fw aM.length dm):=(ak az.out 2).trans rfl
              have GH:wr.cell? ⟨aI,3,none⟩=some (.slice eT bC.length dH):=(ak az.out 3).trans rfl
              have EU:=ag az.out 0
              have ET:=ag az.out 1
              have ES:=ag az.out 2
              have ER:=ag az.out 3
              have mQ:0<=(dh:Int):=of_decide_eq_true (by first|(with_reducible assumption)|assumption)
              have mP:dh<(aM.length:Int):=of_decide_eq_true (by first|(with_reducible assumption)|assumption)
              obtain⟨iO,AY,fq,fo,fe,eZ,eY⟩:=ou rY.out dh mQ mP
              cases AY
              replace fq:=(HB.out.cell (World.block_lt_of_cell? w _ fq)).trans fq
              replace fo:=(HB.out.cell (World.block_lt_of_cell? w _ fo)).trans fo
              replace fe:=(HB.out.cell (World.block_lt_of_cell? w _ fe)).trans fe
              replace eZ:=(HB.out.cell (World.block_lt_of_cell? w _ eZ)).trans eZ
              replace eY:=(HB.out.cell (World.block_lt_of_cell? w _ eY)).trans eY
              replace mQ:=eq_true mQ
              replace mP:=eq_true mP
              go_wp2_with (first|((with_reducible refine bY (N:=4) rfl ?_);(try(refine eQ (by rfl) ?_;dsimp only));refine cZ ?hg (N:=4) ?hd (cs:=#[.int .i64 0,.int .i64 0,.int .i64 0,.int .i64 0,.int .i64 0]) (t:=36) ?hr ?_;(case hd=>rfl);(case hg=>rfl);(case hr=>first|(go_simp;done)|(go_simp;rfl));intro dw hg UQ dM hb;have iF:=aa.mk (gZ (g:=aI) (o:= .cells #[.slice dC bA.length dB,.int .i64 bz,.slice (some iO) aM.length dm,.slice eT bC.length dH] 26 (0,0)) (by(with_reducible repeat(first|refine aX ?_ _|refine bB ?_|refine aQ ?_ _));exact az.out) hb);have iE:=aa.mk (bT (by repeat(first|(with_reducible first|exact HB.out|apply ae|apply ah|apply au|refine aH ?_ dD.out)|exact HB.out)) hb);have jg:=aa.mk (dM);have jH:=aa.mk ((by rw[hg];exact(aT (by repeat(first|(with_reducible first|exact HB.out|apply ae|apply ah|apply au|refine aH ?_ dD.out)|exact HB.out))):w.heap.size<=dw));have tF:=aa.mk ((by rw[hg];exact(aT (by repeat(first|(with_reducible first|exact HB.out|apply ae|apply ah|apply au|refine aH ?_ dD.out)|exact HB.out))):w.heap.size<=dw));have tC:=aa.mk ((by rw[hg];exact Nat.ne_of_lt (fQ (g:=aI) (o:= .cells #[.slice dC bA.length dB,.int .i64 bz,.slice (some iO) aM.length dm,.slice eT bC.length dH] 26 (0,0)) (by(with_reducible repeat(first|refine aX ?_ _|refine bB ?_|refine aQ ?_ _));exact az.out)):aI≠dw));have tu:=aa.mk ((by rw[hg];exact Nat.ne_of_gt (fQ (g:=aI) (o:= .cells #[.slice dC bA.length dB,.int .i64 bz,.slice (some iO) aM.length dm,.slice eT bC.length dH] 26 (0,0)) (by(with_reducible repeat(first|refine aX ?_ _|refine bB ?_|refine aQ ?_ _));exact az.out)):dw≠aI));clear az;clear HB;have az:=iF;have HB:=iE;have cz:=jg;have K5:=jH;have rZ:=tF;have fZ:=tC;have jl:=tu;clear iF iE jg jH tF tC tu;clear hb dM hg;have amK:=jl.out;have amB:=fZ.out;have GG:UQ.cell? ⟨dw,0,none⟩=some (.int .i64 0):=(ak cz.out 0).trans rfl;have GD:UQ.cell? ⟨dw,1,none⟩=some (.int .i64 0):=(ak cz.out 1).trans rfl;have GC:UQ.cell? ⟨dw,2,none⟩=some (.int .i64 0):=(ak cz.out 2).trans rfl;have GA:UQ.cell? ⟨dw,3,none⟩=some (.int .i64 0):=(ak cz.out 3).trans rfl;have Gz:UQ.cell? ⟨dw,4,none⟩=some (.int .i64 0):=(ak cz.out 4).trans rfl;have EP:=ag cz.out 0;have EO:=ag cz.out 1;have EN:=ag cz.out 2;have EM:=ag cz.out 3;have EL:=ag cz.out 4;have Gy:UQ.cell? ⟨aI,0,none⟩=some (.slice dC bA.length dB):=(ak az.out 0).trans rfl;have Gx:UQ.cell? ⟨aI,1,none⟩=some (.int .i64 bz):=(ak az.out 1).trans rfl;have Gw:UQ.cell? ⟨aI,2,none⟩=some (.slice (some iO) aM.length dm):=(ak az.out 2).trans rfl;have Gv:UQ.cell? ⟨aI,3,none⟩=some (.slice eT bC.length dH):=(ak az.out 3).trans rfl;have EK:=ag az.out 0;have EJ:=ag az.out 1;have EI:=ag az.out 2;have EH:=ag az.out 3)|((with_reducible refine bZ (f:=35) rfl ?_);refine iV (some 60) rfl rfl Tryz.func35 (by kernel_rfl) rfl #[.int .i64 ((bf aM dh).f0),.int .i64 0,.int .i64 (wrap64 ((bA.length:Int)-1))] rfl (by(try simp only[List.map_toArray,List.map_cons,List.map_nil]);first|done|rfl|(simp only[List.length_drop,List.length_take];rfl)) ?_;(with_reducible refine(aD.calls ((bf aM dh).f0) 0 (wrap64 ((bA.length:Int)-1)) true _ CS.out).mono ?_);rintro e w' ⟨rfl,⟨nd,rfl⟩⟩;refine⟨_,rfl,?_⟩)|(go_at_call 35;(with_reducible refine(aD.calls ((bf aM dh).f1) 0 (wrap64 (bz-1)) true _ A22.out).mono ?_);rintro e w' ⟨rfl,⟨nd,rfl⟩⟩)|(go_at_call 35;(with_reducible refine(aD.calls ((bf aM dh).f2) 0 1000 false _ A24.out).mono ?_);rintro e w' ⟨rfl,⟨nd,rfl⟩⟩))
              go_ret
              exact⟨by first|rfl|(simp[aW,aV]<;>rfl)|(simp[*,aW,aV]<;>rfl),by repeat(first|(with_reducible first|exact HB.out|apply ae|apply ah|apply au|refine aH ?_ dD.out|refine aH ?_ rZ.out)|exact HB.out)⟩
            .replace c23:=Bool.eq_false_iff.mpr c23
             subst c23
             replace H:(some 1)=some r:=by rw[if_neg (show ¬(false=true) by decide)] at H;exact H
             obtain rfl:=Option.some.inj H
             have Gu:wr.cell? ⟨aI,0,none⟩=some (.slice dC bA.length dB):=(ak az.out 0).trans rfl
             have Gt:wr.cell? ⟨aI,1,none⟩=some (.int .i64 bz):=(ak az.out 1).trans rfl
             have Gs:wr.cell? ⟨aI,2,none⟩=some (.slice fw aM.length dm):=(ak az.out 2).trans rfl
             have Gr:wr.cell? ⟨aI,3,none⟩=some (.slice eT bC.length dH):=(ak az.out 3).trans rfl
             have EF:=ag az.out 0
             have EE:=ag az.out 1
             have ED:=ag az.out 2
             have EC:=ag az.out 3
             have mQ:0<=(dh:Int):=of_decide_eq_true (by first|(with_reducible assumption)|assumption)
             have mP:dh<(aM.length:Int):=of_decide_eq_true (by first|(with_reducible assumption)|assumption)
             obtain⟨iO,AY,fq,fo,fe,eZ,eY⟩:=ou rY.out dh mQ mP
             cases AY
             replace fq:=(HB.out.cell (World.block_lt_of_cell? w _ fq)).trans fq
             replace fo:=(HB.out.cell (World.block_lt_of_cell? w _ fo)).trans fo
             replace fe:=(HB.out.cell (World.block_lt_of_cell? w _ fe)).trans fe
             replace eZ:=(HB.out.cell (World.block_lt_of_cell? w _ eZ)).trans eZ
             replace eY:=(HB.out.cell (World.block_lt_of_cell? w _ eY)).trans eY
             replace mQ:=eq_true mQ
             replace mP:=eq_true mP
             go_wp2_with (first|((with_reducible refine bY (N:=4) rfl ?_);(try(refine eQ (by rfl) ?_;dsimp only));refine cZ ?hg (N:=4) ?hd (cs:=#[.int .i64 0,.int .i64 0,.int .i64 0,.int .i64 0,.int .i64 0]) (t:=36) ?hr ?_;(case hd=>rfl);(case hg=>rfl);(case hr=>first|(go_simp;done)|(go_simp;rfl));intro dw hg UO dM hb;have iF:=aa.mk (gZ (g:=aI) (o:= .cells #[.slice dC bA.length dB,.int .i64 bz,.slice (some iO) aM.length dm,.slice eT bC.length dH] 26 (0,0)) (by(with_reducible repeat(first|refine aX ?_ _|refine bB ?_|refine aQ ?_ _));exact az.out) hb);have iE:=aa.mk (bT (by repeat(first|(with_reducible first|exact HB.out|apply ae|apply ah|apply au|refine aH ?_ dD.out)|exact HB.out)) hb);have jg:=aa.mk (dM);have jH:=aa.mk ((by rw[hg];exact(aT (by repeat(first|(with_reducible first|exact HB.out|apply ae|apply ah|apply au|refine aH ?_ dD.out)|exact HB.out))):w.heap.size<=dw));have tF:=aa.mk ((by rw[hg];exact(aT (by repeat(first|(with_reducible first|exact HB.out|apply ae|apply ah|apply au|refine aH ?_ dD.out)|exact HB.out))):w.heap.size<=dw));have tC:=aa.mk ((by rw[hg];exact Nat.ne_of_lt (fQ (g:=aI) (o:= .cells #[.slice dC bA.length dB,.int .i64 bz,.slice (some iO) aM.length dm,.slice eT bC.length dH] 26 (0,0)) (by(with_reducible repeat(first|refine aX ?_ _|refine bB ?_|refine aQ ?_ _));exact az.out)):aI≠dw));have tu:=aa.mk ((by rw[hg];exact Nat.ne_of_gt (fQ (g:=aI) (o:= .cells #[.slice dC bA.length dB,.int .i64 bz,.slice (some iO) aM.length dm,.slice eT bC.length dH] 26 (0,0)) (by(with_reducible repeat(first|refine aX ?_ _|refine bB ?_|refine aQ ?_ _));exact az.out)):dw≠aI));clear az;clear HB;have az:=iF;have HB:=iE;have cz:=jg;have K5:=jH;have rZ:=tF;have fZ:=tC;have jl:=tu;clear iF iE jg jH tF tC tu;clear hb dM hg;have amJ:=jl.out;have amA:=fZ.out;have Gq:UO.cell? ⟨dw,0,none⟩=some (.int .i64 0):=(ak cz.out 0).trans rfl;have Gp:UO.cell? ⟨dw,1,none⟩=some (.int .i64 0):=(ak cz.out 1).trans rfl;have Gn:UO.cell? ⟨dw,2,none⟩=some (.int .i64 0):=(ak cz.out 2).trans rfl;have Gm:UO.cell? ⟨dw,3,none⟩=some (.int .i64 0):=(ak cz.out 3).trans rfl;have Gl:UO.cell? ⟨dw,4,none⟩=some (.int .i64 0):=(ak cz.out 4).trans rfl;have EB:=ag cz.out 0;have EA:=ag cz.out 1;have Ez:=ag cz.out 2;have Ey:=ag cz.out 3;have Ex:=ag cz.out 4;have Gj:UO.cell? ⟨aI,0,none⟩=some (.slice dC bA.length dB):=(ak az.out 0).trans rfl;have Gi:UO.cell? ⟨aI,1,none⟩=some (.int .i64 bz):=(ak az.out 1).trans rfl;have Gh:UO.cell? ⟨aI,2,none⟩=some (.slice (some iO) aM.length dm):=(ak az.out 2).trans rfl;have Gg:UO.cell? ⟨aI,3,none⟩=some (.slice eT bC.length dH):=(ak az.out 3).trans rfl;have Ew:=ag az.out 0;have Eu:=ag az.out 1;have Et:=ag az.out 2;have Es:=ag az.out 3)|((with_reducible refine bZ (f:=35) rfl ?_);refine iV (some 60) rfl rfl Tryz.func35 (by kernel_rfl) rfl #[.int .i64 ((bf aM dh).f0),.int .i64 0,.int .i64 (wrap64 ((bA.length:Int)-1))] rfl (by(try simp only[List.map_toArray,List.map_cons,List.map_nil]);first|done|rfl|(simp only[List.length_drop,List.length_take];rfl)) ?_;(with_reducible refine(aD.calls ((bf aM dh).f0) 0 (wrap64 ((bA.length:Int)-1)) true _ CS.out).mono ?_);rintro e w' ⟨rfl,⟨nd,rfl⟩⟩;refine⟨_,rfl,?_⟩)|(go_at_call 35;(with_reducible refine(aD.calls ((bf aM dh).f1) 0 (wrap64 (bz-1)) false _ A22.out).mono ?_);rintro e w' ⟨rfl,⟨nd,rfl⟩⟩))
             go_ret
             exact⟨by first|rfl|(simp[aW,aV]<;>rfl)|(simp[*,aW,aV]<;>rfl),by repeat(first|(with_reducible first|exact HB.out|apply ae|apply ah|apply au|refine aH ?_ dD.out|refine aH ?_ rZ.out)|exact HB.out)⟩
           .replace c21:=Bool.eq_false_iff.mpr c21
            subst c21
            replace H:(some 1)=some r:=by rw[if_neg (show ¬(false=true) by decide)] at H;exact H
            obtain rfl:=Option.some.inj H
            have Gf:wr.cell? ⟨aI,0,none⟩=some (.slice dC bA.length dB):=(ak az.out 0).trans rfl
            have Gd:wr.cell? ⟨aI,1,none⟩=some (.int .i64 bz):=(ak az.out 1).trans rfl
            have Gc:wr.cell? ⟨aI,2,none⟩=some (.slice fw aM.length dm):=(ak az.out 2).trans rfl
            have Gb:wr.cell? ⟨aI,3,none⟩=some (.slice eT bC.length dH):=(ak az.out 3).trans rfl
            have Er:=ag az.out 0
            have Ep:=ag az.out 1
            have Eo:=ag az.out 2
            have En:=ag az.out 3
            have mQ:0<=(dh:Int):=of_decide_eq_true (by first|(with_reducible assumption)|assumption)
            have mP:dh<(aM.length:Int):=of_decide_eq_true (by first|(with_reducible assumption)|assumption)
            obtain⟨iO,AY,fq,fo,fe,eZ,eY⟩:=ou rY.out dh mQ mP
            cases AY
            replace fq:=(HB.out.cell (World.block_lt_of_cell? w _ fq)).trans fq
            replace fo:=(HB.out.cell (World.block_lt_of_cell? w _ fo)).trans fo
            replace fe:=(HB.out.cell (World.block_lt_of_cell? w _ fe)).trans fe
            replace eZ:=(HB.out.cell (World.block_lt_of_cell? w _ eZ)).trans eZ
            replace eY:=(HB.out.cell (World.block_lt_of_cell? w _ eY)).trans eY
            replace mQ:=eq_true mQ
            replace mP:=eq_true mP
            go_wp2_with (first|((with_reducible refine bY (N:=4) rfl ?_);(try(refine eQ (by rfl) ?_;dsimp only));refine cZ ?hg (N:=4) ?hd (cs:=#[.int .i64 0,.int .i64 0,.int .i64 0,.int .i64 0,.int .i64 0]) (t:=36) ?hr ?_;(case hd=>rfl);(case hg=>rfl);(case hr=>first|(go_simp;done)|(go_simp;rfl));intro dw hg UN dM hb;have iF:=aa.mk (gZ (g:=aI) (o:= .cells #[.slice dC bA.length dB,.int .i64 bz,.slice (some iO) aM.length dm,.slice eT bC.length dH] 26 (0,0)) (by(with_reducible repeat(first|refine aX ?_ _|refine bB ?_|refine aQ ?_ _));exact az.out) hb);have iE:=aa.mk (bT (by repeat(first|(with_reducible first|exact HB.out|apply ae|apply ah|apply au|refine aH ?_ dD.out)|exact HB.out)) hb);have jg:=aa.mk (dM);have jH:=aa.mk ((by rw[hg];exact(aT (by repeat(first|(with_reducible first|exact HB.out|apply ae|apply ah|apply au|refine aH ?_ dD.out)|exact HB.out))):w.heap.size<=dw));have tF:=aa.mk ((by rw[hg];exact(aT (by repeat(first|(with_reducible first|exact HB.out|apply ae|apply ah|apply au|refine aH ?_ dD.out)|exact HB.out))):w.heap.size<=dw));have tC:=aa.mk ((by rw[hg];exact Nat.ne_of_lt (fQ (g:=aI) (o:= .cells #[.slice dC bA.length dB,.int .i64 bz,.slice (some iO) aM.length dm,.slice eT bC.length dH] 26 (0,0)) (by(with_reducible repeat(first|refine aX ?_ _|refine bB ?_|refine aQ ?_ _));exact az.out)):aI≠dw));have tu:=aa.mk ((by rw[hg];exact Nat.ne_of_gt (fQ (g:=aI) (o:= .cells #[.slice dC bA.length dB,.int .i64 bz,.slice (some iO) aM.length dm,.slice eT bC.length dH] 26 (0,0)) (by(with_reducible repeat(first|refine aX ?_ _|refine bB ?_|refine aQ ?_ _));exact az.out)):dw≠aI));clear az;clear HB;have az:=iF;have HB:=iE;have cz:=jg;have K5:=jH;have rZ:=tF;have fZ:=tC;have jl:=tu;clear iF iE jg jH tF tC tu;clear hb dM hg;have amI:=jl.out;have amz:=fZ.out;have Ga:UN.cell? ⟨dw,0,none⟩=some (.int .i64 0):=(ak cz.out 0).trans rfl;have F9:UN.cell? ⟨dw,1,none⟩=some (.int .i64 0):=(ak cz.out 1).trans rfl;have F8:UN.cell? ⟨dw,2,none⟩=some (.int .i64 0):=(ak cz.out 2).trans rfl;have F7:UN.cell? ⟨dw,3,none⟩=some (.int .i64 0):=(ak cz.out 3).trans rfl;have F6:UN.cell? ⟨dw,4,none⟩=some (.int .i64 0):=(ak cz.out 4).trans rfl;have Em:=ag cz.out 0;have El:=ag cz.out 1;have Ej:=ag cz.out 2;have Ei:=ag cz.out 3;have Eh:=ag cz.out 4;have F5:UN.cell? ⟨aI,0,none⟩=some (.slice dC bA.length dB):=(ak az.out 0).trans rfl;have F4:UN.cell? ⟨aI,1,none⟩=some (.int .i64 bz):=(ak az.out 1).trans rfl;have F3:UN.cell? ⟨aI,2,none⟩=some (.slice (some iO) aM.length dm):=(ak az.out 2).trans rfl;have FZ:UN.cell? ⟨aI,3,none⟩=some (.slice eT bC.length dH):=(ak az.out 3).trans rfl;have Eg:=ag az.out 0;have Ef:=ag az.out 1;have Ee:=ag az.out 2;have Ed:=ag az.out 3)|((with_reducible refine bZ (f:=35) rfl ?_);refine iV (some 60) rfl rfl Tryz.func35 (by kernel_rfl) rfl #[.int .i64 ((bf aM dh).f0),.int .i64 0,.int .i64 (wrap64 ((bA.length:Int)-1))] rfl (by(try simp only[List.map_toArray,List.map_cons,List.map_nil]);first|done|rfl|(simp only[List.length_drop,List.length_take];rfl)) ?_;(with_reducible refine(aD.calls ((bf aM dh).f0) 0 (wrap64 ((bA.length:Int)-1)) false _ CS.out).mono ?_);rintro e w' ⟨rfl,⟨nd,rfl⟩⟩;refine⟨_,rfl,?_⟩))
            go_ret
            exact⟨by first|rfl|(simp[aW,aV]<;>rfl)|(simp[*,aW,aV]<;>rfl),by repeat(first|(with_reducible first|exact HB.out|apply ae|apply ah|apply au|refine aH ?_ dD.out|refine aH ?_ rZ.out)|exact HB.out)⟩
          .rw[if_neg c19] at H
           exact absurd H (by simp)
         .rw[if_neg c18] at H
          have Bf:decide (dh<(aM.length:Int))=false:=decide_eq_false c18
          clear c18
          have H':=aa.mk H
          clear H
          have FY:wr.cell? ⟨aI,0,none⟩=some (.slice dC bA.length dB):=(ak az.out 0).trans rfl
          have FX:wr.cell? ⟨aI,1,none⟩=some (.int .i64 bz):=(ak az.out 1).trans rfl
          have FW:wr.cell? ⟨aI,2,none⟩=some (.slice fw aM.length dm):=(ak az.out 2).trans rfl
          have FV:wr.cell? ⟨aI,3,none⟩=some (.slice eT bC.length dH):=(ak az.out 3).trans rfl
          have Ec:=ag az.out 0
          have Eb:=ag az.out 1
          have Ea:=ag az.out 2
          have D9:=ag az.out 3
          go_wp2
          go_loopg [5] k3 (fun kq v5 w'=>∃(j6:Int),v5= .int .i64 j6/\aa (ai.l1 kq j6 bA bz aM bC=some r)/\aa (kq<=k3)/\aa (w'.heap[aI]?=some (.cells #[(.slice dC bA.length dB),.int .i64 bz,(.slice fw aM.length dm),(.slice eT bC.length dH)] 26 (0,0)))/\aa (Below w.heap.size w w'))
          case atStart=>exact⟨(0),(by first|rfl|(simp;done)|(simp[*];done)),H',⟨Nat.le_refl _⟩,⟨by(with_reducible repeat(first|refine aX ?_ _|refine bB ?_|refine aQ ?_ _));exact az.out⟩,⟨by repeat(first|(with_reducible first|exact HB.out|apply ae|apply ah|apply au|refine aH ?_ dD.out)|exact HB.out)⟩⟩
          case round=>
           clear H'
           (try clear c1);(try clear p1);(try clear q1);(try clear hx1);(try clear c2);(try clear p2);(try clear c3);(try clear c4);(try clear lH);(try clear KE);(try clear c5);(try clear c6)
           (try clear Be);(try clear Nl);(try clear p6);(try clear c9);(try clear p10);(try clear q10);(try clear acN);(try clear c11);(try clear pg);(try clear Dq);(try clear KF);(try clear c14)
           (try clear c17);(try clear c18);(try clear Bf);(try clear c19);(try clear Tg);(try clear c21);(try clear c23);(try clear OL);(try clear c27);(try clear c28);(try clear OJ);(try clear c31)
           (try clear c35);(try clear c36);(try clear c41);(try clear c46);(try clear c51);(try clear c56);(try clear wW);(try clear wV);(try clear wU);(try clear wT);(try clear wS);(try clear wR)
           (try clear wQ);(try clear wP);(try clear wO);(try clear wN);(try clear wK);(try clear wJ);(try clear Ic);(try clear Ib);(try clear Ia);(try clear H9);(try clear H8);(try clear H7)
           (try clear H6);(try clear H5);(try clear HZ);(try clear Hz);(try clear Hy);(try clear Hw);(try clear Hu);(try clear Ht);(try clear Hr);(try clear Hq);(try clear Ho);(try clear Hm)
           (try clear Hl);(try clear Hg);(try clear Hf);(try clear He);(try clear Hd);(try clear Ha);(try clear G9);(try clear G8);(try clear G7);(try clear G6);(try clear G5);(try clear GZ)
           (try clear GY);(try clear GX);(try clear GV);(try clear GU);(try clear GR);(try clear GQ);(try clear GN);(try clear GM);(try clear GL);(try clear GK);(try clear GJ);(try clear GI)
           (try clear GH);(try clear GG);(try clear GD);(try clear GC);(try clear GA);(try clear Gz);(try clear Gy);(try clear Gx);(try clear Gw);(try clear Gv);(try clear Gu);(try clear Gt)
           (try clear Gs);(try clear Gr);(try clear Gq);(try clear Gp);(try clear Gn);(try clear Gm);(try clear Gl);(try clear Gj);(try clear Gi);(try clear Gh);(try clear Gg);(try clear Gf)
           (try clear Gd);(try clear Gc);(try clear Gb);(try clear Ga);(try clear F9);(try clear F8);(try clear F7);(try clear F6);(try clear F5);(try clear F4);(try clear F3);(try clear FZ)
           (try clear FY);(try clear FX);(try clear FW);(try clear FV);(try clear qJ);(try clear qI);(try clear uN);(try clear uM);(try clear qH);(try clear qG);(try clear rO);(try clear uL)
           (try clear uK);(try clear uJ);(try clear yt);(try clear yo);(try clear wI);(try clear wH);(try clear wG);(try clear wF);(try clear wE);(try clear wD);(try clear wC);(try clear wB)
           (try clear wy);(try clear wo);(try clear vZ);(try clear vY);(try clear FU);(try clear FT);(try clear FR);(try clear FQ);(try clear FP);(try clear FO);(try clear FN);(try clear FM)
           (try clear FL);(try clear FJ);(try clear FI);(try clear FH);(try clear FE);(try clear FD);(try clear FC);(try clear FB);(try clear Fz);(try clear Fy);(try clear Fx);(try clear Fw)
           (try clear Fv);(try clear Fu);(try clear Fs);(try clear Fq);(try clear Fp);(try clear Fj);(try clear Fh);(try clear Fg);(try clear Ff);(try clear Fe);(try clear Fb);(try clear Fa)
           (try clear E9);(try clear E8);(try clear E5);(try clear EZ);(try clear EY);(try clear EX);(try clear EW);(try clear EU);(try clear ET);(try clear ES);(try clear ER);(try clear EP)
           (try clear EO);(try clear EN);(try clear EM);(try clear EL);(try clear EK);(try clear EJ);(try clear EI);(try clear EH);(try clear EF);(try clear EE);(try clear ED);(try clear EC)
           (try clear EB);(try clear EA);(try clear Ez);(try clear Ey);(try clear Ex);(try clear Ew);(try clear Eu);(try clear Et);(try clear Es);(try clear Er);(try clear Ep);(try clear Eo)
           (try clear En);(try clear Em);(try clear El);(try clear Ej);(try clear Ei);(try clear Eh);(try clear Eg);(try clear Ef);(try clear Ee);(try clear Ed);(try clear Ec);(try clear Eb)
           (try clear Ea);(try clear D9);(try clear qF);(try clear qE);(try clear uI);(try clear uH);(try clear qD);(try clear qC);(try clear rJ);(try clear uG);(try clear uF);(try clear uE)
           (try clear yn);(try clear ym);(try clear fq);(try clear fo);(try clear fe);(try clear eZ);(try clear eY);(try clear mQ);(try clear p2);(try clear mP)
           obtain⟨j6,rfl,HA,YK,az,HB⟩:=hrel
           cases gk with
           |zero=>exact absurd HA.out (by simp[ai.l1])
           |succ k4=>
            have H:=HA.out
            clear HA
            simp only[ai.l1] at H
            by_cases Ym:j6<(bA.length:Int)
            .rw[if_pos Ym] at H
             have Te:decide (j6<(bA.length:Int))=true:=decide_eq_true Ym
             clear Ym
             have H':=aa.mk H
             clear H
             have OE:wr.cell? ⟨aI,0,none⟩=some (.slice dC bA.length dB):=(ak az.out 0).trans rfl
             have OD:wr.cell? ⟨aI,1,none⟩=some (.int .i64 bz):=(ak az.out 1).trans rfl
             have OC:wr.cell? ⟨aI,2,none⟩=some (.slice fw aM.length dm):=(ak az.out 2).trans rfl
             have OB:wr.cell? ⟨aI,3,none⟩=some (.slice eT bC.length dH):=(ak az.out 3).trans rfl
             have OA:=ag az.out 0
             have Oz:=ag az.out 1
             have Oy:=ag az.out 2
             have Ox:=ag az.out 3
             go_wp2
             go_loopg [6,7] k4 (fun kq v6 v7 w'=>∃(yZ:Int) (mV:Int),v6= .int .i64 yZ/\v7= .int .i64 mV/\aa (ai.l2 kq j6 yZ mV bA bz aM bC=some r)/\aa (kq<=k4)/\aa (w'.heap[aI]?=some (.cells #[(.slice dC bA.length dB),.int .i64 bz,(.slice fw aM.length dm),(.slice eT bC.length dH)] 26 (0,0)))/\aa (Below w.heap.size w w'))
             case atStart=>exact⟨(0),(0),(by first|rfl|(simp;done)|(simp[*];done)),(by first|rfl|(simp;done)|(simp[*];done)),H',⟨Nat.le_refl _⟩,⟨by(with_reducible repeat(first|refine aX ?_ _|refine bB ?_|refine aQ ?_ _));exact az.out⟩,⟨by repeat(first|(with_reducible first|exact HB.out|apply ae|apply ah|apply au|refine aH ?_ dD.out)|exact HB.out)⟩⟩
             case round=>
              clear H'
              (try clear c1);(try clear p1);(try clear q1);(try clear hx1);(try clear c2);(try clear p2);(try clear c3);(try clear c4);(try clear lH);(try clear KE);(try clear c5);(try clear c6)
              (try clear Be);(try clear Nl);(try clear p6);(try clear c9);(try clear p10);(try clear q10);(try clear acN);(try clear c11);(try clear pg);(try clear Dq);(try clear KF);(try clear c14)
              (try clear c17);(try clear c18);(try clear Bf);(try clear c19);(try clear Tg);(try clear c21);(try clear c23);(try clear OL);(try clear c27);(try clear c28);(try clear OJ);(try clear c31)
              (try clear c35);(try clear c36);(try clear c41);(try clear c46);(try clear c51);(try clear c56);(try clear Ym);(try clear Te);(try clear wW);(try clear wV);(try clear wU);(try clear wT)
              (try clear wS);(try clear wR);(try clear wQ);(try clear wP);(try clear wO);(try clear wN);(try clear wK);(try clear wJ);(try clear Ic);(try clear Ib);(try clear Ia);(try clear H9)
              (try clear H8);(try clear H7);(try clear H6);(try clear H5);(try clear HZ);(try clear Hz);(try clear Hy);(try clear Hw);(try clear Hu);(try clear Ht);(try clear Hr);(try clear Hq)
              (try clear Ho);(try clear Hm);(try clear Hl);(try clear Hg);(try clear Hf);(try clear He);(try clear Hd);(try clear Ha);(try clear G9);(try clear G8);(try clear G7);(try clear G6)
              (try clear G5);(try clear GZ);(try clear GY);(try clear GX);(try clear GV);(try clear GU);(try clear GR);(try clear GQ);(try clear GN);(try clear GM);(try clear GL);(try clear GK)
              (try clear GJ);(try clear GI);(try clear GH);(try clear GG);(try clear GD);(try clear GC);(try clear GA);(try clear Gz);(try clear Gy);(try clear Gx);(try clear Gw);(try clear Gv)
              (try clear Gu);(try clear Gt);(try clear Gs);(try clear Gr);(try clear Gq);(try clear Gp);(try clear Gn);(try clear Gm);(try clear Gl);(try clear Gj);(try clear Gi);(try clear Gh)
              (try clear Gg);(try clear Gf);(try clear Gd);(try clear Gc);(try clear Gb);(try clear Ga);(try clear F9);(try clear F8);(try clear F7);(try clear F6);(try clear F5);(try clear F4)
              (try clear F3);(try clear FZ);(try clear FY);(try clear FX);(try clear FW);(try clear FV);(try clear qJ);(try clear qI);(try clear uN);(try clear uM);(try clear OE);(try clear OD)
              (try clear OC);(try clear OB);(try clear qH);(try clear qG);(try clear rO);(try clear uL);(try clear uK);(try clear uJ);(try clear yt);(try clear yo);(try clear wI);(try clear wH)
              (try clear wG);(try clear wF);(try clear wE);(try clear wD);(try clear wC);(try clear wB);(try clear wy);(try clear wo);(try clear vZ);(try clear vY);(try clear FU);(try clear FT)
              (try clear FR);(try clear FQ);(try clear FP);(try clear FO);(try clear FN);(try clear FM);(try clear FL);(try clear FJ);(try clear FI);(try clear FH);(try clear FE);(try clear FD)
              (try clear FC);(try clear FB);(try clear Fz);(try clear Fy);(try clear Fx);(try clear Fw);(try clear Fv);(try clear Fu);(try clear Fs);(try clear Fq);(try clear Fp);(try clear Fj)
              (try clear Fh);(try clear Fg);(try clear Ff);(try clear Fe);(try clear Fb);(try clear Fa);(try clear E9);(try clear E8);(try clear E5);(try clear EZ);(try clear EY);(try clear EX)
              (try clear EW);(try clear EU);(try clear ET);(try clear ES);(try clear ER);(try clear EP);(try clear EO);(try clear EN);(try clear EM);(try clear EL);(try clear EK);(try clear EJ)
              (try clear EI);(try clear EH);(try clear EF);(try clear EE);(try clear ED);(try clear EC);(try clear EB);(try clear EA);(try clear Ez);(try clear Ey);(try clear Ex);(try clear Ew)
              (try clear Eu);(try clear Et);(try clear Es);(try clear Er);(try clear Ep);(try clear Eo);(try clear En);(try clear Em);(try clear El);(try clear Ej);(try clear Ei);(try clear Eh)
              (try clear Eg);(try clear Ef);(try clear Ee);(try clear Ed);(try clear Ec);(try clear Eb);(try clear Ea);(try clear D9);(try clear qF);(try clear qE);(try clear uI);(try clear uH)
              (try clear OA);(try clear Oz);(try clear Oy);(try clear Ox);(try clear qD);(try clear qC);(try clear rJ);(try clear uG);(try clear uF);(try clear uE);(try clear yn);(try clear ym)
              (try clear fq);(try clear fo);(try clear fe);(try clear eZ);(try clear eY);(try clear p1);(try clear p10);(try clear mQ);(try clear p2);(try clear p6);(try clear q1);(try clear q10)
              (try clear mP)
              obtain⟨yZ,mV,rfl,rfl,HA,NT,az,HB⟩:=hrel
              cases gk with
              |zero=>exact absurd HA.out (by simp[ai.l2])
              |succ k5=>
               have H:=HA.out
               clear HA
               simp only[ai.l2] at H
               by_cases c62:mV<(aM.length:Int)
               .rw[if_pos c62] at H
                have Yl:decide (mV<(aM.length:Int))=true:=decide_eq_true c62
                clear c62
                by_cases c63:0<=mV
                .rw[if_pos c63] at H
                 have aet:decide (0<=mV)=true:=decide_eq_true c63
                 clear c63
                 by_cases c64:((bf aM mV).f0)=j6
                 .rw[if_pos c64] at H
                  have Yk:(((bf aM mV).f0)==j6)=true:=beq_iff_eq.mpr c64
                  have Yj:(((bf aM mV).f0) !=j6)=false:=bne_eq_false_iff_eq.mpr c64
                  clear c64
                  have H':=aa.mk H
                  clear H
                  have WI:wr.cell? ⟨aI,0,none⟩=some (.slice dC bA.length dB):=(ak az.out 0).trans rfl
                  have WH:wr.cell? ⟨aI,1,none⟩=some (.int .i64 bz):=(ak az.out 1).trans rfl
                  have WG:wr.cell? ⟨aI,2,none⟩=some (.slice fw aM.length dm):=(ak az.out 2).trans rfl
                  have WE:wr.cell? ⟨aI,3,none⟩=some (.slice eT bC.length dH):=(ak az.out 3).trans rfl
                  have V7:=ag az.out 0
                  have V6:=ag az.out 1
                  have V5:=ag az.out 2
                  have V4:=ag az.out 3
                  have JF:0<=(mV:Int):=of_decide_eq_true (by first|(with_reducible assumption)|assumption)
                  have JA:mV<(aM.length:Int):=of_decide_eq_true (by first|(with_reducible assumption)|assumption)
                  obtain⟨Yu,aaL,o6,o5,oZ,oW,oV⟩:=ou rY.out mV JF JA
                  cases aaL
                  replace o6:=(HB.out.cell (World.block_lt_of_cell? w _ o6)).trans o6
                  replace o5:=(HB.out.cell (World.block_lt_of_cell? w _ o5)).trans o5
                  replace oZ:=(HB.out.cell (World.block_lt_of_cell? w _ oZ)).trans oZ
                  replace oW:=(HB.out.cell (World.block_lt_of_cell? w _ oW)).trans oW
                  replace oV:=(HB.out.cell (World.block_lt_of_cell? w _ oV)).trans oV
                  replace JF:=eq_true JF
                  replace JA:=eq_true JA
                  have U4:0<=(mV:Int):=of_decide_eq_true (by first|(with_reducible assumption)|assumption)
                  have U2:mV<(aM.length:Int):=of_decide_eq_true (by first|(with_reducible assumption)|assumption)
                  obtain⟨aeO,akq,zy,zx,zw,zu,zt⟩:=ou rY.out mV U4 U2
                  obtain rfl:Yu=aeO:=(by injection akq)
                  replace zy:=(HB.out.cell (World.block_lt_of_cell? w _ zy)).trans zy
                  replace zx:=(HB.out.cell (World.block_lt_of_cell? w _ zx)).trans zx
                  replace zw:=(HB.out.cell (World.block_lt_of_cell? w _ zw)).trans zw
                  replace zu:=(HB.out.cell (World.block_lt_of_cell? w _ zu)).trans zu
                  replace zt:=(HB.out.cell (World.block_lt_of_cell? w _ zt)).trans zt
                  replace U4:=eq_true U4
                  replace U2:=eq_true U2
                  go_wp2
                  go_roundg k5
                  case measure=>have:=QM.out;have:=UE.out;have:=QL.out;have:=YK.out;have:=NT.out;omega
                  case rel=>exact⟨(wrap64 (yZ+((bf aM mV).f2))),(wrap64 (mV+1)),(by first|rfl|(simp;done)|(simp[*];done)),(by first|rfl|(simp;done)|(simp[*];done)),H',⟨by have:=QM.out;have:=UE.out;have:=QL.out;have:=YK.out;have:=NT.out;omega⟩,⟨by(with_reducible repeat(first|refine aX ?_ _|refine bB ?_|refine aQ ?_ _));exact az.out⟩,⟨by repeat(first|(with_reducible first|exact HB.out|apply ae|apply ah|apply au|refine aH ?_ dD.out)|exact HB.out)⟩⟩
                 .rw[if_neg c64] at H
                  have Yk:(((bf aM mV).f0)==j6)=false:=beq_eq_false_iff_ne.mpr c64
                  have Yj:(((bf aM mV).f0) !=j6)=true:=bne_iff_ne.mpr c64
                  have H':=aa.mk H
                  clear H
                  have WC:wr.cell? ⟨aI,0,none⟩=some (.slice dC bA.length dB):=(ak az.out 0).trans rfl
                  have WB:wr.cell? ⟨aI,1,none⟩=some (.int .i64 bz):=(ak az.out 1).trans rfl
                  have WA:wr.cell? ⟨aI,2,none⟩=some (.slice fw aM.length dm):=(ak az.out 2).trans rfl
                  have Wz:wr.cell? ⟨aI,3,none⟩=some (.slice eT bC.length dH):=(ak az.out 3).trans rfl
                  have V3:=ag az.out 0
                  have VZ:=ag az.out 1
                  have VY:=ag az.out 2
                  have VX:=ag az.out 3
                  have JF:0<=(mV:Int):=of_decide_eq_true (by first|(with_reducible assumption)|assumption)
                  have JA:mV<(aM.length:Int):=of_decide_eq_true (by first|(with_reducible assumption)|assumption)
                  obtain⟨Yu,aaL,o6,o5,oZ,oW,oV⟩:=ou rY.out mV JF JA
                  cases aaL
                  replace o6:=(HB.out.cell (World.block_lt_of_cell? w _ o6)).trans o6
                  replace o5:=(HB.out.cell (World.block_lt_of_cell? w _ o5)).trans o5
                  replace oZ:=(HB.out.cell (World.block_lt_of_cell? w _ oZ)).trans oZ
                  replace oW:=(HB.out.cell (World.block_lt_of_cell? w _ oW)).trans oW
                  replace oV:=(HB.out.cell (World.block_lt_of_cell? w _ oV)).trans oV
                  replace JF:=eq_true JF
                  replace JA:=eq_true JA
                  go_wp2
                  go_roundg k5
                  case measure=>have:=QM.out;have:=UE.out;have:=QL.out;have:=YK.out;have:=NT.out;omega
                  case rel=>exact⟨(yZ),(wrap64 (mV+1)),(by first|rfl|(simp;done)|(simp[*];done)),(by first|rfl|(simp;done)|(simp[*];done)),H',⟨by have:=QM.out;have:=UE.out;have:=QL.out;have:=YK.out;have:=NT.out;omega⟩,⟨by(with_reducible repeat(first|refine aX ?_ _|refine bB ?_|refine aQ ?_ _));exact az.out⟩,⟨by repeat(first|(with_reducible first|exact HB.out|apply ae|apply ah|apply au|refine aH ?_ dD.out)|exact HB.out)⟩⟩
                .rw[if_neg c63] at H
                 exact absurd H (by simp)
               .rw[if_neg c62] at H
                have Yl:decide (mV<(aM.length:Int))=false:=decide_eq_false c62
                clear c62
                by_cases c67:0<=j6
                .rw[if_pos c67] at H
                 have aer:decide (0<=j6)=true:=decide_eq_true c67
                 clear c67
                 by_cases c68:j6<(bA.length:Int)
                 .rw[if_pos c68] at H
                  have aep:decide (j6<(bA.length:Int))=true:=decide_eq_true c68
                  clear c68
                  replace H:=Option.bind_eq_some_iff.mp H
                  obtain⟨t113,af0,H⟩:=H
                  replace H:(if t113=true then(if yZ=0 then(some 1) else(ai.l1 k5 (wrap64 (j6+1)) bA bz aM bC)) else(some 1))=some r:=H
                  have A69:=aa.mk af0
                  clear af0
                  by_cases c70:t113=true
                  .subst c70
                   replace H:(if yZ=0 then(some 1) else(ai.l1 k5 (wrap64 (j6+1)) bA bz aM bC))=some r:=by rw[if_pos rfl] at H;exact H
                   by_cases Yi:yZ=0
                   .rw[if_pos Yi] at H
                    have Yh:(yZ==0)=true:=beq_iff_eq.mpr Yi
                    have Yg:(yZ !=0)=false:=bne_eq_false_iff_eq.mpr Yi
                    clear Yi
                    obtain rfl:=Option.some.inj H
                    have Wy:wr.cell? ⟨aI,0,none⟩=some (.slice dC bA.length dB):=(ak az.out 0).trans rfl
                    have Wx:wr.cell? ⟨aI,1,none⟩=some (.int .i64 bz):=(ak az.out 1).trans rfl
                    have Ww:wr.cell? ⟨aI,2,none⟩=some (.slice fw aM.length dm):=(ak az.out 2).trans rfl
                    have Wv:wr.cell? ⟨aI,3,none⟩=some (.slice eT bC.length dH):=(ak az.out 3).trans rfl
                    have VW:=ag az.out 0
                    have VV:=ag az.out 1
                    have VU:=ag az.out 2
                    have VT:=ag az.out 3
                    have y9:0<=(j6:Int):=of_decide_eq_true (by first|(with_reducible assumption)|assumption)
                    have y8:j6<(bA.length:Int):=of_decide_eq_true (by first|(with_reducible assumption)|assumption)
                    obtain⟨Yt,SC,kH⟩:=Kd.dz KY.out j6 y9 y8
                    cases SC
                    replace kH:=(HB.out.cell (World.block_lt_of_cell? w _ kH)).trans kH
                    replace y9:=eq_true y9
                    replace y8:=eq_true y8
                    go_wp2_with (first|((with_reducible refine bZ (f:=35) rfl ?_);refine iV (some 128) rfl rfl Tryz.func35 (by kernel_rfl) rfl #[.int .i64 (rd bA j6),.int .i64 0,.int .i64 10000] rfl (by(try simp only[List.map_toArray,List.map_cons,List.map_nil]);first|done|rfl|(simp only[List.length_drop,List.length_take];rfl)) ?_;(with_reducible refine(aD.calls (rd bA j6) 0 10000 true _ A69.out).mono ?_);rintro e w' ⟨rfl,⟨nd,rfl⟩⟩;refine⟨_,rfl,?_⟩))
                    go_ret
                    exact⟨by first|rfl|(simp[aW,aV]<;>rfl)|(simp[*,aW,aV]<;>rfl),by repeat(first|(with_reducible first|exact HB.out|apply ae|apply ah|apply au|refine aH ?_ dD.out)|exact HB.out)⟩
                   .rw[if_neg Yi] at H
                    have Yh:(yZ==0)=false:=beq_eq_false_iff_ne.mpr Yi
                    have Yg:(yZ !=0)=true:=bne_iff_ne.mpr Yi
                    have H':=aa.mk H
                    clear H
                    have Wu:wr.cell? ⟨aI,0,none⟩=some (.slice dC bA.length dB):=(ak az.out 0).trans rfl
                    have Ws:wr.cell? ⟨aI,1,none⟩=some (.int .i64 bz):=(ak az.out 1).trans rfl
                    have Wq:wr.cell? ⟨aI,2,none⟩=some (.slice fw aM.length dm):=(ak az.out 2).trans rfl
                    have Wp:wr.cell? ⟨aI,3,none⟩=some (.slice eT bC.length dH):=(ak az.out 3).trans rfl
                    have VS:=ag az.out 0
                    have VR:=ag az.out 1
                    have VQ:=ag az.out 2
                    have VP:=ag az.out 3
                    have y9:0<=(j6:Int):=of_decide_eq_true (by first|(with_reducible assumption)|assumption)
                    have y8:j6<(bA.length:Int):=of_decide_eq_true (by first|(with_reducible assumption)|assumption)
                    obtain⟨Yt,SC,kH⟩:=Kd.dz KY.out j6 y9 y8
                    cases SC
                    replace kH:=(HB.out.cell (World.block_lt_of_cell? w _ kH)).trans kH
                    replace y9:=eq_true y9
                    replace y8:=eq_true y8
                    go_wp2_with (first|((with_reducible refine bZ (f:=35) rfl ?_);refine iV (some 128) rfl rfl Tryz.func35 (by kernel_rfl) rfl #[.int .i64 (rd bA j6),.int .i64 0,.int .i64 10000] rfl (by(try simp only[List.map_toArray,List.map_cons,List.map_nil]);first|done|rfl|(simp only[List.length_drop,List.length_take];rfl)) ?_;(with_reducible refine(aD.calls (rd bA j6) 0 10000 true _ A69.out).mono ?_);rintro e w' ⟨rfl,⟨nd,rfl⟩⟩;refine⟨_,rfl,?_⟩))
                    go_roundg k5
                    case measure=>have:=QM.out;have:=UE.out;have:=QL.out;have:=YK.out;have:=NT.out;omega
                    case rel=>exact⟨(wrap64 (j6+1)),(by first|rfl|(simp;done)|(simp[*];done)),H',⟨by have:=QM.out;have:=UE.out;have:=QL.out;have:=YK.out;have:=NT.out;omega⟩,⟨by(with_reducible repeat(first|refine aX ?_ _|refine bB ?_|refine aQ ?_ _));exact az.out⟩,⟨by repeat(first|(with_reducible first|exact HB.out|apply ae|apply ah|apply au|refine aH ?_ dD.out)|exact HB.out)⟩⟩
                  .replace c70:=Bool.eq_false_iff.mpr c70
                   subst c70
                   replace H:(some 1)=some r:=by rw[if_neg (show ¬(false=true) by decide)] at H;exact H
                   obtain rfl:=Option.some.inj H
                   have Wo:wr.cell? ⟨aI,0,none⟩=some (.slice dC bA.length dB):=(ak az.out 0).trans rfl
                   have Wn:wr.cell? ⟨aI,1,none⟩=some (.int .i64 bz):=(ak az.out 1).trans rfl
                   have Wm:wr.cell? ⟨aI,2,none⟩=some (.slice fw aM.length dm):=(ak az.out 2).trans rfl
                   have Wl:wr.cell? ⟨aI,3,none⟩=some (.slice eT bC.length dH):=(ak az.out 3).trans rfl
                   have VO:=ag az.out 0
                   have VN:=ag az.out 1
                   have VM:=ag az.out 2
                   have VL:=ag az.out 3
                   have y9:0<=(j6:Int):=of_decide_eq_true (by first|(with_reducible assumption)|assumption)
                   have y8:j6<(bA.length:Int):=of_decide_eq_true (by first|(with_reducible assumption)|assumption)
                   obtain⟨Yt,SC,kH⟩:=Kd.dz KY.out j6 y9 y8
                   cases SC
                   replace kH:=(HB.out.cell (World.block_lt_of_cell? w _ kH)).trans kH
                   replace y9:=eq_true y9
                   replace y8:=eq_true y8
                   go_wp2_with (first|((with_reducible refine bZ (f:=35) rfl ?_);refine iV (some 128) rfl rfl Tryz.func35 (by kernel_rfl) rfl #[.int .i64 (rd bA j6),.int .i64 0,.int .i64 10000] rfl (by(try simp only[List.map_toArray,List.map_cons,List.map_nil]);first|done|rfl|(simp only[List.length_drop,List.length_take];rfl)) ?_;(with_reducible refine(aD.calls (rd bA j6) 0 10000 false _ A69.out).mono ?_);rintro e w' ⟨rfl,⟨nd,rfl⟩⟩;refine⟨_,rfl,?_⟩))
                   go_ret
                   exact⟨by first|rfl|(simp[aW,aV]<;>rfl)|(simp[*,aW,aV]<;>rfl),by repeat(first|(with_reducible first|exact HB.out|apply ae|apply ah|apply au|refine aH ?_ dD.out)|exact HB.out)⟩
                 .rw[if_neg c68] at H
                  exact absurd H (by simp)
                .rw[if_neg c67] at H
                 exact absurd H (by simp)
            .rw[if_neg Ym] at H
             have Te:decide (j6<(bA.length:Int))=false:=decide_eq_false Ym
             clear Ym
             have H':=aa.mk H
             clear H
             have Wj:wr.cell? ⟨aI,0,none⟩=some (.slice dC bA.length dB):=(ak az.out 0).trans rfl
             have Wi:wr.cell? ⟨aI,1,none⟩=some (.int .i64 bz):=(ak az.out 1).trans rfl
             have Wh:wr.cell? ⟨aI,2,none⟩=some (.slice fw aM.length dm):=(ak az.out 2).trans rfl
             have We:wr.cell? ⟨aI,3,none⟩=some (.slice eT bC.length dH):=(ak az.out 3).trans rfl
             have VK:=ag az.out 0
             have VJ:=ag az.out 1
             have VI:=ag az.out 2
             have VH:=ag az.out 3
             go_wp2
             go_loopg [8] k4 (fun kq v8 w'=>∃(gH:Int),v8= .int .i64 gH/\aa (ai.l3 kq gH bA bz aM bC=some r)/\aa (kq<=k4)/\aa (w'.heap[aI]?=some (.cells #[(.slice dC bA.length dB),.int .i64 bz,(.slice fw aM.length dm),(.slice eT bC.length dH)] 26 (0,0)))/\aa (Below w.heap.size w w'))
             case atStart=>exact⟨(0),(by first|rfl|(simp;done)|(simp[*];done)),H',⟨Nat.le_refl _⟩,⟨by(with_reducible repeat(first|refine aX ?_ _|refine bB ?_|refine aQ ?_ _));exact az.out⟩,⟨by repeat(first|(with_reducible first|exact HB.out|apply ae|apply ah|apply au|refine aH ?_ dD.out)|exact HB.out)⟩⟩
             case round=>
              clear H'
              (try clear c1);(try clear p1);(try clear q1);(try clear hx1);(try clear c2);(try clear p2);(try clear c3);(try clear c4);(try clear lH);(try clear KE);(try clear c5);(try clear c6)
              (try clear Be);(try clear Nl);(try clear p6);(try clear c7);(try clear c9);(try clear p10);(try clear q10);(try clear acN);(try clear c11);(try clear pg);(try clear Dq);(try clear KF)
              (try clear p11);(try clear q11);(try clear apF);(try clear c14);(try clear c17);(try clear c18);(try clear Bf);(try clear c19);(try clear Tg);(try clear c21);(try clear c23);(try clear OL)
              (try clear c27);(try clear c28);(try clear OJ);(try clear c31);(try clear c35);(try clear c36);(try clear c41);(try clear c46);(try clear c51);(try clear c56);(try clear Ym);(try clear Te)
              (try clear c62);(try clear Yl);(try clear c63);(try clear aet);(try clear c64);(try clear Yk);(try clear Yj);(try clear p64);(try clear c67);(try clear aer);(try clear c68);(try clear aep)
              (try clear c70);(try clear Yi);(try clear Yh);(try clear Yg);(try clear wW);(try clear wV);(try clear wU);(try clear wT);(try clear wS);(try clear wR);(try clear wQ);(try clear wP)
              (try clear wO);(try clear wN);(try clear wK);(try clear wJ);(try clear Ic);(try clear Ib);(try clear Ia);(try clear H9);(try clear H8);(try clear H7);(try clear H6);(try clear H5)
              (try clear HZ);(try clear Hz);(try clear Hy);(try clear Hw);(try clear Hu);(try clear Ht);(try clear Hr);(try clear Hq);(try clear Ho);(try clear Hm);(try clear Hl);(try clear Hg)
              (try clear Hf);(try clear He);(try clear Hd);(try clear Ha);(try clear G9);(try clear G8);(try clear G7);(try clear G6);(try clear G5);(try clear GZ);(try clear GY);(try clear GX)
              (try clear GV);(try clear GU);(try clear GR);(try clear GQ);(try clear GN);(try clear GM);(try clear GL);(try clear GK);(try clear GJ);(try clear GI);(try clear GH);(try clear GG)
              (try clear GD);(try clear GC);(try clear GA);(try clear Gz);(try clear Gy);(try clear Gx);(try clear Gw);(try clear Gv);(try clear Gu);(try clear Gt);(try clear Gs);(try clear Gr)
              (try clear Gq);(try clear Gp);(try clear Gn);(try clear Gm);(try clear Gl);(try clear Gj);(try clear Gi);(try clear Gh);(try clear Gg);(try clear Gf);(try clear Gd);(try clear Gc)
              (try clear Gb);(try clear Ga);(try clear F9);(try clear F8);(try clear F7);(try clear F6);(try clear F5);(try clear F4);(try clear F3);(try clear FZ);(try clear FY);(try clear FX)
              (try clear FW);(try clear FV);(try clear qJ);(try clear qI);(try clear uN);(try clear uM);(try clear OE);(try clear OD);(try clear OC);(try clear OB);(try clear WI);(try clear WH)
              (try clear WG);(try clear WE);(try clear WC);(try clear WB);(try clear WA);(try clear Wz);(try clear Wy);(try clear Wx);(try clear Ww);(try clear Wv);(try clear Wu);(try clear Ws)
              (try clear Wq);(try clear Wp);(try clear Wo);(try clear Wn);(try clear Wm);(try clear Wl);(try clear Wj);(try clear Wi);(try clear Wh);(try clear We);(try clear qH);(try clear qG)
              (try clear rO);(try clear uL);(try clear uK);(try clear uJ);(try clear yt);(try clear yo);(try clear wI);(try clear wH);(try clear wG);(try clear wF);(try clear wE);(try clear wD)
              (try clear wC);(try clear wB);(try clear wy);(try clear wo);(try clear vZ);(try clear vY);(try clear FU);(try clear FT);(try clear FR);(try clear FQ);(try clear FP);(try clear FO)
              (try clear FN);(try clear FM);(try clear FL);(try clear FJ);(try clear FI);(try clear FH);(try clear FE);(try clear FD);(try clear FC);(try clear FB);(try clear Fz);(try clear Fy)
              (try clear Fx);(try clear Fw);(try clear Fv);(try clear Fu);(try clear Fs);(try clear Fq);(try clear Fp);(try clear Fj);(try clear Fh);(try clear Fg);(try clear Ff);(try clear Fe)
              (try clear Fb);(try clear Fa);(try clear E9);(try clear E8);(try clear E5);(try clear EZ);(try clear EY);(try clear EX);(try clear EW);(try clear EU);(try clear ET);(try clear ES)
              (try clear ER);(try clear EP);(try clear EO);(try clear EN);(try clear EM);(try clear EL);(try clear EK);(try clear EJ);(try clear EI);(try clear EH);(try clear EF);(try clear EE)
              (try clear ED);(try clear EC);(try clear EB);(try clear EA);(try clear Ez);(try clear Ey);(try clear Ex);(try clear Ew);(try clear Eu);(try clear Et);(try clear Es);(try clear Er)
              (try clear Ep);(try clear Eo);(try clear En);(try clear Em);(try clear El);(try clear Ej);(try clear Ei);(try clear Eh);(try clear Eg);(try clear Ef);(try clear Ee);(try clear Ed)
              (try clear Ec);(try clear Eb);(try clear Ea);(try clear D9);(try clear qF);(try clear qE);(try clear uI);(try clear uH);(try clear OA);(try clear Oz);(try clear Oy);(try clear Ox)
              (try clear V7);(try clear V6);(try clear V5);(try clear V4);(try clear V3);(try clear VZ);(try clear VY);(try clear VX);(try clear VW);(try clear VV);(try clear VU);(try clear VT)
              (try clear VS);(try clear VR);(try clear VQ);(try clear VP);(try clear VO);(try clear VN);(try clear VM);(try clear VL);(try clear VK);(try clear VJ);(try clear VI);(try clear VH)
              (try clear qD);(try clear qC);(try clear rJ);(try clear uG);(try clear uF);(try clear uE);(try clear yn);(try clear ym);(try clear fq);(try clear fo);(try clear fe);(try clear eZ)
              (try clear eY);(try clear o6);(try clear o5);(try clear oZ);(try clear oW);(try clear oV);(try clear zy);(try clear zx);(try clear zw);(try clear zu);(try clear zt);(try clear kH)
              (try clear p1);(try clear p10);(try clear mQ);(try clear JF);(try clear U4);(try clear y9);(try clear p2);(try clear p6);(try clear q1);(try clear q10);(try clear mP);(try clear JA)
              (try clear U2);(try clear y8)
              obtain⟨gH,rfl,HA,NT,az,HB⟩:=hrel
              cases gk with
              |zero=>exact absurd HA.out (by simp[ai.l3])
              |succ k5=>
               have H:=HA.out
               clear HA
               simp only[ai.l3] at H
               by_cases c76:gH<(bC.length:Int)
               .rw[if_pos c76] at H
                have aeo:decide (gH<(bC.length:Int))=true:=decide_eq_true c76
                clear c76
                by_cases c77:0<=gH
                .rw[if_pos c77] at H
                 have anp:decide (0<=gH)=true:=decide_eq_true c77
                 clear c77
                 replace H:=Option.bind_eq_some_iff.mp H
                 obtain⟨t116,afZ,H⟩:=H
                 replace H:(if t116=true then((aD.f ((aZ bC gH).f1) 0 (wrap64 ((aM.length:Int)-1))).bind fun t117=>(if t117=true then(if((aZ bC gH).f0)=((aZ bC gH).f1) then(some 1) else(ai.l3 k5 (wrap64 (gH+1)) bA bz aM bC)) else(some 1))) else(some 1))=some r:=H
                 have A78:=aa.mk afZ
                 clear afZ
                 by_cases c79:t116=true
                 .subst c79
                  replace H:((aD.f ((aZ bC gH).f1) 0 (wrap64 ((aM.length:Int)-1))).bind fun t117=>(if t117=true then(if((aZ bC gH).f0)=((aZ bC gH).f1) then(some 1) else(ai.l3 k5 (wrap64 (gH+1)) bA bz aM bC)) else(some 1)))=some r:=by rw[if_pos rfl] at H;exact H
                  replace H:=Option.bind_eq_some_iff.mp H
                  obtain⟨t117,afY,H⟩:=H
                  replace H:(if t117=true then(if((aZ bC gH).f0)=((aZ bC gH).f1) then(some 1) else(ai.l3 k5 (wrap64 (gH+1)) bA bz aM bC)) else(some 1))=some r:=H
                  have A80:=aa.mk afY
                  clear afY
                  by_cases c81:t117=true
                  .subst c81
                   replace H:(if((aZ bC gH).f0)=((aZ bC gH).f1) then(some 1) else(ai.l3 k5 (wrap64 (gH+1)) bA bz aM bC))=some r:=by rw[if_pos rfl] at H;exact H
                   by_cases c82:((aZ bC gH).f0)=((aZ bC gH).f1)
                   .rw[if_pos c82] at H
                    have aen:(((aZ bC gH).f0)==((aZ bC gH).f1))=true:=beq_iff_eq.mpr c82
                    have aem:(((aZ bC gH).f0) !=((aZ bC gH).f1))=false:=bne_eq_false_iff_eq.mpr c82
                    clear c82
                    obtain rfl:=Option.some.inj H
                    have ahu:wr.cell? ⟨aI,0,none⟩=some (.slice dC bA.length dB):=(ak az.out 0).trans rfl
                    have aht:wr.cell? ⟨aI,1,none⟩=some (.int .i64 bz):=(ak az.out 1).trans rfl
                    have ahs:wr.cell? ⟨aI,2,none⟩=some (.slice fw aM.length dm):=(ak az.out 2).trans rfl
                    have ahr:wr.cell? ⟨aI,3,none⟩=some (.slice eT bC.length dH):=(ak az.out 3).trans rfl
                    have agR:=ag az.out 0
                    have agQ:=ag az.out 1
                    have agP:=ag az.out 2
                    have agO:=ag az.out 3
                    have uu:0<=(gH:Int):=of_decide_eq_true (by first|(with_reducible assumption)|assumption)
                    have uq:gH<(bC.length:Int):=of_decide_eq_true (by first|(with_reducible assumption)|assumption)
                    obtain⟨lK,M9,jy,jv⟩:=yB KV.out gH uu uq
                    cases M9
                    replace jy:=(HB.out.cell (World.block_lt_of_cell? w _ jy)).trans jy
                    replace jv:=(HB.out.cell (World.block_lt_of_cell? w _ jv)).trans jv
                    replace uu:=eq_true uu
                    replace uq:=eq_true uq
                    go_wp2_with (first|((with_reducible refine bY (N:=9) rfl ?_);(try(refine eQ (by rfl) ?_;dsimp only));refine cZ ?hg (N:=9) ?hd (cs:=#[.int .i64 0,.int .i64 0]) (t:=38) ?hr ?_;(case hd=>rfl);(case hg=>rfl);(case hr=>first|(go_simp;done)|(go_simp;rfl));intro jh hg w84 dM hb;have iF:=aa.mk (gZ (g:=aI) (o:= .cells #[.slice dC bA.length dB,.int .i64 bz,.slice fw aM.length dm,.slice (some lK) bC.length dH] 26 (0,0)) (by(with_reducible repeat(first|refine aX ?_ _|refine bB ?_|refine aQ ?_ _));exact az.out) hb);have iE:=aa.mk (bT (by repeat(first|(with_reducible first|exact HB.out|apply ae|apply ah|apply au|refine aH ?_ dD.out)|exact HB.out)) hb);have jg:=aa.mk (dM);have jH:=aa.mk ((by rw[hg];exact(aT (by repeat(first|(with_reducible first|exact HB.out|apply ae|apply ah|apply au|refine aH ?_ dD.out)|exact HB.out))):w.heap.size<=jh));have tF:=aa.mk ((by rw[hg];exact(aT (by repeat(first|(with_reducible first|exact HB.out|apply ae|apply ah|apply au|refine aH ?_ dD.out)|exact HB.out))):w.heap.size<=jh));have tC:=aa.mk ((by rw[hg];exact Nat.ne_of_lt (fQ (g:=aI) (o:= .cells #[.slice dC bA.length dB,.int .i64 bz,.slice fw aM.length dm,.slice (some lK) bC.length dH] 26 (0,0)) (by(with_reducible repeat(first|refine aX ?_ _|refine bB ?_|refine aQ ?_ _));exact az.out)):aI≠jh));have tu:=aa.mk ((by rw[hg];exact Nat.ne_of_gt (fQ (g:=aI) (o:= .cells #[.slice dC bA.length dB,.int .i64 bz,.slice fw aM.length dm,.slice (some lK) bC.length dH] 26 (0,0)) (by(with_reducible repeat(first|refine aX ?_ _|refine bB ?_|refine aQ ?_ _));exact az.out)):jh≠aI));clear az;clear HB;have az:=iF;have HB:=iE;have lT:=jg;have Uf:=jH;have Bz:=tF;have kv:=tC;have mr:=tu;clear iF iE jg jH tF tC tu;clear hb dM hg;have amH:=mr.out;have amy:=kv.out;have ahq:w84.cell? ⟨jh,0,none⟩=some (.int .i64 0):=(ak lT.out 0).trans rfl;have ahp:w84.cell? ⟨jh,1,none⟩=some (.int .i64 0):=(ak lT.out 1).trans rfl;have agN:=ag lT.out 0;have agM:=ag lT.out 1;have aho:w84.cell? ⟨aI,0,none⟩=some (.slice dC bA.length dB):=(ak az.out 0).trans rfl;have ahn:w84.cell? ⟨aI,1,none⟩=some (.int .i64 bz):=(ak az.out 1).trans rfl;have ahm:w84.cell? ⟨aI,2,none⟩=some (.slice fw aM.length dm):=(ak az.out 2).trans rfl;have ahl:w84.cell? ⟨aI,3,none⟩=some (.slice (some lK) bC.length dH):=(ak az.out 3).trans rfl;have agL:=ag az.out 0;have agK:=ag az.out 1;have agJ:=ag az.out 2;have agI:=ag az.out 3)|((with_reducible refine bZ (f:=35) rfl ?_);refine iV (some 152) rfl rfl Tryz.func35 (by kernel_rfl) rfl #[.int .i64 ((aZ bC gH).f0),.int .i64 0,.int .i64 (wrap64 ((aM.length:Int)-1))] rfl (by(try simp only[List.map_toArray,List.map_cons,List.map_nil]);first|done|rfl|(simp only[List.length_drop,List.length_take];rfl)) ?_;(with_reducible refine(aD.calls ((aZ bC gH).f0) 0 (wrap64 ((aM.length:Int)-1)) true _ A78.out).mono ?_);rintro e w' ⟨rfl,⟨nd,rfl⟩⟩;refine⟨_,rfl,?_⟩)|(go_at_call 35;(with_reducible refine(aD.calls ((aZ bC gH).f1) 0 (wrap64 ((aM.length:Int)-1)) true _ A80.out).mono ?_);rintro e w' ⟨rfl,⟨nd,rfl⟩⟩))
                    go_ret
                    exact⟨by first|rfl|(simp[aW,aV]<;>rfl)|(simp[*,aW,aV]<;>rfl),by repeat(first|(with_reducible first|exact HB.out|apply ae|apply ah|apply au|refine aH ?_ dD.out|refine aH ?_ Bz.out)|exact HB.out)⟩
                   .rw[if_neg c82] at H
                    have aen:(((aZ bC gH).f0)==((aZ bC gH).f1))=false:=beq_eq_false_iff_ne.mpr c82
                    have aem:(((aZ bC gH).f0) !=((aZ bC gH).f1))=true:=bne_iff_ne.mpr c82
                    have H':=aa.mk H
                    clear H
                    have ahk:wr.cell? ⟨aI,0,none⟩=some (.slice dC bA.length dB):=(ak az.out 0).trans rfl
                    have ahj:wr.cell? ⟨aI,1,none⟩=some (.int .i64 bz):=(ak az.out 1).trans rfl
                    have ahi:wr.cell? ⟨aI,2,none⟩=some (.slice fw aM.length dm):=(ak az.out 2).trans rfl
                    have ahh:wr.cell? ⟨aI,3,none⟩=some (.slice eT bC.length dH):=(ak az.out 3).trans rfl
                    have agH:=ag az.out 0
                    have agG:=ag az.out 1
                    have agF:=ag az.out 2
                    have agE:=ag az.out 3
                    have uu:0<=(gH:Int):=of_decide_eq_true (by first|(with_reducible assumption)|assumption)
                    have uq:gH<(bC.length:Int):=of_decide_eq_true (by first|(with_reducible assumption)|assumption)
                    obtain⟨lK,M9,jy,jv⟩:=yB KV.out gH uu uq
                    cases M9
                    replace jy:=(HB.out.cell (World.block_lt_of_cell? w _ jy)).trans jy
                    replace jv:=(HB.out.cell (World.block_lt_of_cell? w _ jv)).trans jv
                    replace uu:=eq_true uu
                    replace uq:=eq_true uq
                    go_wp2_with (first|((with_reducible refine bY (N:=9) rfl ?_);(try(refine eQ (by rfl) ?_;dsimp only));refine cZ ?hg (N:=9) ?hd (cs:=#[.int .i64 0,.int .i64 0]) (t:=38) ?hr ?_;(case hd=>rfl);(case hg=>rfl);(case hr=>first|(go_simp;done)|(go_simp;rfl));intro jh hg w89 dM hb;have iF:=aa.mk (gZ (g:=aI) (o:= .cells #[.slice dC bA.length dB,.int .i64 bz,.slice fw aM.length dm,.slice (some lK) bC.length dH] 26 (0,0)) (by(with_reducible repeat(first|refine aX ?_ _|refine bB ?_|refine aQ ?_ _));exact az.out) hb);have iE:=aa.mk (bT (by repeat(first|(with_reducible first|exact HB.out|apply ae|apply ah|apply au|refine aH ?_ dD.out)|exact HB.out)) hb);have jg:=aa.mk (dM);have jH:=aa.mk ((by rw[hg];exact(aT (by repeat(first|(with_reducible first|exact HB.out|apply ae|apply ah|apply au|refine aH ?_ dD.out)|exact HB.out))):w.heap.size<=jh));have tF:=aa.mk ((by rw[hg];exact(aT (by repeat(first|(with_reducible first|exact HB.out|apply ae|apply ah|apply au|refine aH ?_ dD.out)|exact HB.out))):w.heap.size<=jh));have tC:=aa.mk ((by rw[hg];exact Nat.ne_of_lt (fQ (g:=aI) (o:= .cells #[.slice dC bA.length dB,.int .i64 bz,.slice fw aM.length dm,.slice (some lK) bC.length dH] 26 (0,0)) (by(with_reducible repeat(first|refine aX ?_ _|refine bB ?_|refine aQ ?_ _));exact az.out)):aI≠jh));have tu:=aa.mk ((by rw[hg];exact Nat.ne_of_gt (fQ (g:=aI) (o:= .cells #[.slice dC bA.length dB,.int .i64 bz,.slice fw aM.length dm,.slice (some lK) bC.length dH] 26 (0,0)) (by(with_reducible repeat(first|refine aX ?_ _|refine bB ?_|refine aQ ?_ _));exact az.out)):jh≠aI));clear az;clear HB;have az:=iF;have HB:=iE;have lT:=jg;have Uf:=jH;have Bz:=tF;have kv:=tC;have mr:=tu;clear iF iE jg jH tF tC tu;clear hb dM hg;have amG:=mr.out;have amx:=kv.out;have ahg:w89.cell? ⟨jh,0,none⟩=some (.int .i64 0):=(ak lT.out 0).trans rfl;have ahf:w89.cell? ⟨jh,1,none⟩=some (.int .i64 0):=(ak lT.out 1).trans rfl;have agD:=ag lT.out 0;have agC:=ag lT.out 1;have ahe:w89.cell? ⟨aI,0,none⟩=some (.slice dC bA.length dB):=(ak az.out 0).trans rfl;have ahd:w89.cell? ⟨aI,1,none⟩=some (.int .i64 bz):=(ak az.out 1).trans rfl;have ahc:w89.cell? ⟨aI,2,none⟩=some (.slice fw aM.length dm):=(ak az.out 2).trans rfl;have ahb:w89.cell? ⟨aI,3,none⟩=some (.slice (some lK) bC.length dH):=(ak az.out 3).trans rfl;have agB:=ag az.out 0;have agA:=ag az.out 1;have agz:=ag az.out 2;have agy:=ag az.out 3)|((with_reducible refine bZ (f:=35) rfl ?_);refine iV (some 152) rfl rfl Tryz.func35 (by kernel_rfl) rfl #[.int .i64 ((aZ bC gH).f0),.int .i64 0,.int .i64 (wrap64 ((aM.length:Int)-1))] rfl (by(try simp only[List.map_toArray,List.map_cons,List.map_nil]);first|done|rfl|(simp only[List.length_drop,List.length_take];rfl)) ?_;(with_reducible refine(aD.calls ((aZ bC gH).f0) 0 (wrap64 ((aM.length:Int)-1)) true _ A78.out).mono ?_);rintro e w' ⟨rfl,⟨nd,rfl⟩⟩;refine⟨_,rfl,?_⟩)|(go_at_call 35;(with_reducible refine(aD.calls ((aZ bC gH).f1) 0 (wrap64 ((aM.length:Int)-1)) true _ A80.out).mono ?_);rintro e w' ⟨rfl,⟨nd,rfl⟩⟩))
                    go_roundg k5
                    case measure=>have:=QM.out;have:=UE.out;have:=QL.out;have:=YK.out;have:=NT.out;omega
                    case rel=>exact⟨(wrap64 (gH+1)),(by first|rfl|(simp;done)|(simp[*];done)),H',⟨by have:=QM.out;have:=UE.out;have:=QL.out;have:=YK.out;have:=NT.out;omega⟩,⟨by(with_reducible repeat(first|refine aX ?_ _|refine bB ?_|refine aQ ?_ _));refine gF ?_ kv.out _;(with_reducible repeat(first|refine aX ?_ _|refine bB ?_|refine aQ ?_ _));refine gF ?_ kv.out _;(with_reducible repeat(first|refine aX ?_ _|refine bB ?_|refine aQ ?_ _));exact az.out⟩,⟨by repeat(first|(with_reducible first|exact HB.out|apply ae|apply ah|apply au|refine aH ?_ dD.out|refine aH ?_ Bz.out)|exact HB.out)⟩⟩
                  .replace c81:=Bool.eq_false_iff.mpr c81
                   subst c81
                   replace H:(some 1)=some r:=by rw[if_neg (show ¬(false=true) by decide)] at H;exact H
                   obtain rfl:=Option.some.inj H
                   have aha:wr.cell? ⟨aI,0,none⟩=some (.slice dC bA.length dB):=(ak az.out 0).trans rfl
                   have ag9:wr.cell? ⟨aI,1,none⟩=some (.int .i64 bz):=(ak az.out 1).trans rfl
                   have ag8:wr.cell? ⟨aI,2,none⟩=some (.slice fw aM.length dm):=(ak az.out 2).trans rfl
                   have ag7:wr.cell? ⟨aI,3,none⟩=some (.slice eT bC.length dH):=(ak az.out 3).trans rfl
                   have agx:=ag az.out 0
                   have agw:=ag az.out 1
                   have agv:=ag az.out 2
                   have agu:=ag az.out 3
                   have uu:0<=(gH:Int):=of_decide_eq_true (by first|(with_reducible assumption)|assumption)
                   have uq:gH<(bC.length:Int):=of_decide_eq_true (by first|(with_reducible assumption)|assumption)
                   obtain⟨lK,M9,jy,jv⟩:=yB KV.out gH uu uq
                   cases M9
                   replace jy:=(HB.out.cell (World.block_lt_of_cell? w _ jy)).trans jy
                   replace jv:=(HB.out.cell (World.block_lt_of_cell? w _ jv)).trans jv
                   replace uu:=eq_true uu
                   replace uq:=eq_true uq
                   go_wp2_with (first|((with_reducible refine bY (N:=9) rfl ?_);(try(refine eQ (by rfl) ?_;dsimp only));refine cZ ?hg (N:=9) ?hd (cs:=#[.int .i64 0,.int .i64 0]) (t:=38) ?hr ?_;(case hd=>rfl);(case hg=>rfl);(case hr=>first|(go_simp;done)|(go_simp;rfl));intro jh hg w94 dM hb;have iF:=aa.mk (gZ (g:=aI) (o:= .cells #[.slice dC bA.length dB,.int .i64 bz,.slice fw aM.length dm,.slice (some lK) bC.length dH] 26 (0,0)) (by(with_reducible repeat(first|refine aX ?_ _|refine bB ?_|refine aQ ?_ _));exact az.out) hb);have iE:=aa.mk (bT (by repeat(first|(with_reducible first|exact HB.out|apply ae|apply ah|apply au|refine aH ?_ dD.out)|exact HB.out)) hb);have jg:=aa.mk (dM);have jH:=aa.mk ((by rw[hg];exact(aT (by repeat(first|(with_reducible first|exact HB.out|apply ae|apply ah|apply au|refine aH ?_ dD.out)|exact HB.out))):w.heap.size<=jh));have tF:=aa.mk ((by rw[hg];exact(aT (by repeat(first|(with_reducible first|exact HB.out|apply ae|apply ah|apply au|refine aH ?_ dD.out)|exact HB.out))):w.heap.size<=jh));have tC:=aa.mk ((by rw[hg];exact Nat.ne_of_lt (fQ (g:=aI) (o:= .cells #[.slice dC bA.length dB,.int .i64 bz,.slice fw aM.length dm,.slice (some lK) bC.length dH] 26 (0,0)) (by(with_reducible repeat(first|refine aX ?_ _|refine bB ?_|refine aQ ?_ _));exact az.out)):aI≠jh));have tu:=aa.mk ((by rw[hg];exact Nat.ne_of_gt (fQ (g:=aI) (o:= .cells #[.slice dC bA.length dB,.int .i64 bz,.slice fw aM.length dm,.slice (some lK) bC.length dH] 26 (0,0)) (by(with_reducible repeat(first|refine aX ?_ _|refine bB ?_|refine aQ ?_ _));exact az.out)):jh≠aI));clear az;clear HB;have az:=iF;have HB:=iE;have lT:=jg;have Uf:=jH;have Bz:=tF;have kv:=tC;have mr:=tu;clear iF iE jg jH tF tC tu;clear hb dM hg;have amF:=mr.out;have amw:=kv.out;have ag6:w94.cell? ⟨jh,0,none⟩=some (.int .i64 0):=(ak lT.out 0).trans rfl;have ag5:w94.cell? ⟨jh,1,none⟩=some (.int .i64 0):=(ak lT.out 1).trans rfl;have agt:=ag lT.out 0;have ags:=ag lT.out 1;have ag4:w94.cell? ⟨aI,0,none⟩=some (.slice dC bA.length dB):=(ak az.out 0).trans rfl;have ag3:w94.cell? ⟨aI,1,none⟩=some (.int .i64 bz):=(ak az.out 1).trans rfl;have ag2:w94.cell? ⟨aI,2,none⟩=some (.slice fw aM.length dm):=(ak az.out 2).trans rfl;have ag1:w94.cell? ⟨aI,3,none⟩=some (.slice (some lK) bC.length dH):=(ak az.out 3).trans rfl;have agr:=ag az.out 0;have agq:=ag az.out 1;have agp:=ag az.out 2;have ago:=ag az.out 3)|((with_reducible refine bZ (f:=35) rfl ?_);refine iV (some 152) rfl rfl Tryz.func35 (by kernel_rfl) rfl #[.int .i64 ((aZ bC gH).f0),.int .i64 0,.int .i64 (wrap64 ((aM.length:Int)-1))] rfl (by(try simp only[List.map_toArray,List.map_cons,List.map_nil]);first|done|rfl|(simp only[List.length_drop,List.length_take];rfl)) ?_;(with_reducible refine(aD.calls ((aZ bC gH).f0) 0 (wrap64 ((aM.length:Int)-1)) true _ A78.out).mono ?_);rintro e w' ⟨rfl,⟨nd,rfl⟩⟩;refine⟨_,rfl,?_⟩)|(go_at_call 35;(with_reducible refine(aD.calls ((aZ bC gH).f1) 0 (wrap64 ((aM.length:Int)-1)) false _ A80.out).mono ?_);rintro e w' ⟨rfl,⟨nd,rfl⟩⟩))
                   go_ret
                   exact⟨by first|rfl|(simp[aW,aV]<;>rfl)|(simp[*,aW,aV]<;>rfl),by repeat(first|(with_reducible first|exact HB.out|apply ae|apply ah|apply au|refine aH ?_ dD.out|refine aH ?_ Bz.out)|exact HB.out)⟩
                 .replace c79:=Bool.eq_false_iff.mpr c79
                  subst c79
                  replace H:(some 1)=some r:=by rw[if_neg (show ¬(false=true) by decide)] at H;exact H
                  obtain rfl:=Option.some.inj H
                  have ag0:wr.cell? ⟨aI,0,none⟩=some (.slice dC bA.length dB):=(ak az.out 0).trans rfl
                  have agZ:wr.cell? ⟨aI,1,none⟩=some (.int .i64 bz):=(ak az.out 1).trans rfl
                  have agY:wr.cell? ⟨aI,2,none⟩=some (.slice fw aM.length dm):=(ak az.out 2).trans rfl
                  have agX:wr.cell? ⟨aI,3,none⟩=some (.slice eT bC.length dH):=(ak az.out 3).trans rfl
                  have agn:=ag az.out 0
                  have agm:=ag az.out 1
                  have agl:=ag az.out 2
                  have agk:=ag az.out 3
                  have uu:0<=(gH:Int):=of_decide_eq_true (by first|(with_reducible assumption)|assumption)
                  have uq:gH<(bC.length:Int):=of_decide_eq_true (by first|(with_reducible assumption)|assumption)
                  obtain⟨lK,M9,jy,jv⟩:=yB KV.out gH uu uq
                  cases M9
                  replace jy:=(HB.out.cell (World.block_lt_of_cell? w _ jy)).trans jy
                  replace jv:=(HB.out.cell (World.block_lt_of_cell? w _ jv)).trans jv
                  replace uu:=eq_true uu
                  replace uq:=eq_true uq
                  go_wp2_with (first|((with_reducible refine bY (N:=9) rfl ?_);(try(refine eQ (by rfl) ?_;dsimp only));refine cZ ?hg (N:=9) ?hd (cs:=#[.int .i64 0,.int .i64 0]) (t:=38) ?hr ?_;(case hd=>rfl);(case hg=>rfl);(case hr=>first|(go_simp;done)|(go_simp;rfl));intro jh hg w99 dM hb;have iF:=aa.mk (gZ (g:=aI) (o:= .cells #[.slice dC bA.length dB,.int .i64 bz,.slice fw aM.length dm,.slice (some lK) bC.length dH] 26 (0,0)) (by(with_reducible repeat(first|refine aX ?_ _|refine bB ?_|refine aQ ?_ _));exact az.out) hb);have iE:=aa.mk (bT (by repeat(first|(with_reducible first|exact HB.out|apply ae|apply ah|apply au|refine aH ?_ dD.out)|exact HB.out)) hb);have jg:=aa.mk (dM);have jH:=aa.mk ((by rw[hg];exact(aT (by repeat(first|(with_reducible first|exact HB.out|apply ae|apply ah|apply au|refine aH ?_ dD.out)|exact HB.out))):w.heap.size<=jh));have tF:=aa.mk ((by rw[hg];exact(aT (by repeat(first|(with_reducible first|exact HB.out|apply ae|apply ah|apply au|refine aH ?_ dD.out)|exact HB.out))):w.heap.size<=jh));have tC:=aa.mk ((by rw[hg];exact Nat.ne_of_lt (fQ (g:=aI) (o:= .cells #[.slice dC bA.length dB,.int .i64 bz,.slice fw aM.length dm,.slice (some lK) bC.length dH] 26 (0,0)) (by(with_reducible repeat(first|refine aX ?_ _|refine bB ?_|refine aQ ?_ _));exact az.out)):aI≠jh));have tu:=aa.mk ((by rw[hg];exact Nat.ne_of_gt (fQ (g:=aI) (o:= .cells #[.slice dC bA.length dB,.int .i64 bz,.slice fw aM.length dm,.slice (some lK) bC.length dH] 26 (0,0)) (by(with_reducible repeat(first|refine aX ?_ _|refine bB ?_|refine aQ ?_ _));exact az.out)):jh≠aI));clear az;clear HB;have az:=iF;have HB:=iE;have lT:=jg;have Uf:=jH;have Bz:=tF;have kv:=tC;have mr:=tu;clear iF iE jg jH tF tC tu;clear hb dM hg;have ajm:=mr.out;have ajl:=kv.out;have adB:w99.cell? ⟨jh,0,none⟩=some (.int .i64 0):=(ak lT.out 0).trans rfl;have adA:w99.cell? ⟨jh,1,none⟩=some (.int .i64 0):=(ak lT.out 1).trans rfl;have adq:=ag lT.out 0;have adp:=ag lT.out 1;have adz:w99.cell? ⟨aI,0,none⟩=some (.slice dC bA.length dB):=(ak az.out 0).trans rfl;have ady:w99.cell? ⟨aI,1,none⟩=some (.int .i64 bz):=(ak az.out 1).trans rfl;have adx:w99.cell? ⟨aI,2,none⟩=some (.slice fw aM.length dm):=(ak az.out 2).trans rfl;have adw:w99.cell? ⟨aI,3,none⟩=some (.slice (some lK) bC.length dH):=(ak az.out 3).trans rfl;have ado:=ag az.out 0;have adn:=ag az.out 1;have adm:=ag az.out 2;have adl:=ag az.out 3)|((with_reducible refine bZ (f:=35) rfl ?_);refine iV (some 152) rfl rfl Tryz.func35 (by kernel_rfl) rfl #[.int .i64 ((aZ bC gH).f0),.int .i64 0,.int .i64 (wrap64 ((aM.length:Int)-1))] rfl (by(try simp only[List.map_toArray,List.map_cons,List.map_nil]);first|done|rfl|(simp only[List.length_drop,List.length_take];rfl)) ?_;(with_reducible refine(aD.calls ((aZ bC gH).f0) 0 (wrap64 ((aM.length:Int)-1)) false _ A78.out).mono ?_);rintro e w' ⟨rfl,⟨nd,rfl⟩⟩;refine⟨_,rfl,?_⟩))
                  go_ret
                  exact⟨by first|rfl|(simp[aW,aV]<;>rfl)|(simp[*,aW,aV]<;>rfl),by repeat(first|(with_reducible first|exact HB.out|apply ae|apply ah|apply au|refine aH ?_ dD.out|refine aH ?_ Bz.out)|exact HB.out)⟩
                .rw[if_neg c77] at H
                 exact absurd H (by simp)
               .rw[if_neg c76] at H
                have aeo:decide (gH<(bC.length:Int))=false:=decide_eq_false c76
                clear c76
                obtain rfl:=Option.some.inj H
                have adv:wr.cell? ⟨aI,0,none⟩=some (.slice dC bA.length dB):=(ak az.out 0).trans rfl
                have adu:wr.cell? ⟨aI,1,none⟩=some (.int .i64 bz):=(ak az.out 1).trans rfl
                have adt:wr.cell? ⟨aI,2,none⟩=some (.slice fw aM.length dm):=(ak az.out 2).trans rfl
                have ads:wr.cell? ⟨aI,3,none⟩=some (.slice eT bC.length dH):=(ak az.out 3).trans rfl
                have adk:=ag az.out 0
                have adj:=ag az.out 1
                have adi:=ag az.out 2
                have adh:=ag az.out 3
                go_wp2
                go_ret
                exact⟨by first|rfl|(simp[aW,aV]<;>rfl)|(simp[*,aW,aV]<;>rfl),by repeat(first|(with_reducible first|exact HB.out|apply ae|apply ah|apply au|refine aH ?_ dD.out)|exact HB.out)⟩
end Go.Proofs.YtkjoilgpmngndaaGreat.av
