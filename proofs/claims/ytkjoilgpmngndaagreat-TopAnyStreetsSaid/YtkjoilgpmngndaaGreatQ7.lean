import Derived.Test.YtkjoilgpmngndaaGreatQ3
import Derived.Test.YtkjoilgpmngndaaGreatQ4
import Derived.Test.YtkjoilgpmngndaaGreatQ6
set_option linter.all false
namespace Go.Proofs.YtkjoilgpmngndaaGreat.av
open Go.RowKit Go.Proofs.YtkjoilgpmngndaaGreatW.aA Go.Proofs.YtkjoilgpmngndaaGreatW.aJ Go.Proofs.YtkjoilgpmngndaaGreatW.dn
attribute [local go_sem] mR nV oQ qA ma l9 nW nU
attribute [local go_sem high] ad7
mutual
def bu.j0:Nat->List (sO)->List (sO)->List Int->Bool->Option (Bool)
 |0,_,_,_,_=>none
 |k+1,x0,x1,x2,x19=>if x19=true then(if(x0.length:Int)=0 then(some ((x1.length:Int)==0)) else(some false)) else(bu.l0 k x0 x1 x2 0)
def bu.l0:Nat->List (sO)->List (sO)->List Int->Int->Option (Bool)
 |0,_,_,_,_=>none
 |k+1,x0,x1,x2,x7=>if x7<(x2.length:Int) then(if 0<=x7 then(if x7<(x1.length:Int) then(if 0<=(rd x2 x7) then(if(rd x2 x7)<(x0.length:Int) then(if(!(((dK x1 x7).f0)==((dK x0 (rd x2 x7)).f0))||(!(((dK x1 x7).f1)==((dK x0 (rd x2 x7)).f1))))=true then(some false) else(bu.l0 k x0 x1 x2 (wrap64 (x7+1)))) else(none)) else(none)) else(none)) else(none)) else(some true)
end
def bu.f(k:Nat)(l0:List (sO))(l1:List (sO))(l2:List Int):Option (Bool):=if(l0.length:Int)=(l2.length:Int) then(bu.j0 k l0 l1 l2 ((l1.length:Int) !=(l2.length:Int))) else(bu.j0 k l0 l1 l2 true)
set_option maxHeartbeats 8000000 in
set_option maxRecDepth 100000 in
theorem bu.calls(k:Nat)(A0:Option Addr)(c0:Nat)(l0:List (sO))(A1:Option Addr)(c1:Nat)(l1:List (sO))(A2:Option Addr)(c2:Nat)(l2:List Int)(r:Bool)(w:World)(hr0:Kd.C MN w A0 l0.length l0)(hc0:l0.length<=c0)(hr1:Kd.C MN w A1 l1.length l1)(hc1:l1.length<=c1)(hr2:Kd.C (Kd.int .i64) w A2 l2.length l2)(hc2:l2.length<=c2)(h:bu.f k l0 l1 l2=some r):
  Calls Tryz.prog 14 #[.slice A0 l0.length c0,.slice A1 l1.length c1,.slice A2 l2.length c2] w fun e w'=>e= .returned (.bool r)/\aU w w':=by
 have ZJ:=Tryz.underlying52
 have I4:=aa.mk hr0
 have Xv:=aa.mk hc0
 clear hr0 hc0
 have HR1:=aa.mk hr1
 have QO:=aa.mk hc1
 clear hr1 hc1
 have HR2:=aa.mk hr2
 have HC2:=aa.mk hc2
 clear hr2 hc2
 have H:(if(l0.length:Int)=(l2.length:Int) then(bu.j0 k l0 l1 l2 ((l1.length:Int) !=(l2.length:Int))) else(bu.j0 k l0 l1 l2 true))=some r:=h
 clear h
 have HC4:=aa.mk H
 clear H
 go_enter Tryz.func14,Tryz.ntmps14
 go_upto_region 1 with(fail)
 repeat(go_quiet (fail);go_upto_region 1 with(fail))
 go_cut [19] (fun v19 wc=>∃(kq:Nat) (Ob:Bool),v19= .bool Ob/\aa (bu.j0 kq l0 l1 l2 Ob=some r)/\aa (kq<=k)/\aU w wc)
 case first=>
  have H:=HC4.out
  clear HC4
  by_cases c5:(l0.length:Int)=(l2.length:Int)
  .rw[if_pos c5] at H
   have yA:((l0.length:Int)==(l2.length:Int))=true:=beq_iff_eq.mpr c5
   have Xb:((l0.length:Int) !=(l2.length:Int))=false:=bne_eq_false_iff_eq.mpr c5
   have aaV:(l0.length==l2.length)=true:=by first|simpa using c5|(simp at c5 ⊢;omega)
   clear c5
   (first|rw[yA]|(simp only[dL,ed];rw[yA])|skip)
   have H':=aa.mk H
   clear H
   go_wp2
   repeat(go_quiet (fail);try go_wp2)
   go_meet
   case rel=>exact⟨_,(((l1.length:Int) !=(l2.length:Int))),(by first|rfl|(simp;done)|(simp[*];done)),H',⟨by first|omega|exact Nat.le_refl _⟩,by repeat(first|exact aU.refl _|apply aU.step)⟩
  .rw[if_neg c5] at H
   have yA:((l0.length:Int)==(l2.length:Int))=false:=beq_eq_false_iff_ne.mpr c5
   have Xb:((l0.length:Int) !=(l2.length:Int))=true:=bne_iff_ne.mpr c5
   have aaV:(l0.length==l2.length)=false:=by first|simpa using c5|(simp at c5 ⊢;omega)
   (first|rw[yA]|(simp only[dL,ed];rw[yA])|skip)
   have H':=aa.mk H
   clear H
   go_wp2
   repeat(go_quiet (fail);try go_wp2)
   go_meet
   case rel=>exact⟨_,(true),(by first|rfl|(simp;done)|(simp[*];done)),H',⟨by first|omega|exact Nat.le_refl _⟩,by repeat(first|exact aU.refl _|apply aU.step)⟩
 case rest=>
  clear HC4
  (try clear c1);(try clear c2);(try clear p2);(try clear c5);(try clear yA);(try clear Xb);(try clear aaV)
  obtain⟨kq,Ob,rfl,HA,HJ3,⟨mc3,rfl⟩⟩:=hcut
  cases kq with
  |zero=>exact absurd HA.out (by simp[bu.j0])
  |succ kj3=>
   have H:=HA.out
   clear HA
   simp only[bu.j0] at H
   by_cases c6:Ob=true
   .subst c6
    replace H:(if(l0.length:Int)=0 then(some ((l1.length:Int)==0)) else(some false))=some r:=by rw[if_pos rfl] at H;exact H
    by_cases c7:(l0.length:Int)=0
    .rw[if_pos c7] at H
     have rT:((l0.length:Int)==0)=true:=beq_iff_eq.mpr c7
     have WT:((l0.length:Int) !=0)=false:=bne_eq_false_iff_eq.mpr c7
     clear c7
     obtain rfl:=Option.some.inj H
     go_wp2
     repeat(go_quiet (fail);try go_wp2)
     go_ret
     exact⟨by first|rfl|(simp;done)|(simp[*];done),by repeat(first|exact aU.refl _|apply aU.step)⟩
    .rw[if_neg c7] at H
     have rT:((l0.length:Int)==0)=false:=beq_eq_false_iff_ne.mpr c7
     have WT:((l0.length:Int) !=0)=true:=bne_iff_ne.mpr c7
     have aks:¬(l0=[]):=fun h_=>c7 (by rw[h_];rfl)
     obtain rfl:=Option.some.inj H
     go_wp2
     repeat(go_quiet (fail);try go_wp2)
     go_ret
     exact⟨by first|rfl|(simp;done)|(simp[*];done),by repeat(first|exact aU.refl _|apply aU.step)⟩
   .replace c6:=Bool.eq_false_iff.mpr c6
    subst c6
    replace H:(bu.l0 kj3 l0 l1 l2 0)=some r:=by rw[if_neg (show ¬(false=true) by decide)] at H;exact H
    have H':=aa.mk H
    clear H
    go_wp2
    repeat(go_quiet (fail);try go_wp2)
    go_loopg [7] kj3 (fun kq v7 w'=>∃(df:Int),v7= .int .i64 df/\aa (bu.l0 kq l0 l1 l2 df=some r)/\aa (kq<=kj3)/\aU w w')
    case atStart=>exact⟨(0),(by first|rfl|(simp;done)|(simp[*];done)),H',⟨Nat.le_refl _⟩,by repeat(first|exact aU.refl _|apply aU.step)⟩
    case round=>
     clear H'
     (try clear c1);(try clear c2);(try clear p2);(try clear c3);(try clear c5);(try clear yA);(try clear Xb);(try clear aaV);(try clear c6);(try clear c7);(try clear rT);(try clear WT)
     (try clear aks);(try clear p2)
     obtain⟨df,rfl,HA,UD,⟨m2,rfl⟩⟩:=hrel
     cases gk with
     |zero=>exact absurd HA.out (by simp[bu.l0])
     |succ k2=>
      have H:=HA.out
      clear HA
      simp only[bu.l0] at H
      by_cases c8:df<(l2.length:Int)
      .rw[if_pos c8] at H
       have Td:decide (df<(l2.length:Int))=true:=decide_eq_true c8
       clear c8
       by_cases c9:0<=df
       .rw[if_pos c9] at H
        have aaR:decide (0<=df)=true:=decide_eq_true c9
        clear c9
        by_cases c10:df<(l1.length:Int)
        .rw[if_pos c10] at H
         have anI:decide (df<(l1.length:Int))=true:=decide_eq_true c10
         clear c10
         by_cases c11:0<=(rd l2 df)
         .rw[if_pos c11] at H
          have pg:decide (0<=(rd l2 df))=true:=decide_eq_true c11
          clear c11
          by_cases c12:(rd l2 df)<(l0.length:Int)
          .rw[if_pos c12] at H
           have Ti:decide ((rd l2 df)<(l0.length:Int))=true:=decide_eq_true c12
           clear c12
           by_cases c13:(!(((dK l1 df).f0)==((dK l0 (rd l2 df)).f0))||(!(((dK l1 df).f1)==((dK l0 (rd l2 df)).f1))))=true
           .rw[if_pos c13] at H
            have OM:(!(((dK l1 df).f0)==((dK l0 (rd l2 df)).f0))||(!(((dK l1 df).f1)==((dK l0 (rd l2 df)).f1))))=true:=c13
            clear c13
            obtain rfl:=Option.some.inj H
            have Mt:0<=(df:Int):=of_decide_eq_true (by first|(with_reducible assumption)|assumption)
            have Mf:df<(l1.length:Int):=of_decide_eq_true (by first|(with_reducible assumption)|assumption)
            obtain⟨aeK,aaJ,Vo,Vn⟩:=rW HR1.out df Mt Mf
            cases aaJ
            replace Mt:=eq_true Mt
            replace Mf:=eq_true Mf
            have Ms:0<=(df:Int):=of_decide_eq_true (by first|(with_reducible assumption)|assumption)
            have Me:df<(l2.length:Int):=of_decide_eq_true (by first|(with_reducible assumption)|assumption)
            obtain⟨aeJ,e181,Vm⟩:=Kd.dz HR2.out df Ms Me
            cases e181
            replace Ms:=eq_true Ms
            replace Me:=eq_true Me
            have Mr:0<=((rd l2 df):Int):=of_decide_eq_true (by first|(with_reducible assumption)|assumption)
            have Md:(rd l2 df)<(l0.length:Int):=of_decide_eq_true (by first|(with_reducible assumption)|assumption)
            obtain⟨aeI,aaI,Vl,Vk⟩:=rW I4.out (rd l2 df) Mr Md
            cases aaI
            replace Mr:=eq_true Mr
            replace Md:=eq_true Md
            go_wp2
            repeat(go_quiet (fail);try go_wp2)
            go_ret
            exact⟨by first|rfl|(simp;done)|(simp[*];done),by repeat(first|exact aU.refl _|apply aU.step)⟩
           .rw[if_neg c13] at H
            have OM:(!(((dK l1 df).f0)==((dK l0 (rd l2 df)).f0))||(!(((dK l1 df).f1)==((dK l0 (rd l2 df)).f1))))=false:=by simpa using c13
            clear c13
            have H':=aa.mk H
            clear H
            have Mt:0<=(df:Int):=of_decide_eq_true (by first|(with_reducible assumption)|assumption)
            have Mf:df<(l1.length:Int):=of_decide_eq_true (by first|(with_reducible assumption)|assumption)
            obtain⟨aeK,aaJ,Vo,Vn⟩:=rW HR1.out df Mt Mf
            cases aaJ
            replace Mt:=eq_true Mt
            replace Mf:=eq_true Mf
            have Ms:0<=(df:Int):=of_decide_eq_true (by first|(with_reducible assumption)|assumption)
            have Me:df<(l2.length:Int):=of_decide_eq_true (by first|(with_reducible assumption)|assumption)
            obtain⟨aeJ,e181,Vm⟩:=Kd.dz HR2.out df Ms Me
            cases e181
            replace Ms:=eq_true Ms
            replace Me:=eq_true Me
            have Mr:0<=((rd l2 df):Int):=of_decide_eq_true (by first|(with_reducible assumption)|assumption)
            have Md:(rd l2 df)<(l0.length:Int):=of_decide_eq_true (by first|(with_reducible assumption)|assumption)
            obtain⟨aeI,aaI,Vl,Vk⟩:=rW I4.out (rd l2 df) Mr Md
            cases aaI
            replace Mr:=eq_true Mr
            replace Md:=eq_true Md
            go_wp2
            repeat(go_quiet (fail);try go_wp2)
            go_roundg k2
            case measure=>have:=HJ3.out;have:=UD.out;omega
            case rel=>exact⟨(wrap64 (df+1)),(by first|rfl|(simp;done)|(simp[*];done)),H',⟨by have:=HJ3.out;have:=UD.out;omega⟩,by repeat(first|exact aU.refl _|apply aU.step)⟩
          .rw[if_neg c12] at H
           exact absurd H (by simp)
         .rw[if_neg c11] at H
          exact absurd H (by simp)
        .rw[if_neg c10] at H
         exact absurd H (by simp)
       .rw[if_neg c9] at H
        exact absurd H (by simp)
      .rw[if_neg c8] at H
       have Td:decide (df<(l2.length:Int))=false:=decide_eq_false c8
       clear c8
       obtain rfl:=Option.some.inj H
       go_wp2
       repeat(go_quiet (fail);try go_wp2)
       go_ret
       exact⟨by first|rfl|(simp;done)|(simp[*];done),by repeat(first|exact aU.refl _|apply aU.step)⟩
def bX.l0:Nat->List (sO)->List (sO)->Int->Option (Bool)
 |0,_,_,_=>none
 |k+1,x0,x1,x5=>if x5<(x0.length:Int) then(if 0<=x5 then(if x5<(x1.length:Int) then(if(!(((dK x0 x5).f0)==((dK x1 x5).f0))||(!(((dK x0 x5).f1)==((dK x1 x5).f1))))=true then(some false) else(bX.l0 k x0 x1 (wrap64 (x5+1)))) else(none)) else(none)) else(some true)
def bX.f(k:Nat)(l0:List (sO))(l1:List (sO)):Option (Bool):=if(l0.length:Int)=(l1.length:Int) then(bX.l0 k l0 l1 0) else(some false)
set_option maxHeartbeats 8000000 in
set_option maxRecDepth 100000 in
theorem bX.calls(k:Nat)(A0:Option Addr)(c0:Nat)(l0:List (sO))(A1:Option Addr)(c1:Nat)(l1:List (sO))(r:Bool)(w:World)(hr0:Kd.C MN w A0 l0.length l0)(hc0:l0.length<=c0)(hr1:Kd.C MN w A1 l1.length l1)(hc1:l1.length<=c1)(h:bX.f k l0 l1=some r):
  Calls Tryz.prog 15 #[.slice A0 l0.length c0,.slice A1 l1.length c1] w fun e w'=>e= .returned (.bool r)/\aU w w':=by
 have ZJ:=Tryz.underlying52
 have I4:=aa.mk hr0
 have Xv:=aa.mk hc0
 clear hr0 hc0
 have HR1:=aa.mk hr1
 have QO:=aa.mk hc1
 clear hr1 hc1
 have H:(if(l0.length:Int)=(l1.length:Int) then(bX.l0 k l0 l1 0) else(some false))=some r:=h
 clear h
 by_cases c3:(l0.length:Int)=(l1.length:Int)
 .rw[if_pos c3] at H
  have qN:((l0.length:Int)==(l1.length:Int))=true:=beq_iff_eq.mpr c3
  have CJ:((l0.length:Int) !=(l1.length:Int))=false:=bne_eq_false_iff_eq.mpr c3
  have Tf:(l0.length==l1.length)=true:=by first|simpa using c3|(simp at c3 ⊢;omega)
  clear c3
  have H':=aa.mk H
  clear H
  go_enter Tryz.func15,Tryz.ntmps15
  go_wp2
  repeat(go_quiet (fail);try go_wp2)
  go_loopg [5] k (fun kq v5 w'=>∃(eD:Int),v5= .int .i64 eD/\aa (bX.l0 kq l0 l1 eD=some r)/\aa (kq<=k)/\aU w w')
  case atStart=>exact⟨(0),(by first|rfl|(simp;done)|(simp[*];done)),H',⟨Nat.le_refl _⟩,by repeat(first|exact aU.refl _|apply aU.step)⟩
  case round=>
   clear H'
   (try clear c1);(try clear p2);(try clear c3);(try clear qN);(try clear CJ);(try clear Tf)
   obtain⟨eD,rfl,HA,qU,⟨m1,rfl⟩⟩:=hrel
   cases gk with
   |zero=>exact absurd HA.out (by simp[bX.l0])
   |succ k1=>
    have H:=HA.out
    clear HA
    simp only[bX.l0] at H
    by_cases c4:eD<(l0.length:Int)
    .rw[if_pos c4] at H
     have lH:decide (eD<(l0.length:Int))=true:=decide_eq_true c4
     clear c4
     by_cases c5:0<=eD
     .rw[if_pos c5] at H
      have yA:decide (0<=eD)=true:=decide_eq_true c5
      clear c5
      by_cases c6:eD<(l1.length:Int)
      .rw[if_pos c6] at H
       have Be:decide (eD<(l1.length:Int))=true:=decide_eq_true c6
       clear c6
       by_cases c7:(!(((dK l0 eD).f0)==((dK l1 eD).f0))||(!(((dK l0 eD).f1)==((dK l1 eD).f1))))=true
       .rw[if_pos c7] at H
        have rT:(!(((dK l0 eD).f0)==((dK l1 eD).f0))||(!(((dK l0 eD).f1)==((dK l1 eD).f1))))=true:=c7
        clear c7
        obtain rfl:=Option.some.inj H
        have Mq:0<=(eD:Int):=of_decide_eq_true (by first|(with_reducible assumption)|assumption)
        have Mc:eD<(l0.length:Int):=of_decide_eq_true (by first|(with_reducible assumption)|assumption)
        obtain⟨aeH,aaH,Vj,Vi⟩:=rW I4.out eD Mq Mc
        cases aaH
        replace Mq:=eq_true Mq
        replace Mc:=eq_true Mc
        have Mo:0<=(eD:Int):=of_decide_eq_true (by first|(with_reducible assumption)|assumption)
        have Ma:eD<(l1.length:Int):=of_decide_eq_true (by first|(with_reducible assumption)|assumption)
        obtain⟨aeG,aaG,Vh,Vg⟩:=rW HR1.out eD Mo Ma
        cases aaG
        replace Mo:=eq_true Mo
        replace Ma:=eq_true Ma
        go_wp2
        repeat(go_quiet (fail);try go_wp2)
        go_ret
        exact⟨by first|rfl|(simp;done)|(simp[*];done),by repeat(first|exact aU.refl _|apply aU.step)⟩
       .rw[if_neg c7] at H
        have rT:(!(((dK l0 eD).f0)==((dK l1 eD).f0))||(!(((dK l0 eD).f1)==((dK l1 eD).f1))))=false:=by simpa using c7
        clear c7
        have H':=aa.mk H
        clear H
        have Mq:0<=(eD:Int):=of_decide_eq_true (by first|(with_reducible assumption)|assumption)
        have Mc:eD<(l0.length:Int):=of_decide_eq_true (by first|(with_reducible assumption)|assumption)
        obtain⟨aeH,aaH,Vj,Vi⟩:=rW I4.out eD Mq Mc
        cases aaH
        replace Mq:=eq_true Mq
        replace Mc:=eq_true Mc
        have Mo:0<=(eD:Int):=of_decide_eq_true (by first|(with_reducible assumption)|assumption)
        have Ma:eD<(l1.length:Int):=of_decide_eq_true (by first|(with_reducible assumption)|assumption)
        obtain⟨aeG,aaG,Vh,Vg⟩:=rW HR1.out eD Mo Ma
        cases aaG
        replace Mo:=eq_true Mo
        replace Ma:=eq_true Ma
        go_wp2
        repeat(go_quiet (fail);try go_wp2)
        go_roundg k1
        case measure=>have:=qU.out;omega
        case rel=>exact⟨(wrap64 (eD+1)),(by first|rfl|(simp;done)|(simp[*];done)),H',⟨by have:=qU.out;omega⟩,by repeat(first|exact aU.refl _|apply aU.step)⟩
      .rw[if_neg c6] at H
       exact absurd H (by simp)
     .rw[if_neg c5] at H
      exact absurd H (by simp)
    .rw[if_neg c4] at H
     have lH:decide (eD<(l0.length:Int))=false:=decide_eq_false c4
     clear c4
     obtain rfl:=Option.some.inj H
     go_wp2
     repeat(go_quiet (fail);try go_wp2)
     go_ret
     exact⟨by first|rfl|(simp;done)|(simp[*];done),by repeat(first|exact aU.refl _|apply aU.step)⟩
 .rw[if_neg c3] at H
  have qN:((l0.length:Int)==(l1.length:Int))=false:=beq_eq_false_iff_ne.mpr c3
  have CJ:((l0.length:Int) !=(l1.length:Int))=true:=bne_iff_ne.mpr c3
  have Tf:(l0.length==l1.length)=false:=by first|simpa using c3|(simp at c3 ⊢;omega)
  obtain rfl:=Option.some.inj H
  go_enter Tryz.func15,Tryz.ntmps15
  go_wp2
  repeat(go_quiet (fail);try go_wp2)
  go_ret
  exact⟨by first|rfl|(simp;done)|(simp[*];done),by repeat(first|exact aU.refl _|apply aU.step)⟩
def bE.l0:Nat->List Int->List Int->Int->Option (Bool)
 |0,_,_,_=>none
 |k+1,x0,x1,x5=>if x5<(x0.length:Int) then(if 0<=x5 then(if x5<(x1.length:Int) then(if(rd x0 x5)=(rd x1 x5) then(bE.l0 k x0 x1 (wrap64 (x5+1))) else(some false)) else(none)) else(none)) else(some true)
def bE.f(k:Nat)(l0:List Int)(l1:List Int):Option (Bool):=if(l0.length:Int)=(l1.length:Int) then(bE.l0 k l0 l1 0) else(some false)
set_option maxHeartbeats 8000000 in
set_option maxRecDepth 100000 in
theorem bE.calls(k:Nat)(A0:Option Addr)(c0:Nat)(l0:List Int)(A1:Option Addr)(c1:Nat)(l1:List Int)(r:Bool)(w:World)(hr0:Kd.C (Kd.int .i64) w A0 l0.length l0)(hc0:l0.length<=c0)(hr1:Kd.C (Kd.int .i64) w A1 l1.length l1)(hc1:l1.length<=c1)(h:bE.f k l0 l1=some r):
  Calls Tryz.prog 16 #[.slice A0 l0.length c0,.slice A1 l1.length c1] w fun e w'=>e= .returned (.bool r)/\aU w w':=by
 have I4:=aa.mk hr0
 have Xv:=aa.mk hc0
 clear hr0 hc0
 have HR1:=aa.mk hr1
 have QO:=aa.mk hc1
 clear hr1 hc1
 have H:(if(l0.length:Int)=(l1.length:Int) then(bE.l0 k l0 l1 0) else(some false))=some r:=h
 clear h
 by_cases c3:(l0.length:Int)=(l1.length:Int)
 .rw[if_pos c3] at H
  have qN:((l0.length:Int)==(l1.length:Int))=true:=beq_iff_eq.mpr c3
  have CJ:((l0.length:Int) !=(l1.length:Int))=false:=bne_eq_false_iff_eq.mpr c3
  have Tf:(l0.length==l1.length)=true:=by first|simpa using c3|(simp at c3 ⊢;omega)
  clear c3
  have H':=aa.mk H
  clear H
  go_enter Tryz.func16,Tryz.ntmps16
  go_wp2
  repeat(go_quiet (fail);try go_wp2)
  go_loopg [5] k (fun kq v5 w'=>∃(eD:Int),v5= .int .i64 eD/\aa (bE.l0 kq l0 l1 eD=some r)/\aa (kq<=k)/\aU w w')
  case atStart=>exact⟨(0),(by first|rfl|(simp;done)|(simp[*];done)),H',⟨Nat.le_refl _⟩,by repeat(first|exact aU.refl _|apply aU.step)⟩
  case round=>
   clear H'
   (try clear c1);(try clear p2);(try clear c3);(try clear qN);(try clear CJ);(try clear Tf)
   obtain⟨eD,rfl,HA,qU,⟨m1,rfl⟩⟩:=hrel
   cases gk with
   |zero=>exact absurd HA.out (by simp[bE.l0])
   |succ k1=>
    have H:=HA.out
    clear HA
    simp only[bE.l0] at H
    by_cases c4:eD<(l0.length:Int)
    .rw[if_pos c4] at H
     have lH:decide (eD<(l0.length:Int))=true:=decide_eq_true c4
     clear c4
     by_cases c5:0<=eD
     .rw[if_pos c5] at H
      have yA:decide (0<=eD)=true:=decide_eq_true c5
      clear c5
      by_cases c6:eD<(l1.length:Int)
      .rw[if_pos c6] at H
       have Be:decide (eD<(l1.length:Int))=true:=decide_eq_true c6
       clear c6
       by_cases c7:(rd l0 eD)=(rd l1 eD)
       .rw[if_pos c7] at H
        have rT:((rd l0 eD)==(rd l1 eD))=true:=beq_iff_eq.mpr c7
        have WT:((rd l0 eD) !=(rd l1 eD))=false:=bne_eq_false_iff_eq.mpr c7
        clear c7
        have H':=aa.mk H
        clear H
        have Mm:0<=(eD:Int):=of_decide_eq_true (by first|(with_reducible assumption)|assumption)
        have LY:eD<(l0.length:Int):=of_decide_eq_true (by first|(with_reducible assumption)|assumption)
        obtain⟨aeF,e185,Vf⟩:=Kd.dz I4.out eD Mm LY
        cases e185
        replace Mm:=eq_true Mm
        replace LY:=eq_true LY
        have Ml:0<=(eD:Int):=of_decide_eq_true (by first|(with_reducible assumption)|assumption)
        have LW:eD<(l1.length:Int):=of_decide_eq_true (by first|(with_reducible assumption)|assumption)
        obtain⟨aeE,aaF,Ve⟩:=Kd.dz HR1.out eD Ml LW
        cases aaF
        replace Ml:=eq_true Ml
        replace LW:=eq_true LW
        go_wp2
        repeat(go_quiet (fail);try go_wp2)
        go_roundg k1
        case measure=>have:=qU.out;omega
        case rel=>exact⟨(wrap64 (eD+1)),(by first|rfl|(simp;done)|(simp[*];done)),H',⟨by have:=qU.out;omega⟩,by repeat(first|exact aU.refl _|apply aU.step)⟩
       .rw[if_neg c7] at H
        have rT:((rd l0 eD)==(rd l1 eD))=false:=beq_eq_false_iff_ne.mpr c7
        have WT:((rd l0 eD) !=(rd l1 eD))=true:=bne_iff_ne.mpr c7
        obtain rfl:=Option.some.inj H
        have Mm:0<=(eD:Int):=of_decide_eq_true (by first|(with_reducible assumption)|assumption)
        have LY:eD<(l0.length:Int):=of_decide_eq_true (by first|(with_reducible assumption)|assumption)
        obtain⟨aeF,e185,Vf⟩:=Kd.dz I4.out eD Mm LY
        cases e185
        replace Mm:=eq_true Mm
        replace LY:=eq_true LY
        have Ml:0<=(eD:Int):=of_decide_eq_true (by first|(with_reducible assumption)|assumption)
        have LW:eD<(l1.length:Int):=of_decide_eq_true (by first|(with_reducible assumption)|assumption)
        obtain⟨aeE,aaF,Ve⟩:=Kd.dz HR1.out eD Ml LW
        cases aaF
        replace Ml:=eq_true Ml
        replace LW:=eq_true LW
        go_wp2
        repeat(go_quiet (fail);try go_wp2)
        go_ret
        exact⟨by first|rfl|(simp;done)|(simp[*];done),by repeat(first|exact aU.refl _|apply aU.step)⟩
      .rw[if_neg c6] at H
       exact absurd H (by simp)
     .rw[if_neg c5] at H
      exact absurd H (by simp)
    .rw[if_neg c4] at H
     have lH:decide (eD<(l0.length:Int))=false:=decide_eq_false c4
     clear c4
     obtain rfl:=Option.some.inj H
     go_wp2
     repeat(go_quiet (fail);try go_wp2)
     go_ret
     exact⟨by first|rfl|(simp;done)|(simp[*];done),by repeat(first|exact aU.refl _|apply aU.step)⟩
 .rw[if_neg c3] at H
  have qN:((l0.length:Int)==(l1.length:Int))=false:=beq_eq_false_iff_ne.mpr c3
  have CJ:((l0.length:Int) !=(l1.length:Int))=true:=bne_iff_ne.mpr c3
  have Tf:(l0.length==l1.length)=false:=by first|simpa using c3|(simp at c3 ⊢;omega)
  obtain rfl:=Option.some.inj H
  go_enter Tryz.func16,Tryz.ntmps16
  go_wp2
  repeat(go_quiet (fail);try go_wp2)
  go_ret
  exact⟨by first|rfl|(simp;done)|(simp[*];done),by repeat(first|exact aU.refl _|apply aU.step)⟩
def iY.f(ek:Int)(bz:Int)(a1:Int):Option (Bool):=if 0<=ek then(if ek<=bz then(some (decide (bz<=a1))) else(some false)) else(some false)
set_option maxHeartbeats 8000000 in
set_option maxRecDepth 100000 in
theorem iY.calls(ek:Int)(bz:Int)(a1:Int)(r:Bool)(w:World)(h:iY.f ek bz a1=some r):
  Calls Tryz.prog 94 #[.agg #[.int .i64 ek,.int .i64 bz],.int .i64 a1] w fun e w'=>e= .returned (.bool r)/\Below w.heap.size w w':=by
 have ZJ:=Tryz.underlying52
 have HB:=aa.mk (Below.refl w.heap.size w)
 have H:(if 0<=ek then(if ek<=bz then(some (decide (bz<=a1))) else(some false)) else(some false))=some r:=h
 clear h
 by_cases c3:0<=ek
 .rw[if_pos c3] at H
  have qN:decide (0<=ek)=true:=decide_eq_true c3
  clear c3
  by_cases c4:ek<=bz
  .rw[if_pos c4] at H
   have lH:decide (ek<=bz)=true:=decide_eq_true c4
   clear c4
   obtain rfl:=Option.some.inj H
   go_enter Tryz.func94,Tryz.ntmps94
   go_wp2_with (first|((with_reducible refine bY (N:=2) rfl ?_);refine cZ ?hg (N:=2) ?hd (cs:=#[.int .i64 ek,.int .i64 bz]) (t:=52) ?hr ?_;(case hd=>rfl);(case hg=>rfl);(case hr=>first|(go_simp;done)|(go_simp;rfl));intro o7 hg w5 dM hb;have iF:=aa.mk (bT (by repeat(first|(with_reducible first|exact HB.out|apply ae|apply ah|apply au)|exact HB.out)) hb);have iE:=aa.mk (dM);have jg:=aa.mk ((by rw[hg];exact(aT (by repeat(first|(with_reducible first|exact HB.out|apply ae|apply ah|apply au)|exact HB.out))):w.heap.size<=o7));have jH:=aa.mk ((by rw[hg];exact(aT (by repeat(first|(with_reducible first|exact HB.out|apply ae|apply ah|apply au)|exact HB.out))):w.heap.size<=o7));clear HB;have HB:=iF;have pE:=iE;have YP:=jg;have K6:=jH;clear iF iE jg jH;clear hb dM hg;have aai:w5.cell? ⟨o7,0,none⟩=some (.int .i64 ek):=(ak pE.out 0).trans rfl;have aah:w5.cell? ⟨o7,1,none⟩=some (.int .i64 bz):=(ak pE.out 1).trans rfl;have Z6:=ag pE.out 0;have Z5:=ag pE.out 1))
   go_ret
   exact⟨by first|rfl|(simp[aW,aV]<;>rfl)|(simp[*,aW,aV]<;>rfl),by repeat(first|(with_reducible first|exact HB.out|apply ae|apply ah|apply au|refine aH ?_ K6.out)|exact HB.out)⟩
  .rw[if_neg c4] at H
   have lH:decide (ek<=bz)=false:=decide_eq_false c4
   clear c4
   obtain rfl:=Option.some.inj H
   go_enter Tryz.func94,Tryz.ntmps94
   go_wp2_with (first|((with_reducible refine bY (N:=2) rfl ?_);refine cZ ?hg (N:=2) ?hd (cs:=#[.int .i64 ek,.int .i64 bz]) (t:=52) ?hr ?_;(case hd=>rfl);(case hg=>rfl);(case hr=>first|(go_simp;done)|(go_simp;rfl));intro o7 hg w7 dM hb;have iF:=aa.mk (bT (by repeat(first|(with_reducible first|exact HB.out|apply ae|apply ah|apply au)|exact HB.out)) hb);have iE:=aa.mk (dM);have jg:=aa.mk ((by rw[hg];exact(aT (by repeat(first|(with_reducible first|exact HB.out|apply ae|apply ah|apply au)|exact HB.out))):w.heap.size<=o7));have jH:=aa.mk ((by rw[hg];exact(aT (by repeat(first|(with_reducible first|exact HB.out|apply ae|apply ah|apply au)|exact HB.out))):w.heap.size<=o7));clear HB;have HB:=iF;have pE:=iE;have YP:=jg;have K6:=jH;clear iF iE jg jH;clear hb dM hg;have uK:w7.cell? ⟨o7,0,none⟩=some (.int .i64 ek):=(ak pE.out 0).trans rfl;have uJ:w7.cell? ⟨o7,1,none⟩=some (.int .i64 bz):=(ak pE.out 1).trans rfl;have uF:=ag pE.out 0;have uE:=ag pE.out 1))
   go_ret
   exact⟨by first|rfl|(simp[aW,aV]<;>rfl)|(simp[*,aW,aV]<;>rfl),by repeat(first|(with_reducible first|exact HB.out|apply ae|apply ah|apply au|refine aH ?_ K6.out)|exact HB.out)⟩
 .rw[if_neg c3] at H
  have qN:decide (0<=ek)=false:=decide_eq_false c3
  clear c3
  obtain rfl:=Option.some.inj H
  go_enter Tryz.func94,Tryz.ntmps94
  go_wp2_with (first|((with_reducible refine bY (N:=2) rfl ?_);refine cZ ?hg (N:=2) ?hd (cs:=#[.int .i64 ek,.int .i64 bz]) (t:=52) ?hr ?_;(case hd=>rfl);(case hg=>rfl);(case hr=>first|(go_simp;done)|(go_simp;rfl));intro o7 hg w9 dM hb;have iF:=aa.mk (bT (by repeat(first|(with_reducible first|exact HB.out|apply ae|apply ah|apply au)|exact HB.out)) hb);have iE:=aa.mk (dM);have jg:=aa.mk ((by rw[hg];exact(aT (by repeat(first|(with_reducible first|exact HB.out|apply ae|apply ah|apply au)|exact HB.out))):w.heap.size<=o7));have jH:=aa.mk ((by rw[hg];exact(aT (by repeat(first|(with_reducible first|exact HB.out|apply ae|apply ah|apply au)|exact HB.out))):w.heap.size<=o7));clear HB;have HB:=iF;have pE:=iE;have YP:=jg;have K6:=jH;clear iF iE jg jH;clear hb dM hg;have ahy:w9.cell? ⟨o7,0,none⟩=some (.int .i64 ek):=(ak pE.out 0).trans rfl;have ahx:w9.cell? ⟨o7,1,none⟩=some (.int .i64 bz):=(ak pE.out 1).trans rfl;have agV:=ag pE.out 0;have agU:=ag pE.out 1))
  go_ret
  exact⟨by first|rfl|(simp[aW,aV]<;>rfl)|(simp[*,aW,aV]<;>rfl),by repeat(first|(with_reducible first|exact HB.out|apply ae|apply ah|apply au|refine aH ?_ K6.out)|exact HB.out)⟩
end Go.Proofs.YtkjoilgpmngndaaGreat.av
namespace Go.Proofs.YtkjoilgpmngndaaGreat.av
open Go.RowKit Go.Proofs.YtkjoilgpmngndaaGreatW.aA
structure bH where
 f0:Int
 f1:Int
 f2:Int
 f3:sO
def z105:bH:=⟨(0:Int),(0:Int),(0:Int),z52⟩
def uB:Kd bH:=Kd.Vd (Kd.pair (Kd.int .i64) (Kd.pair (Kd.int .i64) (Kd.pair (Kd.int .i64) MN))) (fun x:bH=>(x.f0,x.f1,x.f2,x.f3))
theorem P7{w:World}{x:bH}{cs:List Value}(h:uB.K w x cs):cs=[.int .i64 x.f0,.int .i64 x.f1,.int .i64 x.f2,.int .i64 x.f3.f0,.int .i64 x.f3.f1]:=by
 obtain⟨_,_,rfl,rfl,⟨_,_,rfl,rfl,⟨_,_,rfl,rfl,s3⟩⟩⟩:=h
 obtain rfl:=JW s3
 exact rfl
theorem Oq(w:World)(x:bH):uB.K w x [.int .i64 x.f0,.int .i64 x.f1,.int .i64 x.f2,.int .i64 x.f3.f0,.int .i64 x.f3.f1]:=⟨[.int .i64 x.f0],[.int .i64 x.f1,.int .i64 x.f2,.int .i64 x.f3.f0,.int .i64 x.f3.f1],rfl,rfl,⟨[.int .i64 x.f1],[.int .i64 x.f2,.int .i64 x.f3.f0,.int .i64 x.f3.f1],rfl,rfl,⟨[.int .i64 x.f2],[.int .i64 x.f3.f0,.int .i64 x.f3.f1],rfl,rfl,(ZB w x.f3)⟩⟩⟩
theorem R8(w:World)(base:Nat)(ok:Nat->Prop)(x:bH):uB.M w base ok x [.int .i64 x.f0,.int .i64 x.f1,.int .i64 x.f2,.int .i64 x.f3.f0,.int .i64 x.f3.f1]:=⟨[.int .i64 x.f0],[.int .i64 x.f1,.int .i64 x.f2,.int .i64 x.f3.f0,.int .i64 x.f3.f1],rfl,rfl,⟨[.int .i64 x.f1],[.int .i64 x.f2,.int .i64 x.f3.f0,.int .i64 x.f3.f1],rfl,rfl,⟨[.int .i64 x.f2],[.int .i64 x.f3.f0,.int .i64 x.f3.f1],rfl,rfl,(DV w base ok x.f3)⟩⟩⟩
def fI(xs:List bH)(i:Int):bH:=xs.getD i.toNat z105
theorem qO{w:World}{A:Option Addr}{n:Nat}{xs:List bH}(h:Kd.C uB w A n xs)(i:Int)(h0:0<=i)(h1:i<n):∃ad,A=some ad/\w.cell? (ad.add (i.toNat*5))=some (.int .i64 (fI xs i).f0)/\w.cell? ⟨(ad.add (i.toNat*5)).block,(ad.add (i.toNat*5)).off+1,none⟩=some (.int .i64 (fI xs i).f1)/\w.cell? ⟨(ad.add (i.toNat*5)).block,(ad.add (i.toNat*5)).off+2,none⟩=some (.int .i64 (fI xs i).f2)/\w.cell? ⟨(ad.add (i.toNat*5)).block,(ad.add (i.toNat*5)).off+3,none⟩=some (.int .i64 (fI xs i).f3.f0)/\w.cell? ⟨(ad.add (i.toNat*5)).block,(ad.add (i.toNat*5)).off+4,none⟩=some (.int .i64 (fI xs i).f3.f1):=by
 obtain⟨ad,c,e,_,hK,hc0⟩:=Kd.xG h z105 i h0 h1
 have hc:∀j u,c[j]?=some u->w.cell? (ad.add (i.toNat*5+j))=some u:=hc0
 obtain rfl:=P7 hK
 exact⟨ad,e,hc 0 _ rfl,by rw[<- fG _ _ 1 (by omega)];exact hc 1 _ rfl,by rw[<- fG _ _ 2 (by omega)];exact hc 2 _ rfl,by rw[<- fG _ _ 3 (by omega)];exact hc 3 _ rfl,by rw[<- fG _ _ 4 (by omega)];exact hc 4 _ rfl⟩
structure bS where
 f0:Int
 f1:Int
def UJ:bS:=⟨(0:Int),(0:Int)⟩
def Cv:Kd bS:=Kd.Vd (Kd.pair (Kd.int .i64) (Kd.int .i64)) (fun x:bS=>(x.f0,x.f1))
theorem P6{w:World}{x:bS}{cs:List Value}(h:Cv.K w x cs):cs=[.int .i64 x.f0,.int .i64 x.f1]:=by
 obtain⟨_,_,rfl,rfl,rfl⟩:=h
 exact rfl
theorem R7(w:World)(base:Nat)(ok:Nat->Prop)(x:bS):Cv.M w base ok x [.int .i64 x.f0,.int .i64 x.f1]:=⟨[.int .i64 x.f0],[.int .i64 x.f1],rfl,rfl,rfl⟩
def qw(xs:List bS)(i:Int):bS:=xs.getD i.toNat UJ
theorem OQ{w:World}{A:Option Addr}{n:Nat}{xs:List bS}(h:Kd.C Cv w A n xs)(i:Int)(h0:0<=i)(h1:i<n):∃ad,A=some ad/\w.cell? (ad.add (i.toNat*2))=some (.int .i64 (qw xs i).f0)/\w.cell? ⟨(ad.add (i.toNat*2)).block,(ad.add (i.toNat*2)).off+1,none⟩=some (.int .i64 (qw xs i).f1):=by
 obtain⟨ad,c,e,_,hK,hc0⟩:=Kd.xG h UJ i h0 h1
 have hc:∀j u,c[j]?=some u->w.cell? (ad.add (i.toNat*2+j))=some u:=hc0
 obtain rfl:=P6 hK
 exact⟨ad,e,hc 0 _ rfl,by rw[<- fG _ _ 1 (by omega)];exact hc 1 _ rfl⟩
end Go.Proofs.YtkjoilgpmngndaaGreat.av
