import Derived.Test.YtkjoilgpmngndaaGreatQ2
set_option maxRecDepth 100000
set_option linter.all false
namespace Go.Proofs.YtkjoilgpmngndaaGreat.au
open Go.RowKit YtkjoilgpmngndaaGreatW.aj YtkjoilgpmngndaaGreatW.aJ YtkjoilgpmngndaaGreatW.ek
attribute [local go_sem] o5 qY rX uN oH oG qZ qX
def bn.l0:Nat->List Int->List Int->Int->Option (Bool)
 |0,_,_,_=>none
 |k+1,x0,x1,x5=>if x5<(x0.length:Int) then(if 0<=x5 then(if x5<(x1.length:Int) then(if(rd x0 x5)=(rd x1 x5) then(bn.l0 k x0 x1 (wrap64 (x5+1))) else(some false)) else(none)) else(none)) else(some true)
def bn.f(k:Nat)(l0:List Int)(l1:List Int):Option (Bool):=if(l0.length:Int)=(l1.length:Int) then(bn.l0 k l0 l1 0) else(some false)
set_option maxHeartbeats 8000000 in
theorem bn.calls(k:Nat)(A0:Option Addr)(c0:Nat)(l0:List Int)(A1:Option Addr)(c1:Nat)(l1:List Int)(r:Bool)(w:World)(hr0:Kd.C (Kd.int .i64) w A0 l0.length l0)(hc0:l0.length<=c0)(hr1:Kd.C (Kd.int .i64) w A1 l1.length l1)(hc1:l1.length<=c1)(h:bn.f k l0 l1=some r):
  Calls Tryz.prog 16 #[.slice A0 l0.length c0,.slice A1 l1.length c1] w λe w'=>e= .returned (.bool r)/\bF w w':=by
 have IG:=aa.mk hr0
 have Xp:=aa.mk hc0
 clear hr0 hc0
 have HR1:=aa.mk hr1
 have PK:=aa.mk hc1
 clear hr1 hc1
 have H:(if(l0.length:Int)=(l1.length:Int) then(bn.l0 k l0 l1 0) else(some false))=some r:=h
 clear h
 by_cases c3:(l0.length:Int)=(l1.length:Int)
 .rw[if_pos c3] at H
  have qG:((l0.length:Int)==(l1.length:Int))=true:=beq_iff_eq.mpr c3
  have RI:((l0.length:Int) !=(l1.length:Int))=false:=bne_eq_false_iff_eq.mpr c3
  have acY:(l0.length==l1.length)=true:=by first|simpa using c3|(simp at c3 ⊢;omega)
  clear c3
  have H':=aa.mk H
  clear H
  go_enter Tryz.func16,Tryz.ntmps16
  go_wp2
  repeat(go_quiet (fail);try go_wp2)
  go_loopg [5] k (λkq v5 w'=>∃(kT:Int),v5= .int .i64 kT/\aa (bn.l0 kq l0 l1 kT=some r)/\aa (kq<=k)/\bF w w')
  case atStart=>exact⟨(0),(by first|rfl|(simp;done)|(simp[*];done)),H',⟨Nat.le_refl _⟩,by repeat(first|exact bF.refl _|apply bF.step)⟩
  case round=>
   clear H'
   (try clear c1);(try clear p2);(try clear c3);(try clear qG);(try clear RI);(try clear acY)
   obtain⟨kT,rfl,HA,qN,⟨m1,rfl⟩⟩:=hrel
   cases gk with
   |zero=>exact absurd HA.out (by simp[bn.l0])
   |succ k1=>
    have H:=HA.out
    clear HA
    simp only[bn.l0] at H
    by_cases c4:kT<(l0.length:Int)
    .rw[if_pos c4] at H
     have ze:decide (kT<(l0.length:Int))=true:=decide_eq_true c4
     clear c4
     by_cases c5:0<=kT
     .rw[if_pos c5] at H
      have Iq:decide (0<=kT)=true:=decide_eq_true c5
      clear c5
      by_cases c6:kT<(l1.length:Int)
      .rw[if_pos c6] at H
       have x8:decide (kT<(l1.length:Int))=true:=decide_eq_true c6
       clear c6
       by_cases c7:(rd l0 kT)=(rd l1 kT)
       .rw[if_pos c7] at H
        have zR:((rd l0 kT)==(rd l1 kT))=true:=beq_iff_eq.mpr c7
        have aiH:((rd l0 kT) !=(rd l1 kT))=false:=bne_eq_false_iff_eq.mpr c7
        clear c7
        have H':=aa.mk H
        clear H
        have JQ:0<=(kT:Int):=of_decide_eq_true (by first|(with_reducible assumption)|assumption)
        have JE:kT<(l0.length:Int):=of_decide_eq_true (by first|(with_reducible assumption)|assumption)
        obtain⟨adj,Zc,Um⟩:=Kd.cK IG.out kT JQ JE
        cases Zc
        replace JQ:=eq_true JQ
        replace JE:=eq_true JE
        have JP:0<=(kT:Int):=of_decide_eq_true (by first|(with_reducible assumption)|assumption)
        have JD:kT<(l1.length:Int):=of_decide_eq_true (by first|(with_reducible assumption)|assumption)
        obtain⟨adi,Zb,Ul⟩:=Kd.cK HR1.out kT JP JD
        cases Zb
        replace JP:=eq_true JP
        replace JD:=eq_true JD
        go_wp2
        repeat(go_quiet (fail);try go_wp2)
        go_roundg k1
        case measure=>have:=qN.out;omega
        case rel=>exact⟨(wrap64 (kT+1)),(by first|rfl|(simp;done)|(simp[*];done)),H',⟨by have:=qN.out;omega⟩,by repeat(first|exact bF.refl _|apply bF.step)⟩
       .rw[if_neg c7] at H
        have zR:((rd l0 kT)==(rd l1 kT))=false:=beq_eq_false_iff_ne.mpr c7
        have aiH:((rd l0 kT) !=(rd l1 kT))=true:=bne_iff_ne.mpr c7
        obtain rfl:=Option.some.inj H
        have JQ:0<=(kT:Int):=of_decide_eq_true (by first|(with_reducible assumption)|assumption)
        have JE:kT<(l0.length:Int):=of_decide_eq_true (by first|(with_reducible assumption)|assumption)
        obtain⟨adj,Zc,Um⟩:=Kd.cK IG.out kT JQ JE
        cases Zc
        replace JQ:=eq_true JQ
        replace JE:=eq_true JE
        have JP:0<=(kT:Int):=of_decide_eq_true (by first|(with_reducible assumption)|assumption)
        have JD:kT<(l1.length:Int):=of_decide_eq_true (by first|(with_reducible assumption)|assumption)
        obtain⟨adi,Zb,Ul⟩:=Kd.cK HR1.out kT JP JD
        cases Zb
        replace JP:=eq_true JP
        replace JD:=eq_true JD
        go_wp2
        repeat(go_quiet (fail);try go_wp2)
        go_ret
        exact⟨by first|rfl|(simp;done)|(simp[*];done),by repeat(first|exact bF.refl _|apply bF.step)⟩
      .rw[if_neg c6] at H
       exact absurd H (by simp)
     .rw[if_neg c5] at H
      exact absurd H (by simp)
    .rw[if_neg c4] at H
     have ze:decide (kT<(l0.length:Int))=false:=decide_eq_false c4
     clear c4
     obtain rfl:=Option.some.inj H
     go_wp2
     repeat(go_quiet (fail);try go_wp2)
     go_ret
     exact⟨by first|rfl|(simp;done)|(simp[*];done),by repeat(first|exact bF.refl _|apply bF.step)⟩
 .rw[if_neg c3] at H
  have qG:((l0.length:Int)==(l1.length:Int))=false:=beq_eq_false_iff_ne.mpr c3
  have RI:((l0.length:Int) !=(l1.length:Int))=true:=bne_iff_ne.mpr c3
  have acY:(l0.length==l1.length)=false:=by first|simpa using c3|(simp at c3 ⊢;omega)
  obtain rfl:=Option.some.inj H
  go_enter Tryz.func16,Tryz.ntmps16
  go_wp2
  repeat(go_quiet (fail);try go_wp2)
  go_ret
  exact⟨by first|rfl|(simp;done)|(simp[*];done),by repeat(first|exact bF.refl _|apply bF.step)⟩
def jh.f(bI:List (vC))(aU:List (pO)):Option (Bool):=if(bI.length:Int)<=11 then(some (decide ((aU.length:Int)<=24))) else(some false)
set_option maxHeartbeats 8000000 in
theorem jh.calls(gL:Option Addr)(fQ:Nat)(bI:List (vC))(gu:Option Addr)(fw:Nat)(aU:List (pO))(r:Bool)(w:World)(qf:Kd.C Hw w gL bI.length bI)(qg:bI.length<=fQ)(nL:Kd.C Dv w gu aU.length aU)(nM:aU.length<=fw)(h:jh.f bI aU=some r):
  Calls Tryz.prog 19 #[.agg #[.slice gL bI.length fQ,.slice gu aU.length fw]] w λe w'=>e= .returned (.bool r)/\Below w.heap.size w w':=by
 have ag8:=Tryz.underlying62
 have CF:=aa.mk qf
 have Nw:=aa.mk qg
 clear qf qg
 have yu:=aa.mk nL
 have IK:=aa.mk nM
 clear nL nM
 have HB:=aa.mk (Below.refl w.heap.size w)
 have H:(if(bI.length:Int)<=11 then(some (decide ((aU.length:Int)<=24))) else(some false))=some r:=h
 clear h
 by_cases c2:(bI.length:Int)<=11
 .rw[if_pos c2] at H
  have Cm:decide ((bI.length:Int)<=11)=true:=decide_eq_true c2
  have RL:decide (bI.length<=11)=true:=decide_eq_true (by omega)
  clear c2
  obtain rfl:=Option.some.inj H
  go_enter Tryz.func19,Tryz.ntmps19
  go_wp2_with (first|((with_reducible refine cZ (N:=1) rfl ?_);(try(refine kF (by rfl) ?_;dsimp only));refine dA ?hg (N:=1) ?hd (cs:=#[.slice gL bI.length fQ,.slice gu aU.length fw]) (t:=62) ?hr ?_;(case hd=>rfl);(case hg=>rfl);(case hr=>first|(go_simp;done)|(go_simp;rfl));intro xR hg w3 eH hb;have fH:=aa.mk (bL (by repeat(first|(with_reducible first|exact HB.out|apply ae|apply ag|apply ah)|exact HB.out)) hb);have fU:=aa.mk (eH);have gV:=aa.mk ((by rw[hg];exact(aW (by repeat(first|(with_reducible first|exact HB.out|apply ae|apply ag|apply ah)|exact HB.out))):w.heap.size<=xR));have iT:=aa.mk ((by rw[hg];exact(aW (by repeat(first|(with_reducible first|exact HB.out|apply ae|apply ag|apply ah)|exact HB.out))):w.heap.size<=xR));clear HB;have HB:=fH;have yB:=fU;have aek:=gV;have S9:=iT;clear fH fU gV iT;clear hb eH hg;have Kt:w3.cell? ⟨xR,0,none⟩=some (.slice gL bI.length fQ):=(aA yB.out 0).trans rfl;have Kr:w3.cell? ⟨xR,1,none⟩=some (.slice gu aU.length fw):=(aA yB.out 1).trans rfl;have Kn:=aD yB.out 0;have Km:=aD yB.out 1))
  go_ret
  exact⟨by first|rfl|(simp[aY,aX]<;>rfl)|(simp[*,aY,aX]<;>rfl),by repeat(first|(with_reducible first|exact HB.out|apply ae|apply ag|apply ah|refine az ?_ S9.out)|exact HB.out)⟩
 .rw[if_neg c2] at H
  have Cm:decide ((bI.length:Int)<=11)=false:=decide_eq_false c2
  have RL:decide (bI.length<=11)=false:=decide_eq_false (by omega)
  clear c2
  obtain rfl:=Option.some.inj H
  go_enter Tryz.func19,Tryz.ntmps19
  go_wp2_with (first|((with_reducible refine cZ (N:=1) rfl ?_);(try(refine kF (by rfl) ?_;dsimp only));refine dA ?hg (N:=1) ?hd (cs:=#[.slice gL bI.length fQ,.slice gu aU.length fw]) (t:=62) ?hr ?_;(case hd=>rfl);(case hg=>rfl);(case hr=>first|(go_simp;done)|(go_simp;rfl));intro xR hg w5 eH hb;have fH:=aa.mk (bL (by repeat(first|(with_reducible first|exact HB.out|apply ae|apply ag|apply ah)|exact HB.out)) hb);have fU:=aa.mk (eH);have gV:=aa.mk ((by rw[hg];exact(aW (by repeat(first|(with_reducible first|exact HB.out|apply ae|apply ag|apply ah)|exact HB.out))):w.heap.size<=xR));have iT:=aa.mk ((by rw[hg];exact(aW (by repeat(first|(with_reducible first|exact HB.out|apply ae|apply ag|apply ah)|exact HB.out))):w.heap.size<=xR));clear HB;have HB:=fH;have yB:=fU;have aek:=gV;have S9:=iT;clear fH fU gV iT;clear hb eH hg;have Kq:w5.cell? ⟨xR,0,none⟩=some (.slice gL bI.length fQ):=(aA yB.out 0).trans rfl;have Ko:w5.cell? ⟨xR,1,none⟩=some (.slice gu aU.length fw):=(aA yB.out 1).trans rfl;have Kl:=aD yB.out 0;have Kk:=aD yB.out 1))
  go_ret
  exact⟨by first|rfl|(simp[aY,aX]<;>rfl)|(simp[*,aY,aX]<;>rfl),by repeat(first|(with_reducible first|exact HB.out|apply ae|apply ag|apply ah|refine az ?_ S9.out)|exact HB.out)⟩
def fo.f(bI:List Int)(aU:List Int):Option (Bool):=if(bI.length:Int)<=70 then(some (decide ((aU.length:Int)<=12))) else(some false)
set_option maxHeartbeats 8000000 in
theorem fo.calls(gL:Option Addr)(fQ:Nat)(bI:List Int)(gu:Option Addr)(fw:Nat)(aU:List Int)(r:Bool)(w:World)(qf:Kd.C (Kd.int .i64) w gL bI.length bI)(qg:bI.length<=fQ)(nL:Kd.C (Kd.int .i64) w gu aU.length aU)(nM:aU.length<=fw)(h:fo.f bI aU=some r):
  Calls Tryz.prog 54 #[.agg #[.slice gL bI.length fQ,.slice gu aU.length fw]] w λe w'=>e= .returned (.bool r)/\Below w.heap.size w w':=by
 have hu64:=Tryz.underlying64
 have CF:=aa.mk qf
 have Nw:=aa.mk qg
 clear qf qg
 have yu:=aa.mk nL
 have IK:=aa.mk nM
 clear nL nM
 have HB:=aa.mk (Below.refl w.heap.size w)
 have H:(if(bI.length:Int)<=70 then(some (decide ((aU.length:Int)<=12))) else(some false))=some r:=h
 clear h
 by_cases c2:(bI.length:Int)<=70
 .rw[if_pos c2] at H
  have Cm:decide ((bI.length:Int)<=70)=true:=decide_eq_true c2
  have RL:decide (bI.length<=70)=true:=decide_eq_true (by omega)
  clear c2
  obtain rfl:=Option.some.inj H
  go_enter Tryz.func54,Tryz.ntmps54
  go_wp2_with (first|((with_reducible refine cZ (N:=1) rfl ?_);(try(refine kF (by rfl) ?_;dsimp only));refine dA ?hg (N:=1) ?hd (cs:=#[.slice gL bI.length fQ,.slice gu aU.length fw]) (t:=64) ?hr ?_;(case hd=>rfl);(case hg=>rfl);(case hr=>first|(go_simp;done)|(go_simp;rfl));intro xQ hg w3 eH hb;have fH:=aa.mk (bL (by repeat(first|(with_reducible first|exact HB.out|apply ae|apply ag|apply ah)|exact HB.out)) hb);have fU:=aa.mk (eH);have gV:=aa.mk ((by rw[hg];exact(aW (by repeat(first|(with_reducible first|exact HB.out|apply ae|apply ag|apply ah)|exact HB.out))):w.heap.size<=xQ));have iT:=aa.mk ((by rw[hg];exact(aW (by repeat(first|(with_reducible first|exact HB.out|apply ae|apply ag|apply ah)|exact HB.out))):w.heap.size<=xQ));clear HB;have HB:=fH;have yA:=fU;have aej:=gV;have SY:=iT;clear fH fU gV iT;clear hb eH hg;have Kt:w3.cell? ⟨xQ,0,none⟩=some (.slice gL bI.length fQ):=(aA yA.out 0).trans rfl;have Kr:w3.cell? ⟨xQ,1,none⟩=some (.slice gu aU.length fw):=(aA yA.out 1).trans rfl;have Kn:=aD yA.out 0;have Km:=aD yA.out 1))
  go_ret
  exact⟨by first|rfl|(simp[aY,aX]<;>rfl)|(simp[*,aY,aX]<;>rfl),by repeat(first|(with_reducible first|exact HB.out|apply ae|apply ag|apply ah|refine az ?_ SY.out)|exact HB.out)⟩
 .rw[if_neg c2] at H
  have Cm:decide ((bI.length:Int)<=70)=false:=decide_eq_false c2
  have RL:decide (bI.length<=70)=false:=decide_eq_false (by omega)
  clear c2
  obtain rfl:=Option.some.inj H
  go_enter Tryz.func54,Tryz.ntmps54
  go_wp2_with (first|((with_reducible refine cZ (N:=1) rfl ?_);(try(refine kF (by rfl) ?_;dsimp only));refine dA ?hg (N:=1) ?hd (cs:=#[.slice gL bI.length fQ,.slice gu aU.length fw]) (t:=64) ?hr ?_;(case hd=>rfl);(case hg=>rfl);(case hr=>first|(go_simp;done)|(go_simp;rfl));intro xQ hg w5 eH hb;have fH:=aa.mk (bL (by repeat(first|(with_reducible first|exact HB.out|apply ae|apply ag|apply ah)|exact HB.out)) hb);have fU:=aa.mk (eH);have gV:=aa.mk ((by rw[hg];exact(aW (by repeat(first|(with_reducible first|exact HB.out|apply ae|apply ag|apply ah)|exact HB.out))):w.heap.size<=xQ));have iT:=aa.mk ((by rw[hg];exact(aW (by repeat(first|(with_reducible first|exact HB.out|apply ae|apply ag|apply ah)|exact HB.out))):w.heap.size<=xQ));clear HB;have HB:=fH;have yA:=fU;have aej:=gV;have SY:=iT;clear fH fU gV iT;clear hb eH hg;have Kq:w5.cell? ⟨xQ,0,none⟩=some (.slice gL bI.length fQ):=(aA yA.out 0).trans rfl;have Ko:w5.cell? ⟨xQ,1,none⟩=some (.slice gu aU.length fw):=(aA yA.out 1).trans rfl;have Kl:=aD yA.out 0;have Kk:=aD yA.out 1))
  go_ret
  exact⟨by first|rfl|(simp[aY,aX]<;>rfl)|(simp[*,aY,aX]<;>rfl),by repeat(first|(with_reducible first|exact HB.out|apply ae|apply ag|apply ah|refine az ?_ SY.out)|exact HB.out)⟩
mutual
def aT.l0:Nat->List (S64)->Int->Option (Bool)
 |0,_,_=>none
 |k+1,x0,x3=>if x3<(x0.length:Int) then(aT.j1 k x0 x3 (decide (x3<12))) else(aT.j1 k x0 x3 false)
def aT.j1:Nat->List (S64)->Int->Bool->Option (Bool)
 |0,_,_,_=>none
 |k+1,x0,x3,x11=>if x11=true then(if 0<=x3 then(if x3<(x0.length:Int) then((fo.f ((fD x0 x3).f0) ((fD x0 x3).f1)).bind λt160=>(if t160=true then(aT.l0 k x0 (wrap64 (x3+1))) else(some false))) else(none)) else(none)) else(some (decide ((x0.length:Int)<=11)))
end
def aT.f(k:Nat)(l0:List (S64)):Option (Bool):=aT.l0 k l0 0
set_option maxHeartbeats 8000000 in
theorem aT.calls(k:Nat)(A0:Option Addr)(c0:Nat)(l0:List (S64))(r:Bool)(w:World)(hr0:Kd.C IX w A0 l0.length l0)(hc0:l0.length<=c0)(h:aT.f k l0=some r):
  Calls Tryz.prog 20 #[.slice A0 l0.length c0] w λe w'=>e= .returned (.bool r)/\Below w.heap.size w w':=by
 have hu64:=Tryz.underlying64
 have IG:=aa.mk hr0
 have Xp:=aa.mk hc0
 clear hr0 hc0
 have HB:=aa.mk (Below.refl w.heap.size w)
 have H:(aT.l0 k l0 0)=some r:=h
 clear h
 have H':=aa.mk H
 clear H
 go_enter Tryz.func20,Tryz.ntmps20
 go_wp2
 go_loopg [3] k (λkq v3 w'=>∃(gP:Int),v3= .int .i64 gP/\aa (aT.l0 kq l0 gP=some r)/\aa (kq<=k)/\aa (Below w.heap.size w w'))
 case atStart=>exact⟨(0),(by first|rfl|(simp;done)|(simp[*];done)),H',⟨Nat.le_refl _⟩,⟨by repeat(first|(with_reducible first|exact HB.out|apply ae|apply ag|apply ah)|exact HB.out)⟩⟩
 case round=>
  clear H'
  obtain⟨gP,rfl,HA,qN,HB⟩:=hrel
  cases gk with
  |zero=>exact absurd HA.out (by simp[aT.l0])
  |succ k1=>
   have H:=HA.out
   clear HA
   simp only[aT.l0] at H
   have HC2:=aa.mk H
   clear H
   go_upto_region 2 with(fail)
   go_cut [11] (λv11 wc=>∃(kq:Nat) (Me:Bool),v11= .bool Me/\aa (aT.j1 kq l0 gP Me=some r)/\aa (kq<=k1)/\aa (Below w.heap.size w wc))
   case first=>
    have H:=HC2.out
    clear HC2
    by_cases c3:gP<(l0.length:Int)
    .rw[if_pos c3] at H
     have qG:decide (gP<(l0.length:Int))=true:=decide_eq_true c3
     clear c3
     (first|rw[qG]|(simp only[dI,dY];rw[qG])|skip)
     have H':=aa.mk H
     clear H
     go_wp2
     go_meet
     case rel=>exact⟨_,(decide (gP<12)),(by first|rfl|(simp;done)|(simp[*];done)),H',⟨by have:=qN.out;first|omega|exact Nat.le_refl _⟩,⟨by repeat(first|(with_reducible first|exact HB.out|apply ae|apply ag|apply ah)|exact HB.out)⟩⟩
    .rw[if_neg c3] at H
     have qG:decide (gP<(l0.length:Int))=false:=decide_eq_false c3
     clear c3
     (first|rw[qG]|(simp only[dI,dY];rw[qG])|skip)
     have H':=aa.mk H
     clear H
     go_wp2
     go_meet
     case rel=>exact⟨_,(false),(by first|rfl|(simp;done)|(simp[*];done)),H',⟨by have:=qN.out;first|omega|exact Nat.le_refl _⟩,⟨by repeat(first|(with_reducible first|exact HB.out|apply ae|apply ag|apply ah)|exact HB.out)⟩⟩
   case rest=>
    clear HC2
    (try clear c2);(try clear p2);(try clear c3);(try clear qG)
    obtain⟨kq,Me,rfl,HA,HJ1,HB⟩:=hcut
    cases kq with
    |zero=>exact absurd HA.out (by simp[aT.j1])
    |succ kj1=>
     have H:=HA.out
     clear HA
     simp only[aT.j1] at H
     by_cases c4:Me=true
     .subst c4
      replace H:(if 0<=gP then(if gP<(l0.length:Int) then((fo.f ((fD l0 gP).f0) ((fD l0 gP).f1)).bind λt160=>(if t160=true then(aT.l0 kj1 l0 (wrap64 (gP+1))) else(some false))) else(none)) else(none))=some r:=by rw[if_pos rfl] at H;exact H
      by_cases c5:0<=gP
      .rw[if_pos c5] at H
       have Iq:decide (0<=gP)=true:=decide_eq_true c5
       clear c5
       by_cases c6:gP<(l0.length:Int)
       .rw[if_pos c6] at H
        have x8:decide (gP<(l0.length:Int))=true:=decide_eq_true c6
        clear c6
        replace H:=Option.bind_eq_some_iff.mp H
        obtain⟨t160,A70,H⟩:=H
        replace H:(if t160=true then(aT.l0 kj1 l0 (wrap64 (gP+1))) else(some false))=some r:=H
        have A7:=aa.mk A70
        clear A70
        by_cases c8:t160=true
        .subst c8
         replace H:(aT.l0 kj1 l0 (wrap64 (gP+1)))=some r:=by rw[if_pos rfl] at H;exact H
         have H':=aa.mk H
         clear H
         have JO:0<=(gP:Int):=of_decide_eq_true (by first|(with_reducible assumption)|assumption)
         have JC:gP<(l0.length:Int):=of_decide_eq_true (by first|(with_reducible assumption)|assumption)
         obtain⟨adh,Mc,KN,Ma,KM,Za,sH,sG,xJ,xL,xI,xK⟩:=KX IG.out gP JO JC
         cases Za
         replace sH:=(HB.out.cell (World.block_lt_of_cell? w _ sH)).trans sH
         replace sG:=(HB.out.cell (World.block_lt_of_cell? w _ sG)).trans sG
         have F5:=aa.mk xL
         have F7:=aa.mk xJ
         clear xL xJ
         have F4:=aa.mk xK
         have F6:=aa.mk xI
         clear xK xI
         replace JO:=eq_true JO
         replace JC:=eq_true JC
         go_wp2_with (first|((with_reducible refine fu (f:=54) rfl ?_);refine lN (some 18) rfl rfl Tryz.func54 (by kernel_rfl) rfl #[.agg #[.slice Mc ((fD l0 gP).f0).length KN,.slice Ma ((fD l0 gP).f1).length KM]] rfl (by(try simp only[List.map_toArray,List.map_cons,List.map_nil]);first|done|rfl|(simp only[List.length_drop,List.length_take];rfl)) ?_;(with_reducible refine(fo.calls _ _ ((fD l0 gP).f0) _ _ ((fD l0 gP).f1) true _ ?side1 ?side2 ?side3 ?side4 A7.out).mono ?_);(case side1=>repeat(first|exact(Kd.av F5.out HB.out)|(with_reducible refine Kd.Ao ?_ _)|(with_reducible refine Kd.Am ?_ _)|(with_reducible refine Kd.Gb ?_)));(case side2=>exact F7.out);(case side3=>repeat(first|exact(Kd.av F4.out HB.out)|(with_reducible refine Kd.Ao ?_ _)|(with_reducible refine Kd.Am ?_ _)|(with_reducible refine Kd.Gb ?_)));(case side4=>exact F6.out);rintro e w9 ⟨rfl,hb⟩;refine⟨_,rfl,?_⟩;have fH:=aa.mk (bL (by repeat(first|(with_reducible first|exact HB.out|apply ae|apply ag|apply ah)|exact HB.out)) hb);clear HB;have HB:=fH;clear fH;(try clear hb);(try clear hb2);(try clear hk);(try clear hi)))
         go_roundg kj1
         case measure=>have:=qN.out;have:=HJ1.out;omega
         case rel=>exact⟨(wrap64 (gP+1)),(by first|rfl|(simp;done)|(simp[*];done)),H',⟨by have:=qN.out;have:=HJ1.out;omega⟩,⟨by repeat(first|(with_reducible first|exact HB.out|apply ae|apply ag|apply ah)|exact HB.out)⟩⟩
        .replace c8:=Bool.eq_false_iff.mpr c8
         subst c8
         replace H:(some false)=some r:=by rw[if_neg (show ¬(false=true) by decide)] at H;exact H
         obtain rfl:=Option.some.inj H
         have JO:0<=(gP:Int):=of_decide_eq_true (by first|(with_reducible assumption)|assumption)
         have JC:gP<(l0.length:Int):=of_decide_eq_true (by first|(with_reducible assumption)|assumption)
         obtain⟨adh,Mc,KN,Ma,KM,Za,sH,sG,xJ,xL,xI,xK⟩:=KX IG.out gP JO JC
         cases Za
         replace sH:=(HB.out.cell (World.block_lt_of_cell? w _ sH)).trans sH
         replace sG:=(HB.out.cell (World.block_lt_of_cell? w _ sG)).trans sG
         have F5:=aa.mk xL
         have F7:=aa.mk xJ
         clear xL xJ
         have F4:=aa.mk xK
         have F6:=aa.mk xI
         clear xK xI
         replace JO:=eq_true JO
         replace JC:=eq_true JC
         go_wp2_with (first|((with_reducible refine fu (f:=54) rfl ?_);refine lN (some 18) rfl rfl Tryz.func54 (by kernel_rfl) rfl #[.agg #[.slice Mc ((fD l0 gP).f0).length KN,.slice Ma ((fD l0 gP).f1).length KM]] rfl (by(try simp only[List.map_toArray,List.map_cons,List.map_nil]);first|done|rfl|(simp only[List.length_drop,List.length_take];rfl)) ?_;(with_reducible refine(fo.calls _ _ ((fD l0 gP).f0) _ _ ((fD l0 gP).f1) false _ ?side1 ?side2 ?side3 ?side4 A7.out).mono ?_);(case side1=>repeat(first|exact(Kd.av F5.out HB.out)|(with_reducible refine Kd.Ao ?_ _)|(with_reducible refine Kd.Am ?_ _)|(with_reducible refine Kd.Gb ?_)));(case side2=>exact F7.out);(case side3=>repeat(first|exact(Kd.av F4.out HB.out)|(with_reducible refine Kd.Ao ?_ _)|(with_reducible refine Kd.Am ?_ _)|(with_reducible refine Kd.Gb ?_)));(case side4=>exact F6.out);rintro e w10 ⟨rfl,hb⟩;refine⟨_,rfl,?_⟩;have fH:=aa.mk (bL (by repeat(first|(with_reducible first|exact HB.out|apply ae|apply ag|apply ah)|exact HB.out)) hb);clear HB;have HB:=fH;clear fH;(try clear hb);(try clear hb2);(try clear hk);(try clear hi)))
         go_ret
         exact⟨by first|rfl|(simp[aY,aX]<;>rfl)|(simp[*,aY,aX]<;>rfl),by repeat(first|(with_reducible first|exact HB.out|apply ae|apply ag|apply ah)|exact HB.out)⟩
       .rw[if_neg c6] at H
        exact absurd H (by simp)
      .rw[if_neg c5] at H
       exact absurd H (by simp)
     .replace c4:=Bool.eq_false_iff.mpr c4
      subst c4
      replace H:(some (decide ((l0.length:Int)<=11)))=some r:=by rw[if_neg (show ¬(false=true) by decide)] at H;exact H
      obtain rfl:=Option.some.inj H
      go_wp2
      go_ret
      exact⟨by first|rfl|(simp[aY,aX]<;>rfl)|(simp[*,aY,aX]<;>rfl),by repeat(first|(with_reducible first|exact HB.out|apply ae|apply ag|apply ah)|exact HB.out)⟩
def gM.f(di:Int)(dU:Int):Option (Int×Int):=some (di,dU)
set_option maxHeartbeats 8000000 in
theorem gM.calls(di:Int)(dU:Int)(r1:Int)(r2:Int)(w:World)(h:gM.f di dU=some (r1,r2)):
  Calls Tryz.prog 55 #[.agg #[.int .i64 di,.int .i64 dU]] w λe w'=>e= .returned (.agg #[.int .i64 r1,.int .i64 r2])/\Below w.heap.size w w':=by
 have ag7:=Tryz.underlying72
 have OO:=Tryz.underlying88
 have HB:=aa.mk (Below.refl w.heap.size w)
 have H:(some (di,dU))=some (r1,r2):=h
 clear h
 simp only[Option.some.injEq,Prod.mk.injEq] at H
 obtain⟨rfl,rfl⟩:=H
 go_enter Tryz.func55,Tryz.ntmps55
 go_wp2_with (first|((with_reducible refine cZ (N:=1) rfl ?_);refine dA ?hg (N:=1) ?hd (cs:=#[.int .i64 di,.int .i64 dU]) (t:=72) ?hr ?_;(case hd=>rfl);(case hg=>rfl);(case hr=>first|(go_simp;done)|(go_simp;rfl));intro xP hg w2 eH hb;have fH:=aa.mk (bL (by repeat(first|(with_reducible first|exact HB.out|apply ae|apply ag|apply ah)|exact HB.out)) hb);have fU:=aa.mk (eH);have gV:=aa.mk ((by rw[hg];exact(aW (by repeat(first|(with_reducible first|exact HB.out|apply ae|apply ag|apply ah)|exact HB.out))):w.heap.size<=xP));have iT:=aa.mk ((by rw[hg];exact(aW (by repeat(first|(with_reducible first|exact HB.out|apply ae|apply ag|apply ah)|exact HB.out))):w.heap.size<=xP));clear HB;have HB:=fH;have yz:=fU;have am8:=gV;have Ny:=iT;clear fH fU gV iT;clear hb eH hg)|((with_reducible refine cZ (N:=2) rfl ?_);refine dA ?hg (N:=2) ?hd (cs:=#[.int .i64 0,.int .i64 0]) (t:=88) ?hr ?_;(case hd=>rfl);(case hg=>rfl);(case hr=>first|(go_simp;done)|(go_simp;rfl));intro Cb hg w3 eH hb;have fH:=aa.mk (dn (g:=xP) (o:= .cells #[.int .i64 di,.int .i64 dU] 72 (0,0)) (by(with_reducible repeat(first|refine aC ?_ _|refine aG ?_|refine ay ?_ _));exact yz.out) hb);have fU:=aa.mk (bL (by repeat(first|(with_reducible first|exact HB.out|apply ae|apply ag|apply ah|refine az ?_ Ny.out)|exact HB.out)) hb);have gV:=aa.mk (eH);have iT:=aa.mk ((by rw[hg];exact(aW (by repeat(first|(with_reducible first|exact HB.out|apply ae|apply ag|apply ah|refine az ?_ Ny.out)|exact HB.out))):w.heap.size<=Cb));have tK:=aa.mk ((by rw[hg];exact(aW (by repeat(first|(with_reducible first|exact HB.out|apply ae|apply ag|apply ah|refine az ?_ Ny.out)|exact HB.out))):w.heap.size<=Cb));have yN:=aa.mk ((by rw[hg];exact Nat.ne_of_lt (iC (g:=xP) (o:= .cells #[.int .i64 di,.int .i64 dU] 72 (0,0)) (by(with_reducible repeat(first|refine aC ?_ _|refine aG ?_|refine ay ?_ _));exact yz.out)):xP≠Cb));have yM:=aa.mk ((by rw[hg];exact Nat.ne_of_gt (iC (g:=xP) (o:= .cells #[.int .i64 di,.int .i64 dU] 72 (0,0)) (by(with_reducible repeat(first|refine aC ?_ _|refine aG ?_|refine ay ?_ _));exact yz.out)):Cb≠xP));clear yz;clear HB;have yz:=fH;have HB:=fU;have IU:=gV;have am7:=iT;have aeq:=tK;have PE:=yN;have PD:=yM;clear fH fU gV iT tK yN yM;clear hb eH hg;have aoj:=PE.out;have aog:=PD.out;have Rp:w3.cell? ⟨xP,0,none⟩=some (.int .i64 di):=(aA yz.out 0).trans rfl;have Ro:w3.cell? ⟨xP,1,none⟩=some (.int .i64 dU):=(aA yz.out 1).trans rfl;have Rl:=aD yz.out 0;have Rk:=aD yz.out 1;have Kq:w3.cell? ⟨Cb,0,none⟩=some (.int .i64 0):=(aA IU.out 0).trans rfl;have Ko:w3.cell? ⟨Cb,1,none⟩=some (.int .i64 0):=(aA IU.out 1).trans rfl;have Kl:=aD IU.out 0;have Kk:=aD IU.out 1))
 refine bodyPost_ret (results_cell_row rfl _ _ Cb 88 #[.int .i64 di,.int .i64 dU] (0,0) _ rfl (by(with_reducible repeat(first|refine aC ?_ _|refine aG ?_|refine ay ?_ _));refine nE (cs:=#[.int .i64 di,.int .i64 0]) ?_ 1 _ rfl;(with_reducible repeat(first|refine aC ?_ _|refine aG ?_|refine ay ?_ _));refine nE (cs:=#[.int .i64 0,.int .i64 0]) ?_ 0 _ rfl;(with_reducible repeat(first|refine aC ?_ _|refine aG ?_|refine ay ?_ _));exact IU.out) Tryz.underlying88 rfl (by kernel_rfl)) rfl ?_
 exact⟨by first|rfl|(simp[aY,aX]<;>rfl)|(simp[*,aY,aX]<;>rfl),by repeat(first|(with_reducible first|exact HB.out|apply ae|apply ag|apply ah|refine az ?_ Ny.out|refine az ?_ aeq.out)|exact HB.out)⟩
end Go.Proofs.YtkjoilgpmngndaaGreat.au
