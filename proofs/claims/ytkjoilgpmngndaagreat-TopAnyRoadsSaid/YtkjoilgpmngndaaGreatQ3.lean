import Derived.TacticsInMore
import Derived.Test.YtkjoilgpmngndaaGreatQ2
set_option maxRecDepth 100000
set_option linter.all false
namespace Go.Proofs.YtkjoilgpmngndaaGreat.au
open Go.RowKit YtkjoilgpmngndaaGreatW.aj YtkjoilgpmngndaaGreatW.aJ YtkjoilgpmngndaaGreatW.ek
attribute [local go_sem] o5 qY rX uN oH oG qZ qX
def fF.f(di:Int)(dU:Int)(a1:Int)(a2:Int):Option (Bool):=if a1<=di then(if di<=dU then(some (decide (dU<=a2))) else(some false)) else(some false)
set_option maxHeartbeats 8000000 in
theorem fF.calls(di:Int)(dU:Int)(a1:Int)(a2:Int)(r:Bool)(w:World)(h:fF.f di dU a1 a2=some r):
  Calls Tryz.prog 109 #[.agg #[.int .i64 di,.int .i64 dU],.int .i64 a1,.int .i64 a2] w λe w'=>e= .returned (.bool r)/\Below w.heap.size w w':=by
 have OO:=Tryz.underlying88
 have HB:=aa.mk (Below.refl w.heap.size w)
 have H:(if a1<=di then(if di<=dU then(some (decide (dU<=a2))) else(some false)) else(some false))=some r:=h
 clear h
 by_cases c4:a1<=di
 .rw[if_pos c4] at H
  have ze:decide (a1<=di)=true:=decide_eq_true c4
  clear c4
  by_cases c5:di<=dU
  .rw[if_pos c5] at H
   have Iq:decide (di<=dU)=true:=decide_eq_true c5
   clear c5
   obtain rfl:=Option.some.inj H
   go_enter Tryz.func109,Tryz.ntmps109
   go_wp2_with (first|((with_reducible refine cZ (N:=3) rfl ?_);refine dA ?hg (N:=3) ?hd (cs:=#[.int .i64 di,.int .i64 dU]) (t:=88) ?hr ?_;(case hd=>rfl);(case hg=>rfl);(case hr=>first|(go_simp;done)|(go_simp;rfl));intro qi hg w6 eH hb;have fH:=aa.mk (bL (by repeat(first|(with_reducible first|exact HB.out|apply ae|apply ag|apply ah)|exact HB.out)) hb);have fU:=aa.mk (eH);have gV:=aa.mk ((by rw[hg];exact(aW (by repeat(first|(with_reducible first|exact HB.out|apply ae|apply ag|apply ah)|exact HB.out))):w.heap.size<=qi));have iT:=aa.mk ((by rw[hg];exact(aW (by repeat(first|(with_reducible first|exact HB.out|apply ae|apply ag|apply ah)|exact HB.out))):w.heap.size<=qi));clear HB;have HB:=fH;have qw:=fU;have Xt:=gV;have IP:=iT;clear fH fU gV iT;clear hb eH hg;have YN:w6.cell? ⟨qi,0,none⟩=some (.int .i64 di):=(aA qw.out 0).trans rfl;have YM:w6.cell? ⟨qi,1,none⟩=some (.int .i64 dU):=(aA qw.out 1).trans rfl;have YG:=aD qw.out 0;have YF:=aD qw.out 1))
   go_ret
   exact⟨by first|rfl|(simp[aY,aX]<;>rfl)|(simp[*,aY,aX]<;>rfl),by repeat(first|(with_reducible first|exact HB.out|apply ae|apply ag|apply ah|refine az ?_ IP.out)|exact HB.out)⟩
  .rw[if_neg c5] at H
   have Iq:decide (di<=dU)=false:=decide_eq_false c5
   clear c5
   obtain rfl:=Option.some.inj H
   go_enter Tryz.func109,Tryz.ntmps109
   go_wp2_with (first|((with_reducible refine cZ (N:=3) rfl ?_);refine dA ?hg (N:=3) ?hd (cs:=#[.int .i64 di,.int .i64 dU]) (t:=88) ?hr ?_;(case hd=>rfl);(case hg=>rfl);(case hr=>first|(go_simp;done)|(go_simp;rfl));intro qi hg w8 eH hb;have fH:=aa.mk (bL (by repeat(first|(with_reducible first|exact HB.out|apply ae|apply ag|apply ah)|exact HB.out)) hb);have fU:=aa.mk (eH);have gV:=aa.mk ((by rw[hg];exact(aW (by repeat(first|(with_reducible first|exact HB.out|apply ae|apply ag|apply ah)|exact HB.out))):w.heap.size<=qi));have iT:=aa.mk ((by rw[hg];exact(aW (by repeat(first|(with_reducible first|exact HB.out|apply ae|apply ag|apply ah)|exact HB.out))):w.heap.size<=qi));clear HB;have HB:=fH;have qw:=fU;have Xt:=gV;have IP:=iT;clear fH fU gV iT;clear hb eH hg;have Fx:w8.cell? ⟨qi,0,none⟩=some (.int .i64 di):=(aA qw.out 0).trans rfl;have Fw:w8.cell? ⟨qi,1,none⟩=some (.int .i64 dU):=(aA qw.out 1).trans rfl;have Fj:=aD qw.out 0;have Fh:=aD qw.out 1))
   go_ret
   exact⟨by first|rfl|(simp[aY,aX]<;>rfl)|(simp[*,aY,aX]<;>rfl),by repeat(first|(with_reducible first|exact HB.out|apply ae|apply ag|apply ah|refine az ?_ IP.out)|exact HB.out)⟩
 .rw[if_neg c4] at H
  have ze:decide (a1<=di)=false:=decide_eq_false c4
  clear c4
  obtain rfl:=Option.some.inj H
  go_enter Tryz.func109,Tryz.ntmps109
  go_wp2_with (first|((with_reducible refine cZ (N:=3) rfl ?_);refine dA ?hg (N:=3) ?hd (cs:=#[.int .i64 di,.int .i64 dU]) (t:=88) ?hr ?_;(case hd=>rfl);(case hg=>rfl);(case hr=>first|(go_simp;done)|(go_simp;rfl));intro qi hg w10 eH hb;have fH:=aa.mk (bL (by repeat(first|(with_reducible first|exact HB.out|apply ae|apply ag|apply ah)|exact HB.out)) hb);have fU:=aa.mk (eH);have gV:=aa.mk ((by rw[hg];exact(aW (by repeat(first|(with_reducible first|exact HB.out|apply ae|apply ag|apply ah)|exact HB.out))):w.heap.size<=qi));have iT:=aa.mk ((by rw[hg];exact(aW (by repeat(first|(with_reducible first|exact HB.out|apply ae|apply ag|apply ah)|exact HB.out))):w.heap.size<=qi));clear HB;have HB:=fH;have qw:=fU;have Xt:=gV;have IP:=iT;clear fH fU gV iT;clear hb eH hg;have uT:w10.cell? ⟨qi,0,none⟩=some (.int .i64 di):=(aA qw.out 0).trans rfl;have uS:w10.cell? ⟨qi,1,none⟩=some (.int .i64 dU):=(aA qw.out 1).trans rfl;have uR:=aD qw.out 0;have uQ:=aD qw.out 1))
  go_ret
  exact⟨by first|rfl|(simp[aY,aX]<;>rfl)|(simp[*,aY,aX]<;>rfl),by repeat(first|(with_reducible first|exact HB.out|apply ae|apply ag|apply ah|refine az ?_ IP.out)|exact HB.out)⟩
def uC.f(di:Int)(dU:Int):Option (Bool):=(fF.f di dU 0 50).bind λt103=>(some t103)
set_option maxHeartbeats 8000000 in
theorem uC.calls(di:Int)(dU:Int)(r:Bool)(w:World)(h:uC.f di dU=some r):
  Calls Tryz.prog 71 #[.agg #[.int .i64 di,.int .i64 dU]] w λe w'=>e= .returned (.bool r)/\Below w.heap.size w w':=by
 have OO:=Tryz.underlying88
 have HB:=aa.mk (Below.refl w.heap.size w)
 have H:((fF.f di dU 0 50).bind λt103=>(some t103))=some r:=h
 clear h
 replace H:=Option.bind_eq_some_iff.mp H
 obtain⟨t103,IW,H⟩:=H
 replace H:(some t103)=some r:=H
 have A2:=aa.mk IW
 clear IW
 obtain rfl:=Option.some.inj H
 go_enter Tryz.func71,Tryz.ntmps71
 go_wp2_with (first|((with_reducible refine cZ (N:=1) rfl ?_);refine dA ?hg (N:=1) ?hd (cs:=#[.int .i64 di,.int .i64 dU]) (t:=88) ?hr ?_;(case hd=>rfl);(case hg=>rfl);(case hr=>first|(go_simp;done)|(go_simp;rfl));intro Ih hg w3 eH hb;have fH:=aa.mk (bL (by repeat(first|(with_reducible first|exact HB.out|apply ae|apply ag|apply ah)|exact HB.out)) hb);have fU:=aa.mk (eH);have gV:=aa.mk ((by rw[hg];exact(aW (by repeat(first|(with_reducible first|exact HB.out|apply ae|apply ag|apply ah)|exact HB.out))):w.heap.size<=Ih));have iT:=aa.mk ((by rw[hg];exact(aW (by repeat(first|(with_reducible first|exact HB.out|apply ae|apply ag|apply ah)|exact HB.out))):w.heap.size<=Ih));clear HB;have HB:=fH;have CR:=fU;have am9:=gV;have Xu:=iT;clear fH fU gV iT;clear hb eH hg;have Kt:w3.cell? ⟨Ih,0,none⟩=some (.int .i64 di):=(aA CR.out 0).trans rfl;have Kr:w3.cell? ⟨Ih,1,none⟩=some (.int .i64 dU):=(aA CR.out 1).trans rfl;have Kn:=aD CR.out 0;have Km:=aD CR.out 1)|((with_reducible refine fu (f:=109) rfl ?_);refine lN (some 4) rfl rfl Tryz.func109 (by kernel_rfl) rfl #[.agg #[.int .i64 di,.int .i64 dU],.int .i64 0,.int .i64 50] rfl (by(try simp only[List.map_toArray,List.map_cons,List.map_nil]);first|done|rfl|(simp only[List.length_drop,List.length_take];rfl)) ?_;(with_reducible refine(fF.calls di dU 0 50 t103 _ A2.out).mono ?_);rintro e w5 ⟨rfl,hb⟩;refine⟨_,rfl,?_⟩;have fH:=aa.mk (dn (g:=Ih) (o:= .cells #[.int .i64 di,.int .i64 dU] 88 (0,0)) (by(with_reducible repeat(first|refine aC ?_ _|refine aG ?_|refine ay ?_ _));exact CR.out) hb);have fU:=aa.mk (bL (by repeat(first|(with_reducible first|exact HB.out|apply ae|apply ag|apply ah|refine az ?_ Xu.out)|exact HB.out)) hb);clear CR;clear HB;have CR:=fH;have HB:=fU;clear fH fU;(try clear hb);(try clear hb2);(try clear hk);(try clear hi)))
 go_ret
 exact⟨by first|rfl|(simp[aY,aX]<;>rfl)|(simp[*,aY,aX]<;>rfl),by repeat(first|(with_reducible first|exact HB.out|apply ae|apply ag|apply ah|refine az ?_ Xu.out)|exact HB.out)⟩
def eD.l0:Nat->List Int->Int->Option (Bool)
 |0,_,_=>none
 |k+1,x0,x3=>if x3<(x0.length:Int) then(if 0<=x3 then(if 0<=(wrap64 (x3-1)) then(if(wrap64 (x3-1))<(x0.length:Int) then(if(rd x0 x3)<=(rd x0 (wrap64 (x3-1))) then(some false) else(eD.l0 k x0 (wrap64 (x3+1)))) else(none)) else(none)) else(none)) else(some true)
def eD.f(k:Nat)(l0:List Int):Option (Bool):=eD.l0 k l0 1
set_option maxHeartbeats 8000000 in
theorem eD.calls(k:Nat)(A0:Option Addr)(c0:Nat)(l0:List Int)(r:Bool)(w:World)(hr0:Kd.C (Kd.int .i64) w A0 l0.length l0)(hc0:l0.length<=c0)(h:eD.f k l0=some r):
  Calls Tryz.prog 66 #[.slice A0 l0.length c0] w λe w'=>e= .returned (.bool r)/\bF w w':=by
 have IG:=aa.mk hr0
 have Xp:=aa.mk hc0
 clear hr0 hc0
 have H:(eD.l0 k l0 1)=some r:=h
 clear h
 have H':=aa.mk H
 clear H
 go_enter Tryz.func66,Tryz.ntmps66
 go_wp2
 repeat(go_quiet (fail);try go_wp2)
 go_loopg [3] k (λkq v3 w'=>∃(gP:Int),v3= .int .i64 gP/\aa (eD.l0 kq l0 gP=some r)/\aa (kq<=k)/\bF w w')
 case atStart=>exact⟨(1),(by first|rfl|(simp;done)|(simp[*];done)),H',⟨Nat.le_refl _⟩,by repeat(first|exact bF.refl _|apply bF.step)⟩
 case round=>
  clear H'
  obtain⟨gP,rfl,HA,qN,⟨m1,rfl⟩⟩:=hrel
  cases gk with
  |zero=>exact absurd HA.out (by simp[eD.l0])
  |succ k1=>
   have H:=HA.out
   clear HA
   simp only[eD.l0] at H
   by_cases c2:gP<(l0.length:Int)
   .rw[if_pos c2] at H
    have Cm:decide (gP<(l0.length:Int))=true:=decide_eq_true c2
    clear c2
    by_cases c3:0<=gP
    .rw[if_pos c3] at H
     have qG:decide (0<=gP)=true:=decide_eq_true c3
     clear c3
     obtain⟨Dw,Dz⟩:∃j_:Int,(wrap64 (gP-1))=j_:=⟨_,rfl⟩
     replace H:(if 0<=(Dw) then(if(Dw)<(l0.length:Int) then(if(rd l0 gP)<=(rd l0 (Dw)) then(some false) else(eD.l0 k1 l0 (wrap64 (gP+1)))) else(none)) else(none))=some r:=by first|(rw[Dz] at H;exact H)|(simp only[Dz] at H ⊢;exact H)
     have alh:(IntKind.i64.wrap (gP-1))=Dw:=(dI _).trans Dz
     by_cases c5:0<=(Dw)
     .rw[if_pos c5] at H
      have Iq:decide (0<=(Dw))=true:=decide_eq_true c5
      clear c5
      by_cases c6:(Dw)<(l0.length:Int)
      .rw[if_pos c6] at H
       have x8:decide ((Dw)<(l0.length:Int))=true:=decide_eq_true c6
       clear c6
       by_cases c7:(rd l0 gP)<=(rd l0 (Dw))
       .rw[if_pos c7] at H
        have zR:decide ((rd l0 gP)<=(rd l0 (Dw)))=true:=decide_eq_true c7
        clear c7
        obtain rfl:=Option.some.inj H
        have JS:0<=(gP:Int):=of_decide_eq_true (by first|(with_reducible assumption)|assumption)
        have JG:gP<(l0.length:Int):=of_decide_eq_true (by first|(with_reducible assumption)|assumption)
        obtain⟨Sb,Zd,Uo⟩:=Kd.cK IG.out gP JS JG
        cases Zd
        replace JS:=eq_true JS
        replace JG:=eq_true JG
        have JR:0<=((Dw):Int):=of_decide_eq_true (by first|(with_reducible assumption)|assumption)
        have JF:(Dw)<(l0.length:Int):=of_decide_eq_true (by first|(with_reducible assumption)|assumption)
        obtain⟨Sa,e108,Un⟩:=Kd.cK IG.out (Dw) JR JF
        obtain rfl:Sb=Sa:=(by injection e108)
        replace JR:=eq_true JR
        replace JF:=eq_true JF
        go_wp2
        repeat(go_quiet (fail);try go_wp2)
        go_ret
        exact⟨by first|rfl|(simp;done)|(simp only[<- Dz]<;>(first|rfl|simp))|(simp[*];done),by repeat(first|exact bF.refl _|apply bF.step)⟩
       .rw[if_neg c7] at H
        have zR:decide ((rd l0 gP)<=(rd l0 (Dw)))=false:=decide_eq_false c7
        clear c7
        have H':=aa.mk H
        clear H
        have JS:0<=(gP:Int):=of_decide_eq_true (by first|(with_reducible assumption)|assumption)
        have JG:gP<(l0.length:Int):=of_decide_eq_true (by first|(with_reducible assumption)|assumption)
        obtain⟨Sb,Zd,Uo⟩:=Kd.cK IG.out gP JS JG
        cases Zd
        replace JS:=eq_true JS
        replace JG:=eq_true JG
        have JR:0<=((Dw):Int):=of_decide_eq_true (by first|(with_reducible assumption)|assumption)
        have JF:(Dw)<(l0.length:Int):=of_decide_eq_true (by first|(with_reducible assumption)|assumption)
        obtain⟨Sa,e108,Un⟩:=Kd.cK IG.out (Dw) JR JF
        obtain rfl:Sb=Sa:=(by injection e108)
        replace JR:=eq_true JR
        replace JF:=eq_true JF
        go_wp2
        repeat(go_quiet (fail);try go_wp2)
        go_roundg k1
        case measure=>have:=qN.out;omega
        case rel=>exact⟨(wrap64 (gP+1)),(by first|rfl|(simp;done)|(simp[*];done)),H',⟨by have:=qN.out;omega⟩,by repeat(first|exact bF.refl _|apply bF.step)⟩
      .rw[if_neg c6] at H
       exact absurd H (by simp)
     .rw[if_neg c5] at H
      exact absurd H (by simp)
    .rw[if_neg c3] at H
     exact absurd H (by simp)
   .rw[if_neg c2] at H
    have Cm:decide (gP<(l0.length:Int))=false:=decide_eq_false c2
    clear c2
    obtain rfl:=Option.some.inj H
    go_wp2
    repeat(go_quiet (fail);try go_wp2)
    go_ret
    exact⟨by first|rfl|(simp;done)|(simp[*];done),by repeat(first|exact bF.refl _|apply bF.step)⟩
def l8.f(a0:Int)(a1:Int):Option (Bool):=if 0<=a1 then(some ((Go.bits .and .i64 (shr .i64 a0 a1) 1)==1)) else(none)
set_option maxHeartbeats 8000000 in
theorem l8.calls(a0:Int)(a1:Int)(r:Bool)(w:World)(h:l8.f a0 a1=some r):
  Calls Tryz.prog 132 #[.int .i64 a0,.int .i64 a1] w λe w'=>e= .returned (.bool r)/\bF w w':=by
 have H:(if 0<=a1 then(some ((Go.bits .and .i64 (shr .i64 a0 a1) 1)==1)) else(none))=some r:=h
 clear h
 by_cases c3:0<=a1
 .rw[if_pos c3] at H
  have qG:=eq_true c3
  have RI:decide (0<=a1)=true:=decide_eq_true c3
  clear c3
  obtain⟨Dw,Dz⟩:∃j_:Int,(shr .i64 a0 a1)=j_:=⟨_,rfl⟩
  replace H:(some ((Go.bits .and .i64 (Dw) 1)==1))=some r:=by first|(rw[Dz] at H;exact H)|(simp only[Dz] at H ⊢;exact H)
  have ali:(a0/2^min a1.toNat 64)=Dw:=Dz
  have alg:a1<=64->(a0/2^a1.toNat)=Dw:=NV Dz
  obtain rfl:=Option.some.inj H
  go_enter Tryz.func132,Tryz.ntmps132
  go_wp2
  go_ret
  exact⟨by first|rfl|(simp;done)|(simp only[<- Dz]<;>(first|rfl|simp))|(simp[*];done),by repeat(first|exact bF.refl _|apply bF.step)⟩
 .rw[if_neg c3] at H
  exact absurd H (by simp)
def bU.l0:Nat->Int->List Int->Int->Option (List Int)
 |0,_,_,_=>none
 |k+1,x0,x2,x4=>if x4<8 then((l8.f x0 x4).bind λt109=>(if t109=true then(if x2.length<17592186044416 then(bU.l0 k x0 (x2++[x4]) (wrap64 (x4+1))) else(none)) else(bU.l0 k x0 x2 (wrap64 (x4+1))))) else(some x2)
def bU.f(k:Nat)(a0:Int):Option (List Int):=bU.l0 k a0 ([]:List Int) 0
set_option maxHeartbeats 8000000 in
theorem bU.calls(k:Nat)(a0:Int)(r:List Int)(w:World)(h:bU.f k a0=some r):
  Calls Tryz.prog 106 #[.int .i64 a0] w λe w'=>∃TN:Value,e= .returned (TN)/\Kd.R (Kd.int .i64) 3 w' w.heap.size (λ_=>True) TN r/\Below w.heap.size w w':=by
 have HB:=aa.mk (Below.refl w.heap.size w)
 have H:(bU.l0 k a0 ([]:List Int) 0)=some r:=h
 clear h
 have H':=aa.mk H
 clear H
 go_enter Tryz.func106,Tryz.ntmps106
 go_wp2
 go_loopg [2,4] k (λkq v2 v4 w'=>∃(tC:List Int) (iv:Int),v4= .int .i64 iv/\aa (bU.l0 kq a0 tC iv=some r)/\aa (kq<=k)/\aa (Kd.R (Kd.int .i64) 3 w' w.heap.size (λ_=>True) v2 tC)/\aa (Below w.heap.size w w'))
 case atStart=>exact⟨(([]:List Int)),(0),(by first|rfl|(simp;done)|(simp[*];done)),H',⟨Nat.le_refl _⟩,⟨by first|exact Kd.iK _ _ _ _ _|exact Kd.Np _ _ _ _ _|exact Kd.Na _ _ _ _ _|exact Kd.Nl _ _ _ _ _|exact Kd.Nf _ _ _ _ _⟩,⟨by repeat(first|(with_reducible first|exact HB.out|apply ae|apply ag|apply ah)|exact HB.out)⟩⟩
 case round=>
  clear H'
  (try clear c1)
  obtain⟨tC,iv,rfl,HA,qN,Vx,HB⟩:=hrel
  cases gk with
  |zero=>exact absurd HA.out (by simp[bU.l0])
  |succ k1=>
   have H:=HA.out
   clear HA
   simp only[bU.l0] at H
   by_cases c2:iv<8
   .rw[if_pos c2] at H
    have Cm:decide (iv<8)=true:=decide_eq_true c2
    clear c2
    replace H:=Option.bind_eq_some_iff.mp H
    obtain⟨t109,XA,H⟩:=H
    replace H:(if t109=true then(if tC.length<17592186044416 then(bU.l0 k1 a0 (tC++[iv]) (wrap64 (iv+1))) else(none)) else(bU.l0 k1 a0 tC (wrap64 (iv+1))))=some r:=H
    have A3:=aa.mk XA
    clear XA
    by_cases c4:t109=true
    .subst c4
     replace H:(if tC.length<17592186044416 then(bU.l0 k1 a0 (tC++[iv]) (wrap64 (iv+1))) else(none))=some r:=by rw[if_pos rfl] at H;exact H
     by_cases c5:tC.length<17592186044416
     .rw[if_pos c5] at H
      have aiV:=aa.mk c5
      clear c5
      obtain⟨aaT,Ic⟩:∃y_:List Int,y_=(tC++[iv]):=⟨_,rfl⟩
      replace H:(bU.l0 k1 a0 aaT (wrap64 (iv+1)))=some r:=by first|(rw[Ic];with_reducible exact H)|(have wP:=(Option.bind_some _ _).symm.trans H;rw[Ic];with_reducible exact wP)|(have wP:=(Option.bind_some _ _).symm.trans H;with_reducible exact wP)|with_reducible exact H|(rw[Ic];exact H)|exact H
      have adz:=aa.mk Ic
      clear Ic
      have H':=aa.mk H
      clear H
      go_wp2_with (first|((with_reducible refine fu (f:=132) rfl ?_);refine lN (some 9) rfl rfl Tryz.func132 (by kernel_rfl) rfl #[.int .i64 a0,.int .i64 iv] rfl (by(try simp only[List.map_toArray,List.map_cons,List.map_nil]);first|done|rfl|(simp only[List.length_drop,List.length_take];rfl)) ?_;(with_reducible refine(l8.calls a0 iv true _ A3.out).mono ?_);rintro e w' ⟨rfl,⟨nd,rfl⟩⟩;refine⟨_,rfl,?_⟩)|((with_reducible refine cz (b:= .append) (xs:=#[.tmp 10,.tmp 12]) rfl ?_);at_builtin;refine Kd.jk (Kd.int .i64) (w0:=w) w.heap.size rfl (.tmp 10) (.tmp 12) 22 3 (.int .i64 0) 8 rfl Tryz.underlying22 info3 rfl (by decide) (by omega) u2 tC iv [.int .i64 iv] (λ_=>True) (λ_=>False) rfl rfl ?aP (λ_ hk=>hk.elim) ?aF ?aO ?aB ?aS ?aL ?_;(case aP=>exact rfl);(case aB=>exact(by repeat(first|(with_reducible first|exact HB.out|apply ae|apply ag|apply ah)|exact HB.out)));(case aF=>exact(λ_ _=>trivial));(case aO=>exact(by(with_reducible repeat(first|apply Kd.bK|apply Kd.dh|apply Kd.cO));exact Vx.out));(case aS=>exact(aW (by repeat(first|(with_reducible first|exact HB.out|apply ae|apply ag|apply ah)|exact HB.out))));(case aL=>have:=aiV.out;omega);intro anI w6 ho hb hg hat;rw[<- adz.out] at ho;have fH:=aa.mk (hb);have fU:=aa.mk (ho);clear HB;clear Vx;have HB:=fH;have adM:=fU;clear fH fU;clear ho hb hg hat))
      go_roundg k1
      case measure=>have:=qN.out;omega
      case rel=>exact⟨(aaT),(wrap64 (iv+1)),(by first|rfl|(simp;done)|(simp[*];done)),H',⟨by have:=qN.out;omega⟩,⟨by(with_reducible repeat(first|apply Kd.bK|apply Kd.dh|apply Kd.cO));exact adM.out⟩,⟨by repeat(first|(with_reducible first|exact HB.out|apply ae|apply ag|apply ah)|exact HB.out)⟩⟩
     .rw[if_neg c5] at H
      exact absurd H (by simp)
    .replace c4:=Bool.eq_false_iff.mpr c4
     subst c4
     replace H:(bU.l0 k1 a0 tC (wrap64 (iv+1)))=some r:=by rw[if_neg (show ¬(false=true) by decide)] at H;exact H
     have H':=aa.mk H
     clear H
     go_wp2_with (first|((with_reducible refine fu (f:=132) rfl ?_);refine lN (some 9) rfl rfl Tryz.func132 (by kernel_rfl) rfl #[.int .i64 a0,.int .i64 iv] rfl (by(try simp only[List.map_toArray,List.map_cons,List.map_nil]);first|done|rfl|(simp only[List.length_drop,List.length_take];rfl)) ?_;(with_reducible refine(l8.calls a0 iv false _ A3.out).mono ?_);rintro e w' ⟨rfl,⟨nd,rfl⟩⟩;refine⟨_,rfl,?_⟩))
     go_roundg k1
     case measure=>have:=qN.out;omega
     case rel=>exact⟨(tC),(wrap64 (iv+1)),(by first|rfl|(simp;done)|(simp[*];done)),H',⟨by have:=qN.out;omega⟩,⟨by(with_reducible repeat(first|apply Kd.bK|apply Kd.dh|apply Kd.cO));exact Vx.out⟩,⟨by repeat(first|(with_reducible first|exact HB.out|apply ae|apply ag|apply ah)|exact HB.out)⟩⟩
   .rw[if_neg c2] at H
    have Cm:decide (iv<8)=false:=decide_eq_false c2
    clear c2
    obtain rfl:=Option.some.inj H
    go_wp2
    go_ret
    exact⟨_,by first|rfl|(simp[aY,aX]<;>rfl)|(simp[*,aY,aX]<;>rfl),by(with_reducible repeat(first|apply Kd.bK|apply Kd.dh|apply Kd.cO));exact Vx.out,by repeat(first|(with_reducible first|exact HB.out|apply ae|apply ag|apply ah)|exact HB.out)⟩
def iQ.f(a0:Int)(a1:Int)(a2:Int):Option (Bool):=if a1<=a0 then(some (decide (a0<=a2))) else(some false)
set_option maxHeartbeats 8000000 in
theorem iQ.calls(a0:Int)(a1:Int)(a2:Int)(r:Bool)(w:World)(h:iQ.f a0 a1 a2=some r):
  Calls Tryz.prog 53 #[.int .i64 a0,.int .i64 a1,.int .i64 a2] w λe w'=>e= .returned (.bool r)/\bF w w':=by
 have H:(if a1<=a0 then(some (decide (a0<=a2))) else(some false))=some r:=h
 clear h
 by_cases c4:a1<=a0
 .rw[if_pos c4] at H
  have ze:decide (a1<=a0)=true:=decide_eq_true c4
  clear c4
  obtain rfl:=Option.some.inj H
  go_enter Tryz.func53,Tryz.ntmps53
  go_wp2
  go_ret
  exact⟨by first|rfl|(simp;done)|(simp[*];done),by repeat(first|exact bF.refl _|apply bF.step)⟩
 .rw[if_neg c4] at H
  have ze:decide (a1<=a0)=false:=decide_eq_false c4
  clear c4
  obtain rfl:=Option.some.inj H
  go_enter Tryz.func53,Tryz.ntmps53
  go_wp2
  go_ret
  exact⟨by first|rfl|(simp;done)|(simp[*];done),by repeat(first|exact bF.refl _|apply bF.step)⟩
def mF.f(a0:Int):Option (Bool):=(iQ.f a0 0 10000).bind λt115=>(some t115)
set_option maxHeartbeats 8000000 in
theorem mF.calls(a0:Int)(r:Bool)(w:World)(h:mF.f a0=some r):
  Calls Tryz.prog 90 #[.int .i64 a0] w λe w'=>e= .returned (.bool r)/\bF w w':=by
 have H:((iQ.f a0 0 10000).bind λt115=>(some t115))=some r:=h
 clear h
 replace H:=Option.bind_eq_some_iff.mp H
 obtain⟨t115,IW,H⟩:=H
 replace H:(some t115)=some r:=H
 have A2:=aa.mk IW
 clear IW
 obtain rfl:=Option.some.inj H
 go_enter Tryz.func90,Tryz.ntmps90
 go_wp2_with (first|((with_reducible refine fu (f:=53) rfl ?_);refine lN (some 4) rfl rfl Tryz.func53 (by kernel_rfl) rfl #[.int .i64 a0,.int .i64 0,.int .i64 10000] rfl (by(try simp only[List.map_toArray,List.map_cons,List.map_nil]);first|done|rfl|(simp only[List.length_drop,List.length_take];rfl)) ?_;(with_reducible refine(iQ.calls a0 0 10000 t115 _ A2.out).mono ?_);rintro e w' ⟨rfl,⟨nd,rfl⟩⟩;refine⟨_,rfl,?_⟩))
 go_ret
 exact⟨by first|rfl|(simp;done)|(simp[*];done),by repeat(first|exact bF.refl _|apply bF.step)⟩
def fB.f(a0:Int)(a1:Int)(a2:Int):Option (Bool):=if a1<=a0 then(some (decide (a0<=a2))) else(some false)
set_option maxHeartbeats 8000000 in
theorem fB.calls(a0:Int)(a1:Int)(a2:Int)(r:Bool)(w:World)(h:fB.f a0 a1 a2=some r):
  Calls Tryz.prog 136 #[.int .i64 a0,.int .i64 a1,.int .i64 a2] w λe w'=>e= .returned (.bool r)/\bF w w':=by
 have H:(if a1<=a0 then(some (decide (a0<=a2))) else(some false))=some r:=h
 clear h
 by_cases c4:a1<=a0
 .rw[if_pos c4] at H
  have ze:decide (a1<=a0)=true:=decide_eq_true c4
  clear c4
  obtain rfl:=Option.some.inj H
  go_enter Tryz.func136,Tryz.ntmps136
  go_wp2
  go_ret
  exact⟨by first|rfl|(simp;done)|(simp[*];done),by repeat(first|exact bF.refl _|apply bF.step)⟩
 .rw[if_neg c4] at H
  have ze:decide (a1<=a0)=false:=decide_eq_false c4
  clear c4
  obtain rfl:=Option.some.inj H
  go_enter Tryz.func136,Tryz.ntmps136
  go_wp2
  go_ret
  exact⟨by first|rfl|(simp;done)|(simp[*];done),by repeat(first|exact bF.refl _|apply bF.step)⟩
def kM.f(a0:Int):Option (Bool):=(fB.f a0 0 10000).bind λt118=>(some t118)
set_option maxHeartbeats 8000000 in
theorem kM.calls(a0:Int)(r:Bool)(w:World)(h:kM.f a0=some r):
  Calls Tryz.prog 135 #[.int .i64 a0] w λe w'=>e= .returned (.bool r)/\bF w w':=by
 have H:((fB.f a0 0 10000).bind λt118=>(some t118))=some r:=h
 clear h
 replace H:=Option.bind_eq_some_iff.mp H
 obtain⟨t118,IW,H⟩:=H
 replace H:(some t118)=some r:=H
 have A2:=aa.mk IW
 clear IW
 obtain rfl:=Option.some.inj H
 go_enter Tryz.func135,Tryz.ntmps135
 go_wp2_with (first|((with_reducible refine fu (f:=136) rfl ?_);refine lN (some 4) rfl rfl Tryz.func136 (by kernel_rfl) rfl #[.int .i64 a0,.int .i64 0,.int .i64 10000] rfl (by(try simp only[List.map_toArray,List.map_cons,List.map_nil]);first|done|rfl|(simp only[List.length_drop,List.length_take];rfl)) ?_;(with_reducible refine(fB.calls a0 0 10000 t118 _ A2.out).mono ?_);rintro e w' ⟨rfl,⟨nd,rfl⟩⟩;refine⟨_,rfl,?_⟩))
 go_ret
 exact⟨by first|rfl|(simp;done)|(simp[*];done),by repeat(first|exact bF.refl _|apply bF.step)⟩
def dH.l0:Nat->Int->List Int->Int->Int->Option (Int)
 |0,_,_,_,_=>none
 |k+1,x2,x5,x6,x7=>if x7<x6 then(if 0<=x7 then(if x7<(x5.length:Int) then(dH.l0 k (wrap64 (x2+(rd x5 x7))) x5 x6 (wrap64 (x7+1))) else(none)) else(none)) else(some x2)
def dH.f(k:Nat)(l0:List Int):Option (Int):=dH.l0 k 0 l0 (l0.length:Int) 0
set_option maxHeartbeats 8000000 in
theorem dH.calls(k:Nat)(A0:Option Addr)(c0:Nat)(l0:List Int)(r:Int)(w:World)(hr0:Kd.C (Kd.int .i64) w A0 l0.length l0)(hc0:l0.length<=c0)(h:dH.f k l0=some r):
  Calls Tryz.prog 137 #[.slice A0 l0.length c0] w λe w'=>e= .returned (.int .i64 r)/\bF w w':=by
 have IG:=aa.mk hr0
 have Xp:=aa.mk hc0
 clear hr0 hc0
 have H:(dH.l0 k 0 l0 (l0.length:Int) 0)=some r:=h
 clear h
 have H':=aa.mk H
 clear H
 go_enter Tryz.func137,Tryz.ntmps137
 go_wp2
 go_loopg [2,7] k (λkq v2 v7 w'=>∃(tC:Int) (vS:Int),v2= .int .i64 tC/\v7= .int .i64 vS/\aa (dH.l0 kq tC l0 (l0.length:Int) vS=some r)/\aa (kq<=k)/\bF w w')
 case atStart=>exact⟨(0),(0),(by first|rfl|(simp;done)|(simp[*];done)),(by first|rfl|(simp;done)|(simp[*];done)),H',⟨Nat.le_refl _⟩,by repeat(first|exact bF.refl _|apply bF.step)⟩
 case round=>
  clear H'
  (try clear c1)
  obtain⟨tC,vS,rfl,rfl,HA,qN,⟨m1,rfl⟩⟩:=hrel
  cases gk with
  |zero=>exact absurd HA.out (by simp[dH.l0])
  |succ k1=>
   have H:=HA.out
   clear HA
   simp only[dH.l0] at H
   by_cases c2:vS<(l0.length:Int)
   .rw[if_pos c2] at H
    have Cm:decide (vS<(l0.length:Int))=true:=decide_eq_true c2
    clear c2
    by_cases c3:0<=vS
    .rw[if_pos c3] at H
     have qG:decide (0<=vS)=true:=decide_eq_true c3
     clear c3
     by_cases c4:vS<(l0.length:Int)
     .rw[if_pos c4] at H
      have ze:decide (vS<(l0.length:Int))=true:=decide_eq_true c4
      clear c4
      have H':=aa.mk H
      clear H
      have XY:0<=(vS:Int):=of_decide_eq_true (by first|(with_reducible assumption)|assumption)
      have XO:vS<(l0.length:Int):=of_decide_eq_true (by first|(with_reducible assumption)|assumption)
      obtain⟨alZ,e119,aeX⟩:=Kd.cK IG.out vS XY XO
      cases e119
      replace XY:=eq_true XY
      replace XO:=eq_true XO
      go_wp2
      go_roundg k1
      case measure=>have:=qN.out;omega
      case rel=>exact⟨(wrap64 (tC+(rd l0 vS))),(wrap64 (vS+1)),(by first|rfl|(simp;done)|(simp[*];done)),(by first|rfl|(simp;done)|(simp[*];done)),H',⟨by have:=qN.out;omega⟩,by repeat(first|exact bF.refl _|apply bF.step)⟩
     .rw[if_neg c4] at H
      exact absurd H (by simp)
    .rw[if_neg c3] at H
     exact absurd H (by simp)
   .rw[if_neg c2] at H
    have Cm:decide (vS<(l0.length:Int))=false:=decide_eq_false c2
    clear c2
    obtain rfl:=Option.some.inj H
    go_wp2
    go_ret
    exact⟨by first|rfl|(simp;done)|(simp[*];done),by repeat(first|exact bF.refl _|apply bF.step)⟩
def oo.f(l0:List Int):Option (Bool):=some (decide ((l0.length:Int)<=4))
set_option maxHeartbeats 8000000 in
theorem oo.calls(A0:Option Addr)(c0:Nat)(l0:List Int)(r:Bool)(w:World)(hr0:Kd.C (Kd.int .i64) w A0 l0.length l0)(hc0:l0.length<=c0)(h:oo.f l0=some r):
  Calls Tryz.prog 144 #[.slice A0 l0.length c0] w λe w'=>e= .returned (.bool r)/\bF w w':=by
 have IG:=aa.mk hr0
 have Xp:=aa.mk hc0
 clear hr0 hc0
 have H:(some (decide ((l0.length:Int)<=4)))=some r:=h
 clear h
 obtain rfl:=Option.some.inj H
 go_enter Tryz.func144,Tryz.ntmps144
 go_wp2
 go_ret
 exact⟨by first|rfl|(simp;done)|(simp[*];done),by repeat(first|exact bF.refl _|apply bF.step)⟩
def oq.f(a0:Int):Option (Bool):=(fB.f a0 2 100).bind λt130=>(some t130)
set_option maxHeartbeats 8000000 in
theorem oq.calls(a0:Int)(r:Bool)(w:World)(h:oq.f a0=some r):
  Calls Tryz.prog 145 #[.int .i64 a0] w λe w'=>e= .returned (.bool r)/\bF w w':=by
 have H:((fB.f a0 2 100).bind λt130=>(some t130))=some r:=h
 clear h
 replace H:=Option.bind_eq_some_iff.mp H
 obtain⟨t130,IW,H⟩:=H
 replace H:(some t130)=some r:=H
 have A2:=aa.mk IW
 clear IW
 obtain rfl:=Option.some.inj H
 go_enter Tryz.func145,Tryz.ntmps145
 go_wp2_with (first|((with_reducible refine fu (f:=136) rfl ?_);refine lN (some 4) rfl rfl Tryz.func136 (by kernel_rfl) rfl #[.int .i64 a0,.int .i64 2,.int .i64 100] rfl (by(try simp only[List.map_toArray,List.map_cons,List.map_nil]);first|done|rfl|(simp only[List.length_drop,List.length_take];rfl)) ?_;(with_reducible refine(fB.calls a0 2 100 t130 _ A2.out).mono ?_);rintro e w' ⟨rfl,⟨nd,rfl⟩⟩;refine⟨_,rfl,?_⟩))
 go_ret
 exact⟨by first|rfl|(simp;done)|(simp[*];done),by repeat(first|exact bF.refl _|apply bF.step)⟩
def gK.f(di:Int)(aU:List (List Int))(Dt:List (dN)):Option (Int):=if(aU.length:Int)=0 then(some 0) else(if 0<(aU.length:Int) then(some ((vG aU 0).length:Int)) else(none))
set_option maxHeartbeats 8000000 in
theorem gK.calls(di:Int)(gu:Option Addr)(fw:Nat)(aU:List (List Int))(PU:Option Addr)(Pm:Nat)(Dt:List (dN))(r:Int)(w:World)(nL:Kd.C (Kd.slice 3 (Kd.int .i64)) w gu aU.length aU)(nM:aU.length<=fw)(Wq:Kd.C Bt w PU Dt.length Dt)(WC:Dt.length<=Pm)(h:gK.f di aU Dt=some r):
  Calls Tryz.prog 146 #[.agg #[.int .i64 di,.slice gu aU.length fw,.slice PU Dt.length Pm]] w λe w'=>e= .returned (.int .i64 r)/\Below w.heap.size w w':=by
 have akI:=Tryz.underlying110
 have yu:=aa.mk nL
 have IK:=aa.mk nM
 clear nL nM
 have amz:=aa.mk Wq
 have amQ:=aa.mk WC
 clear Wq WC
 have HB:=aa.mk (Below.refl w.heap.size w)
 have H:(if(aU.length:Int)=0 then(some 0) else(if 0<(aU.length:Int) then(some ((vG aU 0).length:Int)) else(none)))=some r:=h
 clear h
 by_cases c2:(aU.length:Int)=0
 .rw[if_pos c2] at H
  have Cm:((aU.length:Int)==0)=true:=beq_iff_eq.mpr c2
  have RL:((aU.length:Int) !=0)=false:=bne_eq_false_iff_eq.mpr c2
  clear c2
  obtain rfl:=Option.some.inj H
  go_enter Tryz.func146,Tryz.ntmps146
  go_wp2_with (first|((with_reducible refine cZ (N:=1) rfl ?_);refine dA ?hg (N:=1) ?hd (cs:=#[.int .i64 di,.slice gu aU.length fw,.slice PU Dt.length Pm]) (t:=110) ?hr ?_;(case hd=>rfl);(case hg=>rfl);(case hr=>first|(go_simp;done)|(go_simp;rfl));intro ui hg w3 eH hb;have fH:=aa.mk (bL (by repeat(first|(with_reducible first|exact HB.out|apply ae|apply ag|apply ah)|exact HB.out)) hb);have fU:=aa.mk (eH);have gV:=aa.mk ((by rw[hg];exact(aW (by repeat(first|(with_reducible first|exact HB.out|apply ae|apply ag|apply ah)|exact HB.out))):w.heap.size<=ui));have iT:=aa.mk ((by rw[hg];exact(aW (by repeat(first|(with_reducible first|exact HB.out|apply ae|apply ag|apply ah)|exact HB.out))):w.heap.size<=ui));clear HB;have HB:=fH;have rH:=fU;have ael:=gV;have Ta:=iT;clear fH fU gV iT;clear hb eH hg;have Kt:w3.cell? ⟨ui,0,none⟩=some (.int .i64 di):=(aA rH.out 0).trans rfl;have Kr:w3.cell? ⟨ui,1,none⟩=some (.slice gu aU.length fw):=(aA rH.out 1).trans rfl;have ahS:w3.cell? ⟨ui,2,none⟩=some (.slice PU Dt.length Pm):=(aA rH.out 2).trans rfl;have Kn:=aD rH.out 0;have Km:=aD rH.out 1;have ahM:=aD rH.out 2))
  go_ret
  exact⟨by first|rfl|(simp[aY,aX]<;>rfl)|(simp[*,aY,aX]<;>rfl),by repeat(first|(with_reducible first|exact HB.out|apply ae|apply ag|apply ah|refine az ?_ Ta.out)|exact HB.out)⟩
 .rw[if_neg c2] at H
  have Cm:((aU.length:Int)==0)=false:=beq_eq_false_iff_ne.mpr c2
  have RL:((aU.length:Int) !=0)=true:=bne_iff_ne.mpr c2
  have apm:¬(aU=[]):=λh_=>c2 (by rw[h_];rfl)
  by_cases c5:0<(aU.length:Int)
  .rw[if_pos c5] at H
   have Iq:decide (0<(aU.length:Int))=true:=decide_eq_true c5
   have api:decide (0<aU.length)=true:=decide_eq_true (by omega)
   clear c5
   obtain rfl:=Option.some.inj H
   go_enter Tryz.func146,Tryz.ntmps146
   go_wp2_with (first|((with_reducible refine cZ (N:=1) rfl ?_);refine dA ?hg (N:=1) ?hd (cs:=#[.int .i64 di,.slice gu aU.length fw,.slice PU Dt.length Pm]) (t:=110) ?hr ?_;(case hd=>rfl);(case hg=>rfl);(case hr=>first|(go_simp;done)|(go_simp;rfl));intro ui hg w6 eH hb;have fH:=aa.mk (bL (by repeat(first|(with_reducible first|exact HB.out|apply ae|apply ag|apply ah)|exact HB.out)) hb);have fU:=aa.mk (eH);have gV:=aa.mk ((by rw[hg];exact(aW (by repeat(first|(with_reducible first|exact HB.out|apply ae|apply ag|apply ah)|exact HB.out))):w.heap.size<=ui));have iT:=aa.mk ((by rw[hg];exact(aW (by repeat(first|(with_reducible first|exact HB.out|apply ae|apply ag|apply ah)|exact HB.out))):w.heap.size<=ui));clear HB;have HB:=fH;have rH:=fU;have ael:=gV;have Ta:=iT;clear fH fU gV iT;clear hb eH hg;have YN:w6.cell? ⟨ui,0,none⟩=some (.int .i64 di):=(aA rH.out 0).trans rfl;have YM:w6.cell? ⟨ui,1,none⟩=some (.slice gu aU.length fw):=(aA rH.out 1).trans rfl;have ahR:w6.cell? ⟨ui,2,none⟩=some (.slice PU Dt.length Pm):=(aA rH.out 2).trans rfl;have YG:=aD rH.out 0;have YF:=aD rH.out 1;have ahL:=aD rH.out 2;have XX:0<=(0:Int):=(by omega);have XN:0<(aU.length:Int):=of_decide_eq_true (by first|(with_reducible assumption)|assumption);obtain⟨alY,akm,aiI,aiB,xH,ME,MF⟩:=Iu yu.out 0 XX XN;cases aiB;have akv:(0<aU.length)=True:=eq_true (by omega);(try rw[show((0:Int)).toNat=0 from rfl] at xH);(try rw[Addr.add_zero'] at xH);replace xH:=(HB.out.cell (World.block_lt_of_cell? w _ xH)).trans xH;have afX:=aa.mk MF;have af6:=aa.mk ME;clear MF ME;replace XX:=eq_true XX;replace XN:=eq_true XN))
   go_ret
   exact⟨by first|rfl|(simp[aY,aX]<;>rfl)|(simp[*,aY,aX]<;>rfl),by repeat(first|(with_reducible first|exact HB.out|apply ae|apply ag|apply ah|refine az ?_ Ta.out)|exact HB.out)⟩
  .rw[if_neg c5] at H
   exact absurd H (by simp)
def rR.f(a0:Int)(a1:Int):Option (Int):=some (mx (wrap64 (a0-a1)) (wrap64 (a1-a0)))
set_option maxHeartbeats 8000000 in
theorem rR.calls(a0:Int)(a1:Int)(r:Int)(w:World)(h:rR.f a0 a1=some r):
  Calls Tryz.prog 155 #[.int .i64 a0,.int .i64 a1] w λe w'=>e= .returned (.int .i64 r)/\Below w.heap.size w w':=by
 have HB:=aa.mk (Below.refl w.heap.size w)
 have H:(some (mx (wrap64 (a0-a1)) (wrap64 (a1-a0))))=some r:=h
 clear h
 obtain⟨ji3,Uw⟩:∃j_:Int,(mx (wrap64 (a0-a1)) (wrap64 (a1-a0)))=j_:=⟨_,rfl⟩
 replace H:(some ji3)=some r:=by first|(rw[Uw] at H;exact H)|(simp only[Uw] at H ⊢;exact H)
 have alj:(if(wrap64 (a0-a1))<(wrap64 (a1-a0)) then(wrap64 (a1-a0)) else(wrap64 (a0-a1)))=ji3:=Uw
 obtain rfl:=Option.some.inj H
 go_enter Tryz.func155,Tryz.ntmps155
 go_wp2
 go_ret
 exact⟨by first|rfl|(simp[aY,aX]<;>rfl)|(simp only[<- Uw];first|rfl|(simp[aY,aX]<;>rfl))|(simp[*,aY,aX]<;>rfl),by repeat(first|(with_reducible first|exact HB.out|apply ae|apply ag|apply ah)|exact HB.out)⟩
end Go.Proofs.YtkjoilgpmngndaaGreat.au
namespace Go.Proofs.YtkjoilgpmngndaaGreat
open Go.RowKit YtkjoilgpmngndaaGreatW.aj YtkjoilgpmngndaaGreatW.aJ
abbrev I:Bool:=true
abbrev O:Bool:=false
theorem sb0{α:Type}{l:List α}{i:Nat}{a:α}:l.toArray.setIfInBounds i a=(l.set i a).toArray:=by simp
theorem sb1{α:Type}{x a:α}{l:List α}:(x::l).set 0 a=a::l:=rfl
theorem dD{α:Type}{x a:α}{l:List α}{n:Nat}:(x::l).set (n+1) a=x::l.set n a:=rfl
theorem eP{α:Type}{x:α}{l:List α}:(x::l)[0]?=some x:=rfl
theorem eO{α:Type}{x:α}{l:List α}{n:Nat}:(x::l)[n+1]?=l[n]?:=rfl
theorem aZ{P:Program}{md:Region.Mode}{ops:Array Oper}{Q:Exit->Act->World->Prop}{S:World->Prop}{ds:List Nat}{fuel:Nat}{l:Array Bool}{a a':Act}{w:World}{oi:Oper}{v:Value}{T:Bool×List (List Nat×List Nat)}(i N:Nat)(l':Array Bool)
  (hT:aa (dW md ops=T)) (hi:ops[i]?=some oi:=by exact rfl) (hN:oi.dst=some N:=by exact rfl) (hc:Vi T l.toList l'.toList i=true:=by kernel_rfl) (hQ:∀c a w,Q (.panic c) (a.put oi.dst v) w->Q (.panic c) a w:=by exact λ_ _ _ h=>h)
  (hw:Region.wanted oi (yielded ops a.tmps)=true:=by rfl) (hy:∀w,(execOp a.eval oi).run P w= .ok (.value v) w:=by(intro w';go_simp;with_reducible rfl))
  (ha:a.put (some N) v=a':=by(simp only[Act.put,sb0,sb1,dD,dI,dY];rfl))
  (h:bC P md ops Q S ds fuel l' a' w):bC P md ops Q S ds (fuel+1) l a w:=
 pW l' hi hN (eF hT.out hc) hQ (Or.inl ⟨hw,hy⟩) ha h
theorem dG{P:Program}{md:Region.Mode}{ops:Array Oper}{Q:Exit->Act->World->Prop}{S:World->Prop}{ds:List Nat}{fuel:Nat}{l:Array Bool}{a a':Act}{w:World}{oi:Oper}{v:Value}{T:Bool×List (List Nat×List Nat)}{B:List Nat}(i N:Nat)(l':Array Bool)
  (hT:aa (dW md ops=T)) (hB:aa (bJ T.2 B=true)) (hS:S w) (hi:ops[i]?=some oi:=by exact rfl) (hN:oi.dst=some N:=by exact rfl) (hc:Mi T B ds l.toList l'.toList i=true:=by kernel_rfl) (hQ:∀c a w,Q (.panic c) (a.put oi.dst v) w->Q (.panic c) a w:=by exact λ_ _ _ h=>h)
  (hw:Region.wanted oi (yielded ops a.tmps)=true:=by rfl) (hy:∀w,S w->(execOp a.eval oi).run P w= .ok (.value v) w)
  (ha:a.put (some N) v=a':=by(simp only[Act.put,sb0,sb1,dD,dI,dY];rfl))
  (h:bC P md ops Q S ds fuel l' a' w):bC P md ops Q S ds (fuel+1) l a w:=
 Qi l' hi hN (Gr hT.out hB.out hc) hQ (Or.inl ⟨hw,hy⟩) hS ha h
theorem iY{P:Program}{md:Region.Mode}{ops:Array Oper}{Q:Exit->Act->World->Prop}{S:World->Prop}{ds:List Nat}{fuel:Nat}{l:Array Bool}{a a':Act}{w:World}(h:bC P md ops Q S ds fuel l a' w)(ha:a=a':=by(simp only[Act.put,sb0,sb1,dD];rfl)):bC P md ops Q S ds fuel l a w:=bH ha h
end Go.Proofs.YtkjoilgpmngndaaGreat
