import Derived.Test.YtdekaocdmjndaaaGreatQ3
set_option maxRecDepth 100000
set_option linter.all false
namespace Go.Proofs.YtdekaocdmjndaaaGreat.ah
open Go.RowKit YtdekaocdmjndaaaGreatW.aj YtdekaocdmjndaaaGreatW.aH YtdekaocdmjndaaaGreatW.eu
attribute [local go_sem] nA pF qw sI mU mR pI pE
mutual
def ai.l0:Nat->Int->List Int->List Int->Int->Option (List Int×List Int)
 |0,_,_,_,_=>none
 |k+1,x0,x1,x4,x6=>if x6<x0 then(if x4.length<17592186044416 then(ai.l0 k x0 x1 (x4++[x6]) (wrap64 (x6+1))) else(none)) else(ai.l1 k x0 x1 x4 (wrap64 (x0-1)))
def ai.j2:Nat->Int->List Int->Option (List Int×List Int)
 |0,_,_=>none
 |k+1,x0,x4=>if 0<=x0 then(if(x0:Int).toNat<=35184372088832 then(ai.l2 k x0 x4 (List.replicate (x0:Int).toNat 0) 0) else(none)) else(none)
def ai.l2:Nat->Int->List Int->List Int->Int->Option (List Int×List Int)
 |0,_,_,_,_=>none
 |k+1,x0,x4,x5,x9=>if x9<x0 then(if 0<=x9 then(if x9<(x4.length:Int) then(if 0<=(rd x4 x9) then(if(rd x4 x9)<(x5.length:Int) then(ai.l2 k x0 x4 (x5.set ((rd x4 x9):Int).toNat x9) (wrap64 (x9+1))) else(none)) else(none)) else(none)) else(none)) else(some (x4,x5))
def ai.l1:Nat->Int->List Int->List Int->Int->Option (List Int×List Int)
 |0,_,_,_,_=>none
 |k+1,x0,x1,x4,x7=>if x7>0 then(if(x1.length:Int)>0 then(if(x1.length:Int)=0 then(none) else(if 0<=(Int.tmod x7 (x1.length:Int)) then(if(Int.tmod x7 (x1.length:Int))<(x1.length:Int) then(if(wrap64 (x7+1))=0 then(none) else(if 0<=(Int.tmod (wrap64 (rd x1 (Int.tmod x7 (x1.length:Int)))) (wrap64 (x7+1))) then(if(Int.tmod (wrap64 (rd x1 (Int.tmod x7 (x1.length:Int)))) (wrap64 (x7+1)))<(x4.length:Int) then(if 0<=x7 then(if x7<(x4.length:Int) then(ai.l1 k x0 x1 ((x4.set (x7:Int).toNat (rd x4 (Int.tmod (wrap64 (rd x1 (Int.tmod x7 (x1.length:Int)))) (wrap64 (x7+1))))).set ((Int.tmod (wrap64 (rd x1 (Int.tmod x7 (x1.length:Int)))) (wrap64 (x7+1))):Int).toNat (rd x4 x7)) (wrap64 (x7-1))) else(none)) else(none)) else(none)) else(none))) else(none)) else(none))) else(ai.j2 k x0 x4)) else(ai.j2 k x0 x4)
end
def ai.f(k:Nat)(a0:Int)(l1:List Int):Option (List Int×List Int):=ai.l0 k a0 l1 ([]:List Int) 0
def ai.T9:Bool×List (List Nat×List Nat):=(true,[([],[]),([],[]),([],[]),([],[]),([],[]),([],[]),([4,5],[4,5]),([6],[6]),([],[]),([],[]),([8,9],[8,9]),([10],[10]),([0,1,0,1,4,5,6,7,11],[0,1]),([12,7,0,1,4,5,6,7,11],[7,12]),([2,3,0,1,2,3,4,5,6,7,8,9,10,11,12,13],[2,3]),([14,11,13,0,1,2,3,4,5,6,7,8,9,10,11,12,13],[11,14])])
def ai.B9:List Nat:=[0,0,0,0,0,0,48,112,0,0,768,1792,4083,8179,16383,32767]
theorem ai.Cr:eB .any (opsOf Tryz.f11 9)=ai.T9:=by kernel_rfl
theorem ai.uf:bI ai.T9.2 ai.B9=true:=by kernel_rfl
set_option maxHeartbeats 8000000 in
theorem ai.calls(k:Nat)(a0:Int)(A1:Option Addr)(c1:Nat)(l1:List Int)(r1:List Int)(r2:List Int)(w:World)(hr1:Kd.C (Kd.int .u16) w A1 l1.length l1)(hc1:l1.length<=c1)(h:ai.f k a0 l1=some (r1,r2)):
  Calls Tryz.prog 11 #[.int .i64 a0,.slice A1 l1.length c1] w λe w'=>∃Ql v1_:Value,e= .returned (.tuple #[Ql,v1_])/\Kd.R (Kd.int .i64) 3 w' w.heap.size (λk_=>some k_≠(v1_:Value).ownBlock) Ql r1/\Kd.R (Kd.int .i64) 3 w' w.heap.size (λk_=>some k_≠(Ql:Value).ownBlock) v1_ r2/\Below w.heap.size w w':=by
 have HR1:=aa.mk hr1
 have wL:=aa.mk hc1
 clear hr1 hc1
 have HB:=aa.mk (Below.refl w.heap.size w)
 have H:(ai.l0 k a0 l1 ([]:List Int) 0)=some (r1,r2):=h
 clear h
 have H':=aa.mk H
 clear H
 go_enter Tryz.func11,Tryz.ntmps11
 go_wp2
 go_loopg [4,6] k (λkq v4 v6 w'=>∃(eF:List Int) (yM:Int),v6= .int .i64 yM/\aa (ai.l0 kq a0 l1 eF yM=some (r1,r2))/\aa (kq<=k)/\aa (Kd.R (Kd.int .i64) 3 w' w.heap.size (λ_=>True) v4 eF)/\aa (Below w.heap.size w w'))
 case atStart=>exact⟨(([]:List Int)),(0),(by first|rfl|(simp;done)|(simp[*];done)),H',⟨Nat.le_refl _⟩,⟨by first|exact Kd.iH _ _ _ _ _|exact Kd.JC _ _ _ _ _|exact Kd.Js _ _ _ _ _|exact Kd.JA _ _ _ _ _|exact Kd.Jv _ _ _ _ _⟩,⟨by repeat(first|(with_reducible first|exact HB.out|apply ae|apply ag|apply ak)|exact HB.out)⟩⟩
 case round=>
  clear H'
  (try clear c1);(try clear p2)
  obtain⟨eF,yM,rfl,HA,pX,kC,HB⟩:=hrel
  cases gk with
  |zero=>exact absurd HA.out (by simp[ai.l0])
  |succ k1=>
   have H:=HA.out
   clear HA
   simp only[ai.l0] at H
   by_cases c3:yM<a0
   .rw[if_pos c3] at H
    have wo:decide (yM<a0)=true:=decide_eq_true c3
    clear c3
    by_cases c4:eF.length<17592186044416
    .rw[if_pos c4] at H
     have afZ:=aa.mk c4
     clear c4
     obtain⟨XJ,EK⟩:∃y_:List Int,y_=(eF++[yM]):=⟨_,rfl⟩
     replace H:(ai.l0 k1 a0 l1 XJ (wrap64 (yM+1)))=some (r1,r2):=by first|(rw[EK];with_reducible exact H)|(have o8:=(Option.bind_some _ _).symm.trans H;rw[EK];with_reducible exact o8)|(have o8:=(Option.bind_some _ _).symm.trans H;with_reducible exact o8)|with_reducible exact H|(rw[EK];exact H)|exact H
     have aad:=aa.mk EK
     clear EK
     have H':=aa.mk H
     clear H
     go_wp2_with (first|((with_reducible refine dN (b:= .append) (xs:=#[.tmp 15,.tmp 17]) rfl ?_);(try(refine qA (by rfl) ?_;dsimp only));at_builtin;refine Kd.jF (Kd.int .i64) (w0:=w) w.heap.size rfl (.tmp 15) (.tmp 17) 30 3 (.int .i64 0) 8 rfl Tryz.underlying30 info3 rfl (by decide) (by omega) u4 eF yM [.int .i64 yM] (λ_=>True) (λ_=>False) rfl rfl ?aP (λ_ hk=>hk.elim) ?aF ?aO ?aB ?aS ?aL ?_;(case aP=>exact rfl);(case aB=>exact(by repeat(first|(with_reducible first|exact HB.out|apply ae|apply ag|apply ak)|exact HB.out)));(case aF=>exact(λ_ _=>trivial));(case aO=>exact(by(with_reducible repeat(first|apply Kd.bH|apply Kd.bQ|apply Kd.bX));exact kC.out));(case aS=>exact(aT (by repeat(first|(with_reducible first|exact HB.out|apply ae|apply ag|apply ak)|exact HB.out))));(case aL=>have:=afZ.out;omega);intro akg w5 ho hb hg hat;rw[<- aad.out] at ho;have ic:=aa.mk (hb);have ib:=aa.mk (ho);clear HB;clear kC;have HB:=ic;have aaw:=ib;clear ic ib;clear ho hb hg hat))
     go_roundg k1
     case measure=>have:=pX.out;omega
     case rel=>exact⟨(XJ),(wrap64 (yM+1)),(by first|rfl|(simp;done)|(simp[*];done)),H',⟨by have:=pX.out;omega⟩,⟨by(with_reducible repeat(first|apply Kd.bH|apply Kd.bQ|apply Kd.bX));exact aaw.out⟩,⟨by repeat(first|(with_reducible first|exact HB.out|apply ae|apply ag|apply ak)|exact HB.out)⟩⟩
    .rw[if_neg c4] at H
     exact absurd H (by simp)
   .rw[if_neg c3] at H
    have wo:decide (yM<a0)=false:=decide_eq_false c3
    clear c3
    have FN:=aa.mk H
    clear H
    go_upto_block 2 with(fail)
    go_cut [] (λwc=>∃(kq:Nat) (oK:List Int),aa (ai.j2 kq a0 oK=some (r1,r2))/\aa (kq<=k1)/\aa (Kd.R (Kd.int .i64) 3 wc w.heap.size (λ_=>True) u4 oK)/\aa (Below w.heap.size w wc))
    case first=>
     have H:=FN.out
     clear FN
     have H':=aa.mk H
     clear H
     go_wp2
     go_loopg [7] k1 (λkq v7 w'=>∃(jZ:List Int) (gZ:Int),v7= .int .i64 gZ/\aa (ai.l1 kq a0 l1 jZ gZ=some (r1,r2))/\aa (kq<=k1)/\aa (Kd.R (Kd.int .i64) 3 w' w.heap.size (λ_=>True) u4 jZ)/\aa (Below w.heap.size w w'))
     case atStart=>exact⟨(eF),(wrap64 (a0-1)),(by first|rfl|(simp;done)|(simp[*];done)),H',⟨Nat.le_refl _⟩,⟨by(with_reducible repeat(first|apply Kd.bH|apply Kd.bQ|apply Kd.bX));exact kC.out⟩,⟨by repeat(first|(with_reducible first|exact HB.out|apply ae|apply ag|apply ak)|exact HB.out)⟩⟩
     case round=>
      clear H'
      (try clear c1);(try clear p2);(try clear c3);(try clear wo);(try clear c4);(try clear p6);(try clear p2)
      obtain⟨jZ,gZ,rfl,HA,IB,kC,HB⟩:=hrel
      cases gk with
      |zero=>exact absurd HA.out (by simp[ai.l1])
      |succ k2=>
       have H:=HA.out
       clear HA
       simp only[ai.l1] at H
       by_cases c7:gZ>0
       .rw[if_pos c7] at H
        have yt:decide (0<gZ)=true:=decide_eq_true c7
        clear c7
        (first|rw[yt]|(simp only[cB,dX];rw[yt])|skip)
        by_cases c8:(l1.length:Int)>0
        .rw[if_pos c8] at H
         have OJ:decide (0<(l1.length:Int))=true:=decide_eq_true c8
         have V9:decide (0<l1.length)=true:=decide_eq_true (by omega)
         clear c8
         by_cases c9:(l1.length:Int)=0
         .rw[if_pos c9] at H
          exact absurd H (by simp)
         .rw[if_neg c9] at H
          have ZF:((l1.length:Int)==0)=false:=beq_eq_false_iff_ne.mpr c9
          have ZE:((l1.length:Int) !=0)=true:=bne_iff_ne.mpr c9
          have ZC:¬(l1=[]):=λh_=>c9 (by rw[h_];rfl)
          obtain⟨vI,SI⟩:∃j_:Int,(Int.tmod gZ (l1.length:Int))=j_:=⟨_,rfl⟩
          replace H:(if 0<=(vI) then(if(vI)<(l1.length:Int) then(if(wrap64 (gZ+1))=0 then(none) else(if 0<=(Int.tmod (wrap64 (rd l1 (vI))) (wrap64 (gZ+1))) then(if(Int.tmod (wrap64 (rd l1 (vI))) (wrap64 (gZ+1)))<(jZ.length:Int) then(if 0<=gZ then(if gZ<(jZ.length:Int) then(ai.l1 k2 a0 l1 ((jZ.set (gZ:Int).toNat (rd jZ (Int.tmod (wrap64 (rd l1 (vI))) (wrap64 (gZ+1))))).set ((Int.tmod (wrap64 (rd l1 (vI))) (wrap64 (gZ+1))):Int).toNat (rd jZ gZ)) (wrap64 (gZ-1))) else(none)) else(none)) else(none)) else(none))) else(none)) else(none))=some (r1,r2):=by first|(rw[SI] at H;exact H)|(simp only[SI] at H ⊢;exact H)
          by_cases c11:0<=(vI)
          .rw[if_pos c11] at H
           have Ji:decide (0<=(vI))=true:=decide_eq_true c11
           clear c11
           by_cases c12:(vI)<(l1.length:Int)
           .rw[if_pos c12] at H
            have Tv:decide ((vI)<(l1.length:Int))=true:=decide_eq_true c12
            clear c12
            by_cases c13:(wrap64 (gZ+1))=0
            .rw[if_pos c13] at H
             exact absurd H (by simp)
            .rw[if_neg c13] at H
             have Tu:((wrap64 (gZ+1))==0)=false:=beq_eq_false_iff_ne.mpr c13
             have Tt:((wrap64 (gZ+1)) !=0)=true:=bne_iff_ne.mpr c13
             obtain⟨oV,SH⟩:∃j_:Int,(Int.tmod (wrap64 (rd l1 (vI))) (wrap64 (gZ+1)))=j_:=⟨_,rfl⟩
             replace H:(if 0<=(oV) then(if(oV)<(jZ.length:Int) then(if 0<=gZ then(if gZ<(jZ.length:Int) then(ai.l1 k2 a0 l1 ((jZ.set (gZ:Int).toNat (rd jZ (oV))).set ((oV):Int).toNat (rd jZ gZ)) (wrap64 (gZ-1))) else(none)) else(none)) else(none)) else(none))=some (r1,r2):=by first|(rw[SH] at H;exact H)|(simp only[SH] at H ⊢;exact H)
             by_cases c15:0<=(oV)
             .rw[if_pos c15] at H
              have Tq:decide (0<=(oV))=true:=decide_eq_true c15
              clear c15
              by_cases c16:(oV)<(jZ.length:Int)
              .rw[if_pos c16] at H
               have Tp:decide ((oV)<(jZ.length:Int))=true:=decide_eq_true c16
               clear c16
               by_cases c17:0<=gZ
               .rw[if_pos c17] at H
                have Tn:decide (0<=gZ)=true:=decide_eq_true c17
                clear c17
                by_cases c18:gZ<(jZ.length:Int)
                .rw[if_pos c18] at H
                 have Tm:decide (gZ<(jZ.length:Int))=true:=decide_eq_true c18
                 clear c18
                 obtain⟨XI,EJ⟩:∃y_:List Int,y_=(jZ.set (gZ:Int).toNat (rd jZ (oV))):=⟨_,rfl⟩
                 replace H:(ai.l1 k2 a0 l1 (XI.set ((oV):Int).toNat (rd jZ gZ)) (wrap64 (gZ-1)))=some (r1,r2):=by first|(rw[EJ];with_reducible exact H)|(have o8:=(Option.bind_some _ _).symm.trans H;rw[EJ];with_reducible exact o8)|(have o8:=(Option.bind_some _ _).symm.trans H;with_reducible exact o8)|with_reducible exact H|(rw[EJ];exact H)|exact H
                 have aac:=aa.mk EJ
                 clear EJ
                 obtain⟨XH,EI⟩:∃y_:List Int,y_=(XI.set ((oV):Int).toNat (rd jZ gZ)):=⟨_,rfl⟩
                 replace H:(ai.l1 k2 a0 l1 XH (wrap64 (gZ-1)))=some (r1,r2):=by first|(rw[EI];with_reducible exact H)|(have o8:=(Option.bind_some _ _).symm.trans H;rw[EI];with_reducible exact o8)|(have o8:=(Option.bind_some _ _).symm.trans H;with_reducible exact o8)|with_reducible exact H|(rw[EI];exact H)|exact H
                 have aab:=aa.mk EI
                 clear EI
                 have H':=aa.mk H
                 clear H
                 have M7:0<=((vI):Int):=of_decide_eq_true (by first|(with_reducible assumption)|assumption)
                 have MZ:(vI)<(l1.length:Int):=of_decide_eq_true (by first|(with_reducible assumption)|assumption)
                 obtain⟨aiV,afC,vL⟩:=Kd.gu HR1.out (vI) M7 MZ
                 cases afC
                 replace vL:=(HB.out.cell (World.block_lt_of_cell? w _ vL)).trans vL
                 replace M7:=eq_true M7
                 replace MZ:=eq_true MZ
                 try go_wp2
                 have ic:=aa.mk (Kd.bX kC.out)
                 have ib:=aa.mk (ak HB.out)
                 clear kC
                 clear HB
                 have kC:=ic
                 have HB:=ib
                 clear ic ib
                 obtain⟨am8,alH,Zu⟩:=Kd.di kC.out
                 (first|subst Zu|(injection Zu with Zp f2_ Zo;have f4_:=Zp.symm;have f5_:=Zo.symm;clear Zp f2_ Zo;subst f4_;subst f5_))
                 have M6:0<=((oV):Int):=of_decide_eq_true (by first|(with_reducible assumption)|assumption)
                 have MX:(oV)<(jZ.length:Int):=of_decide_eq_true (by first|(with_reducible assumption)|assumption)
                 obtain⟨ZX,afB,vK⟩:=Kd.gu (Kd.eZ kC.out).2.2 (oV) M6 MX
                 cases afB
                 replace M6:=eq_true M6
                 replace MX:=eq_true MX
                 have M5:0<=(gZ:Int):=of_decide_eq_true (by first|(with_reducible assumption)|assumption)
                 have MW:gZ<(jZ.length:Int):=of_decide_eq_true (by first|(with_reducible assumption)|assumption)
                 obtain⟨ZW,afA,vJ⟩:=Kd.gu (Kd.eZ kC.out).2.2 gZ M5 MW
                 obtain rfl:ZX=ZW:=(by injection afA)
                 replace M5:=eq_true M5
                 replace MW:=eq_true MW
                 have UE:0<=(gZ:Int):=of_decide_eq_true (by first|(with_reducible assumption)|assumption)
                 have Ux:(gZ:Int)<((jZ.length:Int):Int):=of_decide_eq_true (by first|(with_reducible assumption)|assumption)
                 obtain⟨Y9,alI,Zw,Zd,afj,alL,aaH⟩:=Kd.zY kC.out (by omega)
                 (first|cases Zw|(injection Zw with Jf Zy Zz;(first|subst Jf|(injection Jf with Jf;subst Jf));subst Zz;clear Zy))
                 have aa8:=aa.mk Zd
                 have ag2:=aa.mk aaH
                 clear Zd afj aaH
                 (first|simp only[add_plain] at vK|skip)
                 (first|simp only[add_plain] at vJ|skip)
                 obtain⟨GZ,Vg⟩:=Kd.jk 0 kC.out (gZ:Int) UE Ux
                 replace UE:=eq_true UE
                 replace Ux:=eq_true Ux
                 have WE:=Kd.uQ kC.out (gZ:Int) (rd jZ (oV))
                 rw[<- aac.out] at WE
                 have WA:=aa.mk WE
                 clear WE
                 have UD:0<=((oV):Int):=of_decide_eq_true (by first|(with_reducible assumption)|assumption)
                 have Uw:((oV):Int)<((jZ.length:Int):Int):=of_decide_eq_true (by first|(with_reducible assumption)|assumption)
                 obtain⟨GY,Vf⟩:=Kd.jk 0 WA.out ((oV):Int) UD Uw
                 replace UD:=eq_true UD
                 replace Uw:=eq_true Uw
                 have WC:=Kd.uQ WA.out ((oV):Int) (rd jZ gZ)
                 rw[<- aab.out] at WC
                 have aas:=aa.mk WC
                 clear WC
                 refine fF (n:=16) (S:=λw'=>w'.cell? ⟨Y9,((oV)).toNat,none⟩=some (.int .i64 (rd jZ (oV)))/\w'.cell? ⟨Y9,(gZ).toNat,none⟩=some (.int .i64 (rd jZ gZ))) (ds:=[13,15]) #[O,O,O,O,O,O,O,O,O,O,O,O,O,O,O,O] (by kernel_rfl) rfl rfl ⟨vK,vJ⟩ (λhHeld=>?_);refine bG ai.Cr ai.uf (λau cz=>?_)
                 generalize wr.drew=w21 at kC HB ag2 WA aas Vg Vf vK vJ GZ GY hHeld ⊢
                 refine bq 0 41 #[I,O,O,O,O,O,O,O,O,O,O,O,O,O,O,O] au (h:=?_)
                 refine bq 1 42 #[I,I,O,O,O,O,O,O,O,O,O,O,O,O,O,O] au (h:=?_)
                 refine bq 2 43 #[I,I,I,O,O,O,O,O,O,O,O,O,O,O,O,O] au (h:=?_)
                 refine bq 3 44 #[I,I,I,I,O,O,O,O,O,O,O,O,O,O,O,O] au (h:=?_)
                 refine bq 4 45 #[I,I,I,I,I,O,O,O,O,O,O,O,O,O,O,O] au (h:=?_)
                 refine bq 5 46 #[I,I,I,I,I,I,O,O,O,O,O,O,O,O,O,O] au (h:=?_)
                 refine bq 6 47 #[I,I,I,I,I,I,I,O,O,O,O,O,O,O,O,O] au (h:=?_)
                 refine bq 8 49 #[I,I,I,I,I,I,I,O,I,O,O,O,O,O,O,O] au (h:=?_)
                 refine bq 9 50 #[I,I,I,I,I,I,I,O,I,I,O,O,O,O,O,O] au (h:=?_)
                 refine bq 10 51 #[I,I,I,I,I,I,I,O,I,I,I,O,O,O,O,O] au (h:=?_)
                 refine fJ 7 48 #[I,I,I,I,I,I,I,I,I,I,I,O,O,O,O,O] au cz hHeld (hy:=by(rintro w' ⟨s0,s1⟩;go_simp;with_reducible rfl)) (h:=?_)
                 refine fJ 11 52 #[I,I,I,I,I,I,I,I,I,I,I,I,O,O,O,O] au cz hHeld (hy:=by(rintro w' ⟨s0,s1⟩;go_simp;with_reducible rfl)) (h:=?_)
                 refine bq 12 53 #[I,I,I,I,I,I,I,I,I,I,I,I,I,O,O,O] au (h:=?_)
                 refine fB (i:=13) (N:=none) #[I,I,I,I,I,I,I,I,I,I,I,I,I,I,O,O] rfl rfl (aM au.out (by kernel_rfl)) (by decide) (λK hK=>?_)
                 refine kg (w1:=?_) (by rfl) rfl ?_ ?_
                 rotate_left
                 .go_simp
                  rfl
                 refine hK.out _ _ ?_
                 clear hK K
                 refine bq 14 54 #[I,I,I,I,I,I,I,I,I,I,I,I,I,I,I,O] au (h:=?_)
                 refine fB (i:=15) (N:=none) #[I,I,I,I,I,I,I,I,I,I,I,I,I,I,I,I] rfl rfl (aM au.out (by kernel_rfl)) (by decide) (λK hK=>?_)
                 refine kg (w1:=?_) (by rfl) rfl ?_ ?_
                 rotate_left
                 .go_simp
                  rfl
                 refine hK.out _ _ ?_
                 clear hK K
                 refine fM (bP au.out (by kernel_rfl)) ?_
                 try go_wp2
                 go_roundg k2
                 case measure=>have:=pX.out;have:=IB.out;omega
                 case rel=>exact⟨(XH),(wrap64 (gZ-1)),(by first|rfl|(simp;done)|(simp[*];done)),H',⟨by have:=pX.out;have:=IB.out;omega⟩,⟨by(with_reducible repeat(first|apply Kd.bH|apply Kd.bQ|apply Kd.bX));exact aas.out⟩,⟨by repeat(first|(with_reducible first|exact HB.out|apply ae|apply ag|apply ak|refine aJ ?_ aa8.out|refine aJ ?_ aa8.out)|exact HB.out)⟩⟩
                .rw[if_neg c18] at H
                 exact absurd H (by simp)
               .rw[if_neg c17] at H
                exact absurd H (by simp)
              .rw[if_neg c16] at H
               exact absurd H (by simp)
             .rw[if_neg c15] at H
              exact absurd H (by simp)
           .rw[if_neg c12] at H
            exact absurd H (by simp)
          .rw[if_neg c11] at H
           exact absurd H (by simp)
        .rw[if_neg c8] at H
         have OJ:decide (0<(l1.length:Int))=false:=decide_eq_false c8
         have V9:decide (0<l1.length)=false:=decide_eq_false (by omega)
         clear c8
         have H':=aa.mk H
         clear H
         go_wp2
         go_meet
         case rel=>exact⟨_,(jZ),H',⟨by have:=pX.out;have:=IB.out;first|omega|exact Nat.le_refl _⟩,⟨by(with_reducible repeat(first|apply Kd.bH|apply Kd.bQ|apply Kd.bX));exact kC.out⟩,⟨by repeat(first|(with_reducible first|exact HB.out|apply ae|apply ag|apply ak)|exact HB.out)⟩⟩
       .rw[if_neg c7] at H
        have yt:decide (0<gZ)=false:=decide_eq_false c7
        clear c7
        (first|rw[yt]|(simp only[cB,dX];rw[yt])|skip)
        have H':=aa.mk H
        clear H
        go_wp2
        go_meet
        case rel=>exact⟨_,(jZ),H',⟨by have:=pX.out;have:=IB.out;first|omega|exact Nat.le_refl _⟩,⟨by(with_reducible repeat(first|apply Kd.bH|apply Kd.bQ|apply Kd.bX));exact kC.out⟩,⟨by repeat(first|(with_reducible first|exact HB.out|apply ae|apply ag|apply ak)|exact HB.out)⟩⟩
    case rest=>
     clear FN
     (try clear c1);(try clear p1);(try clear q1);(try clear hx1);(try clear p2);(try clear q2);(try clear hx2);(try clear hf2);(try clear c3);(try clear wo);(try clear c4);(try clear p6)
     (try clear c7);(try clear yt);(try clear c8);(try clear OJ);(try clear V9);(try clear c9);(try clear ZF);(try clear ZE);(try clear ZC);(try clear c11);(try clear Ji);(try clear c12)
     (try clear Tv);(try clear c13);(try clear Tu);(try clear Tt);(try clear p14);(try clear q14);(try clear aeb);(try clear c15);(try clear Tq);(try clear c16);(try clear Tp);(try clear c17)
     (try clear Tn);(try clear c18);(try clear Tm);(try clear UE);(try clear Ux);(try clear aea);(try clear aeJ);(try clear UD);(try clear Uw);(try clear ad9);(try clear aeI);(try clear vL)
     (try clear vK);(try clear vJ);(try clear GZ);(try clear GY);(try clear M7);(try clear M6);(try clear M5);(try clear UE);(try clear p2);(try clear UD);(try clear p6);(try clear MZ)
     (try clear MX);(try clear MW);(try clear Ux);(try clear Uw)
     obtain⟨kq,oK,HA,HJ5,kC,HB⟩:=hcut
     cases kq with
     |zero=>exact absurd HA.out (by simp[ai.j2])
     |succ kj5=>
      have H:=HA.out
      clear HA
      simp only[ai.j2] at H
      by_cases Ll:0<=a0
      .rw[if_pos Ll] at H
       have OO:=eq_true Ll
       have ZJ:decide (0<=a0)=true:=decide_eq_true Ll
       clear Ll
       by_cases OM:(a0:Int).toNat<=35184372088832
       .rw[if_pos OM] at H
        have Tk:=eq_true OM
        have ZI:decide ((a0:Int).toNat<=35184372088832)=true:=decide_eq_true OM
        clear OM
        obtain⟨XG,EH⟩:∃y_:List Int,y_=(List.replicate (a0:Int).toNat 0):=⟨_,rfl⟩
        replace H:(ai.l2 kj5 a0 oK XG 0)=some (r1,r2):=by first|(rw[EH];with_reducible exact H)|(have o8:=(Option.bind_some _ _).symm.trans H;rw[EH];with_reducible exact o8)|(have o8:=(Option.bind_some _ _).symm.trans H;with_reducible exact o8)|with_reducible exact H|(rw[EH];exact H)|exact H
        have TA:=aa.mk EH
        clear EH
        have H':=aa.mk H
        clear H
        go_wp2_with (first|((with_reducible refine dM (N:=56) rfl ?_);(try(refine qA (by rfl) ?_;dsimp only));refine Kd.Ik (Kd.int .i64) _ 3 rfl (N:=56) rfl 30 _ _ rfl a0 rfl rfl Tryz.underlying30 (.int .i64 0) 8 info3 rfl (by decide) (by omega) 0 (ok:=λ_=>True) (okp:=λ_=>True) rfl (λ_ hk=>hk) trivial (of_decide_eq_true (by first|(with_reducible assumption)|assumption)) (Nat.le_trans (Nat.mul_le_mul_right _ (of_decide_eq_true (by first|(with_reducible assumption)|assumption):a0.toNat<=35184372088832)) (by omega)) (Below.refl _ _) (Nat.le_refl _) ?_;intro XL w27 KN hb hg_ Yr;clear hg_ Yr;(first|rw[<- TA.out] at KN|(simp only[Int.reduceToNat] at KN;rw[<- TA.out] at KN));have ic:=aa.mk (Kd.Pf (by(with_reducible repeat(first|apply Kd.bH|apply Kd.bQ|apply Kd.bX));exact kC.out) (Kd.Wx KN) hb);have ib:=aa.mk (Kd.dG (Kd.Wu KN (Kd.afR (by(with_reducible repeat(first|apply Kd.bH|apply Kd.bQ|apply Kd.bX));exact kC.out))) (aT (by repeat(first|(with_reducible first|exact HB.out|apply ae|apply ag|apply ak)|exact HB.out))));have iU:=aa.mk (bZ (by repeat(first|(with_reducible first|exact HB.out|apply ae|apply ag|apply ak)|exact HB.out)) hb);clear kC;clear HB;have kC:=ic;have aav:=ib;have HB:=iU;clear ic ib iU;clear hb KN))
        go_loopg [9] kj5 (λkq v9 w'=>∃(Aq:List Int) (lh:Int),v9= .int .i64 lh/\aa (ai.l2 kq a0 oK Aq lh=some (r1,r2))/\aa (kq<=kj5)/\aa (Kd.R (Kd.int .i64) 3 w' w.heap.size (λk_=>some k_≠(XL:Value).ownBlock) u4 oK)/\aa (Kd.R (Kd.int .i64) 3 w' w.heap.size (λk_=>some k_≠(u4:Value).ownBlock) XL Aq)/\aa (Below w.heap.size w w'))
        case atStart=>exact⟨(XG),(0),(by first|rfl|(simp;done)|(simp[*];done)),H',⟨Nat.le_refl _⟩,⟨by(with_reducible repeat(first|apply Kd.bH|apply Kd.bQ|apply Kd.bX));exact Kd.bM kC.out (λ_ hk=>hk.2)⟩,⟨by(with_reducible repeat(first|apply Kd.bH|apply Kd.bQ|apply Kd.bX));exact Kd.bM aav.out (λ_ hk=>hk.2)⟩,⟨by repeat(first|(with_reducible first|exact HB.out|apply ae|apply ag|apply ak)|exact HB.out)⟩⟩
        case round=>
         clear H'
         (try clear c1);(try clear p1);(try clear q1);(try clear hx1);(try clear c2);(try clear p2);(try clear q2);(try clear hx2);(try clear hf2);(try clear c3);(try clear wo);(try clear c4)
         (try clear p6);(try clear c7);(try clear yt);(try clear c8);(try clear OJ);(try clear V9);(try clear c9);(try clear ZF);(try clear ZE);(try clear ZC);(try clear c11);(try clear Ji)
         (try clear c12);(try clear Tv);(try clear c13);(try clear Tu);(try clear Tt);(try clear p14);(try clear q14);(try clear aeb);(try clear c15);(try clear Tq);(try clear c16);(try clear Tp)
         (try clear c17);(try clear Tn);(try clear c18);(try clear Tm);(try clear UE);(try clear Ux);(try clear aea);(try clear aeJ);(try clear UD);(try clear Uw);(try clear ad9);(try clear aeI)
         (try clear Ll);(try clear OO);(try clear ZJ);(try clear OM);(try clear Tk);(try clear ZI);(try clear vL);(try clear vK);(try clear vJ);(try clear GZ);(try clear GY);(try clear p1)
         (try clear p14);(try clear M7);(try clear M6);(try clear M5);(try clear UE);(try clear p2);(try clear UD);(try clear p6);(try clear q1);(try clear q14);(try clear MZ);(try clear MX)
         (try clear MW);(try clear Ux);(try clear q2);(try clear Uw)
         obtain⟨Aq,lh,rfl,HA,TL,kC,Iy,HB⟩:=hrel
         cases gk with
         |zero=>exact absurd HA.out (by simp[ai.l2])
         |succ k3=>
          have H:=HA.out
          clear HA
          simp only[ai.l2] at H
          by_cases Xj:lh<a0
          .rw[if_pos Xj] at H
           have ZH:decide (lh<a0)=true:=decide_eq_true Xj
           clear Xj
           by_cases c30:0<=lh
           .rw[if_pos c30] at H
            have aiR:decide (0<=lh)=true:=decide_eq_true c30
            clear c30
            by_cases c31:lh<(oK.length:Int)
            .rw[if_pos c31] at H
             have aiQ:decide (lh<(oK.length:Int))=true:=decide_eq_true c31
             clear c31
             by_cases c32:0<=(rd oK lh)
             .rw[if_pos c32] at H
              have aiP:decide (0<=(rd oK lh))=true:=decide_eq_true c32
              clear c32
              by_cases c33:(rd oK lh)<(Aq.length:Int)
              .rw[if_pos c33] at H
               have aiO:decide ((rd oK lh)<(Aq.length:Int))=true:=decide_eq_true c33
               clear c33
               obtain⟨y153,hy153⟩:∃y_:List Int,y_=(Aq.set ((rd oK lh):Int).toNat lh):=⟨_,rfl⟩
               replace H:(ai.l2 k3 a0 oK y153 (wrap64 (lh+1)))=some (r1,r2):=by first|(rw[hy153];with_reducible exact H)|(have o8:=(Option.bind_some _ _).symm.trans H;rw[hy153];with_reducible exact o8)|(have o8:=(Option.bind_some _ _).symm.trans H;with_reducible exact o8)|with_reducible exact H|(rw[hy153];exact H)|exact H
               have aaa:=aa.mk hy153
               clear hy153
               have H':=aa.mk H
               clear H
               obtain⟨am7,afE,aft⟩:=Kd.di kC.out
               subst aft
               have UH:0<=(lh:Int):=of_decide_eq_true (by first|(with_reducible assumption)|assumption)
               have UA:lh<(oK.length:Int):=of_decide_eq_true (by first|(with_reducible assumption)|assumption)
               obtain⟨ZV,e152,abz⟩:=Kd.gu (Kd.eZ kC.out).2.2 lh UH UA
               cases e152
               replace UH:=eq_true UH
               replace UA:=eq_true UA
               have p34:0<=((rd oK lh):Int):=of_decide_eq_true (by first|(with_reducible assumption)|assumption)
               have q34:((rd oK lh):Int)<((Aq.length:Int):Int):=of_decide_eq_true (by first|(with_reducible assumption)|assumption)
               obtain⟨Ou,V4,Zt,Zb,afi,alK,aaG⟩:=Kd.zY Iy.out (by omega)
               (first|cases Zt|(injection Zt with Jf Zy Zz;(first|subst Jf|(injection Jf with Jf;subst Jf));subst Zz;clear Zy))
               have ag3:=aa.mk Zb
               have amW:=aa.mk aaG
               clear Zb afi aaG
               obtain⟨ad8,aeH⟩:=Kd.jk 0 Iy.out ((rd oK lh):Int) p34 q34
               replace p34:=eq_true p34
               replace q34:=eq_true q34
               have WB:=Kd.Ws Iy.out ((rd oK lh):Int) lh
               go_wp2_with (first|((with_reducible refine zA (t:=3) (p:=68) rfl ?_);refine xy (t:=3) (p:=68) (v:=?adL) (w1:=(wr.setCell ⟨Ou,((rd oK lh):Int).toNat,none⟩ (.int .i64 lh))) ?hg ?ho ?hn ?hr ?_;(case ho=>rfl);(case hg=>rfl);(case hn=>rfl);(case hr=>first|(go_simp;done)|(go_simp;rfl));intro w37 hw;have hg:wr.grownBy w37 (some Ou):=(by rw[hw];exact WB.2);have Yp:Kd.R (Kd.int .i64) 3 w37 w.heap.size (λk_=>some k_≠(.slice (some ZV) oK.length afE:Value).ownBlock) (.slice (some ⟨Ou,0,none⟩) Aq.length V4) y153:=(by rw[hw,aaa.out];exact WB.1);clear WB;have ic:=aa.mk (Kd.RP (v:=(.slice (some ⟨Ou,0,none⟩) Aq.length V4)) (v1:=(.slice (some ⟨Ou,0,none⟩) Aq.length V4)) (ok:=(λ_=>True)) (by(with_reducible repeat(first|apply Kd.bH|apply Kd.bQ|apply Kd.bX));exact Kd.bM kC.out (λ_ hk=>⟨trivial,hk⟩)) hg (.inl rfl));have ib:=aa.mk (Yp);have iU:=aa.mk ((by rw[hw];exact aJ (HB.out) ag3.out:Below w.heap.size w w37));clear kC;clear Iy;clear HB;have kC:=ic;have Iy:=ib;have HB:=iU;clear ic ib iU;clear hg hw Yp))
               go_roundg k3
               case measure=>have:=pX.out;have:=HJ5.out;have:=TL.out;omega
               case rel=>exact⟨(y153),(wrap64 (lh+1)),(by first|rfl|(simp;done)|(simp[*];done)),H',⟨by have:=pX.out;have:=HJ5.out;have:=TL.out;omega⟩,⟨by(with_reducible repeat(first|apply Kd.bH|apply Kd.bQ|apply Kd.bX));exact Kd.bM kC.out (λ_ hk=>hk.2)⟩,⟨by(with_reducible repeat(first|apply Kd.bH|apply Kd.bQ|apply Kd.bX));exact Iy.out⟩,⟨by repeat(first|(with_reducible first|exact HB.out|apply ae|apply ag|apply ak)|exact HB.out)⟩⟩
              .rw[if_neg c33] at H
               exact absurd H (by simp)
             .rw[if_neg c32] at H
              exact absurd H (by simp)
            .rw[if_neg c31] at H
             exact absurd H (by simp)
           .rw[if_neg c30] at H
            exact absurd H (by simp)
          .rw[if_neg Xj] at H
           have ZH:decide (lh<a0)=false:=decide_eq_false Xj
           clear Xj
           simp only[Option.some.injEq,Prod.mk.injEq] at H
           obtain⟨rfl,rfl⟩:=H
           go_wp2
           go_ret2
           exact⟨_,_,by first|rfl|(simp[bn,bg]<;>rfl)|(simp[*,bn,bg]<;>rfl),by(with_reducible repeat(first|apply Kd.bH|apply Kd.bQ|apply Kd.bX));exact kC.out,by(with_reducible repeat(first|apply Kd.bH|apply Kd.bQ|apply Kd.bX));exact Iy.out,by repeat(first|(with_reducible first|exact HB.out|apply ae|apply ag|apply ak)|exact HB.out)⟩
       .rw[if_neg OM] at H
        exact absurd H (by simp)
      .rw[if_neg Ll] at H
       exact absurd H (by simp)
def fQ.f(bu:Int)(bF:Int)(dA:List (uP))(dC:List (FW)):Option (Bool):=if(dA.length:Int)<=7 then(some (decide ((dC.length:Int)<=11))) else(some false)
set_option maxHeartbeats 8000000 in
theorem fQ.calls(bu:Int)(bF:Int)(jK:Option Addr)(jg:Nat)(dA:List (uP))(mf:Option Addr)(kz:Nat)(dC:List (FW))(r:Bool)(w:World)(xK:Kd.C rD w jK dA.length dA)(xL:dA.length<=jg)(EO:Kd.C AX w mf dC.length dC)(EU:dC.length<=kz)(h:fQ.f bu bF dA dC=some r):
  Calls Tryz.prog 20 #[.agg #[.int .i64 bu,.int .i64 bF,.slice jK dA.length jg,.slice mf dC.length kz]] w λe w'=>e= .returned (.bool r)/\Below w.heap.size w w':=by
 have aeg:=Tryz.underlying59
 have Pm:=aa.mk xK
 have TP:=aa.mk xL
 clear xK xL
 have TC:=aa.mk EO
 have aaQ:=aa.mk EU
 clear EO EU
 have HB:=aa.mk (Below.refl w.heap.size w)
 have H:(if(dA.length:Int)<=7 then(some (decide ((dC.length:Int)<=11))) else(some false))=some r:=h
 clear h
 by_cases c2:(dA.length:Int)<=7
 .rw[if_pos c2] at H
  have Dr:decide ((dA.length:Int)<=7)=true:=decide_eq_true c2
  have We:decide (dA.length<=7)=true:=decide_eq_true (by omega)
  clear c2
  obtain rfl:=Option.some.inj H
  go_enter Tryz.func20,Tryz.ntmps20
  go_wp2_with (first|((with_reducible refine dM (N:=1) rfl ?_);(try(refine qA (by rfl) ?_;dsimp only));refine ek ?hg (N:=1) ?hd (cs:=#[.int .i64 bu,.int .i64 bF,.slice jK dA.length jg,.slice mf dC.length kz]) (t:=59) ?hr ?_;(case hd=>rfl);(case hg=>rfl);(case hr=>first|(go_simp;done)|(go_simp;rfl));intro pJ hg w3 fK hb;have ic:=aa.mk (bZ (by repeat(first|(with_reducible first|exact HB.out|apply ae|apply ag|apply ak)|exact HB.out)) hb);have ib:=aa.mk (fK);have iU:=aa.mk ((by rw[hg];exact(aT (by repeat(first|(with_reducible first|exact HB.out|apply ae|apply ag|apply ak)|exact HB.out))):w.heap.size<=pJ));have jR:=aa.mk ((by rw[hg];exact(aT (by repeat(first|(with_reducible first|exact HB.out|apply ae|apply ag|apply ak)|exact HB.out))):w.heap.size<=pJ));clear HB;have HB:=ic;have ma:=ib;have aa4:=iU;have PI:=jR;clear ic ib iU jR;clear hb fK hg;have Oh:w3.cell? ⟨pJ,0,none⟩=some (.int .i64 bu):=(av ma.out 0).trans rfl;have Og:w3.cell? ⟨pJ,1,none⟩=some (.int .i64 bF):=(av ma.out 1).trans rfl;have Vm:w3.cell? ⟨pJ,2,none⟩=some (.slice jK dA.length jg):=(av ma.out 2).trans rfl;have aeQ:w3.cell? ⟨pJ,3,none⟩=some (.slice mf dC.length kz):=(av ma.out 3).trans rfl;have NW:=aA ma.out 0;have NV:=aA ma.out 1;have Ve:=aA ma.out 2;have aeF:=aA ma.out 3))
  go_ret
  exact⟨by first|rfl|(simp[bn,bg]<;>rfl)|(simp[*,bn,bg]<;>rfl),by repeat(first|(with_reducible first|exact HB.out|apply ae|apply ag|apply ak|refine aJ ?_ PI.out)|exact HB.out)⟩
 .rw[if_neg c2] at H
  have Dr:decide ((dA.length:Int)<=7)=false:=decide_eq_false c2
  have We:decide (dA.length<=7)=false:=decide_eq_false (by omega)
  clear c2
  obtain rfl:=Option.some.inj H
  go_enter Tryz.func20,Tryz.ntmps20
  go_wp2_with (first|((with_reducible refine dM (N:=1) rfl ?_);(try(refine qA (by rfl) ?_;dsimp only));refine ek ?hg (N:=1) ?hd (cs:=#[.int .i64 bu,.int .i64 bF,.slice jK dA.length jg,.slice mf dC.length kz]) (t:=59) ?hr ?_;(case hd=>rfl);(case hg=>rfl);(case hr=>first|(go_simp;done)|(go_simp;rfl));intro pJ hg w5 fK hb;have ic:=aa.mk (bZ (by repeat(first|(with_reducible first|exact HB.out|apply ae|apply ag|apply ak)|exact HB.out)) hb);have ib:=aa.mk (fK);have iU:=aa.mk ((by rw[hg];exact(aT (by repeat(first|(with_reducible first|exact HB.out|apply ae|apply ag|apply ak)|exact HB.out))):w.heap.size<=pJ));have jR:=aa.mk ((by rw[hg];exact(aT (by repeat(first|(with_reducible first|exact HB.out|apply ae|apply ag|apply ak)|exact HB.out))):w.heap.size<=pJ));clear HB;have HB:=ic;have ma:=ib;have aa4:=iU;have PI:=jR;clear ic ib iU jR;clear hb fK hg;have Oe:w5.cell? ⟨pJ,0,none⟩=some (.int .i64 bu):=(av ma.out 0).trans rfl;have Od:w5.cell? ⟨pJ,1,none⟩=some (.int .i64 bF):=(av ma.out 1).trans rfl;have Vl:w5.cell? ⟨pJ,2,none⟩=some (.slice jK dA.length jg):=(av ma.out 2).trans rfl;have Vk:w5.cell? ⟨pJ,3,none⟩=some (.slice mf dC.length kz):=(av ma.out 3).trans rfl;have NU:=aA ma.out 0;have NT:=aA ma.out 1;have Vd:=aA ma.out 2;have Vb:=aA ma.out 3))
  go_ret
  exact⟨by first|rfl|(simp[bn,bg]<;>rfl)|(simp[*,bn,bg]<;>rfl),by repeat(first|(with_reducible first|exact HB.out|apply ae|apply ag|apply ak|refine aJ ?_ PI.out)|exact HB.out)⟩
def iA.f(bu:Int)(bF:Int)(yu:Int)(zV:Int):Option (Int×Int×Int×Int):=some (bu,bF,yu,zV)
set_option maxHeartbeats 8000000 in
theorem iA.calls(bu:Int)(bF:Int)(yu:Int)(zV:Int)(r1:Int)(r2:Int)(r3:Int)(r4:Int)(w:World)(h:iA.f bu bF yu zV=some (r1,r2,r3,r4)):
  Calls Tryz.prog 76 #[.agg #[.int .i64 bu,.int .i64 bF,.int .i64 yu,.int .i64 zV]] w λe w'=>e= .returned (.agg #[.int .i64 r1,.int .i64 r2,.int .i64 r3,.int .i64 r4])/\Below w.heap.size w w':=by
 have Yj:=Tryz.underlying190
 have ahH:=Tryz.underlying188
 have HB:=aa.mk (Below.refl w.heap.size w)
 have H:(some (bu,bF,yu,zV))=some (r1,r2,r3,r4):=h
 clear h
 simp only[Option.some.injEq,Prod.mk.injEq] at H
 obtain⟨rfl,rfl,rfl,rfl⟩:=H
 go_enter Tryz.func76,Tryz.ntmps76
 go_wp2_with (first|((with_reducible refine dM (N:=1) rfl ?_);refine ek ?hg (N:=1) ?hd (cs:=#[.int .i64 bu,.int .i64 bF,.int .i64 yu,.int .i64 zV]) (t:=190) ?hr ?_;(case hd=>rfl);(case hg=>rfl);(case hr=>first|(go_simp;done)|(go_simp;rfl));intro rE hg w2 fK hb;have ic:=aa.mk (bZ (by repeat(first|(with_reducible first|exact HB.out|apply ae|apply ag|apply ak)|exact HB.out)) hb);have ib:=aa.mk (fK);have iU:=aa.mk ((by rw[hg];exact(aT (by repeat(first|(with_reducible first|exact HB.out|apply ae|apply ag|apply ak)|exact HB.out))):w.heap.size<=rE));have jR:=aa.mk ((by rw[hg];exact(aT (by repeat(first|(with_reducible first|exact HB.out|apply ae|apply ag|apply ak)|exact HB.out))):w.heap.size<=rE));clear HB;have HB:=ic;have qb:=ib;have ajP:=iU;have JK:=jR;clear ic ib iU jR;clear hb fK hg)|((with_reducible refine dM (N:=2) rfl ?_);refine ek ?hg (N:=2) ?hd (cs:=#[.int .i64 0,.int .i64 0,.int .i64 0,.int .i64 0]) (t:=188) ?hr ?_;(case hd=>rfl);(case hg=>rfl);(case hr=>first|(go_simp;done)|(go_simp;rfl));intro vP hg w3 fK hb;have ic:=aa.mk (gT (g:=rE) (o:= .cells #[.int .i64 bu,.int .i64 bF,.int .i64 yu,.int .i64 zV] 190 (0,0)) (by(with_reducible repeat(first|refine aG ?_ _|refine aI ?_|refine ay ?_ _));exact qb.out) hb);have ib:=aa.mk (bZ (by repeat(first|(with_reducible first|exact HB.out|apply ae|apply ag|apply ak|refine aJ ?_ JK.out)|exact HB.out)) hb);have iU:=aa.mk (fK);have jR:=aa.mk ((by rw[hg];exact(aT (by repeat(first|(with_reducible first|exact HB.out|apply ae|apply ag|apply ak|refine aJ ?_ JK.out)|exact HB.out))):w.heap.size<=vP));have zm:=aa.mk ((by rw[hg];exact(aT (by repeat(first|(with_reducible first|exact HB.out|apply ae|apply ag|apply ak|refine aJ ?_ JK.out)|exact HB.out))):w.heap.size<=vP));have IY:=aa.mk ((by rw[hg];exact Nat.ne_of_lt (ig (g:=rE) (o:= .cells #[.int .i64 bu,.int .i64 bF,.int .i64 yu,.int .i64 zV] 190 (0,0)) (by(with_reducible repeat(first|refine aG ?_ _|refine aI ?_|refine ay ?_ _));exact qb.out)):rE≠vP));have IX:=aa.mk ((by rw[hg];exact Nat.ne_of_gt (ig (g:=rE) (o:= .cells #[.int .i64 bu,.int .i64 bF,.int .i64 yu,.int .i64 zV] 190 (0,0)) (by(with_reducible repeat(first|refine aG ?_ _|refine aI ?_|refine ay ?_ _));exact qb.out)):vP≠rE));clear qb;clear HB;have qb:=ic;have HB:=ib;have wJ:=iU;have ajO:=jR;have aa7:=zm;have LK:=IY;have LJ:=IX;clear ic ib iU jR zm IY IX;clear hb fK hg;have aeo:=LK.out;have aen:=LJ.out;have C8:w3.cell? ⟨rE,0,none⟩=some (.int .i64 bu):=(av qb.out 0).trans rfl;have C7:w3.cell? ⟨rE,1,none⟩=some (.int .i64 bF):=(av qb.out 1).trans rfl;have He:w3.cell? ⟨rE,2,none⟩=some (.int .i64 yu):=(av qb.out 2).trans rfl;have Hd:w3.cell? ⟨rE,3,none⟩=some (.int .i64 zV):=(av qb.out 3).trans rfl;have CZ:=aA qb.out 0;have CY:=aA qb.out 1;have G8:=aA qb.out 2;have G7:=aA qb.out 3;have Oe:w3.cell? ⟨vP,0,none⟩=some (.int .i64 0):=(av wJ.out 0).trans rfl;have Od:w3.cell? ⟨vP,1,none⟩=some (.int .i64 0):=(av wJ.out 1).trans rfl;have Vl:w3.cell? ⟨vP,2,none⟩=some (.int .i64 0):=(av wJ.out 2).trans rfl;have Vk:w3.cell? ⟨vP,3,none⟩=some (.int .i64 0):=(av wJ.out 3).trans rfl;have NU:=aA wJ.out 0;have NT:=aA wJ.out 1;have Vd:=aA wJ.out 2;have Vb:=aA wJ.out 3))
 refine bodyPost_ret (results_cell_row rfl _ _ vP 188 #[.int .i64 bu,.int .i64 bF,.int .i64 yu,.int .i64 zV] (0,0) _ rfl (by(with_reducible repeat(first|refine aG ?_ _|refine aI ?_|refine ay ?_ _));refine iF (cs:=#[.int .i64 bu,.int .i64 bF,.int .i64 yu,.int .i64 0]) ?_ 3 _ rfl;(with_reducible repeat(first|refine aG ?_ _|refine aI ?_|refine ay ?_ _));refine iF (cs:=#[.int .i64 bu,.int .i64 bF,.int .i64 0,.int .i64 0]) ?_ 2 _ rfl;(with_reducible repeat(first|refine aG ?_ _|refine aI ?_|refine ay ?_ _));refine iF (cs:=#[.int .i64 bu,.int .i64 0,.int .i64 0,.int .i64 0]) ?_ 1 _ rfl;(with_reducible repeat(first|refine aG ?_ _|refine aI ?_|refine ay ?_ _));refine iF (cs:=#[.int .i64 0,.int .i64 0,.int .i64 0,.int .i64 0]) ?_ 0 _ rfl;(with_reducible repeat(first|refine aG ?_ _|refine aI ?_|refine ay ?_ _));exact wJ.out) Tryz.underlying188 rfl (by kernel_rfl)) rfl ?_
 exact⟨by first|rfl|(simp[bn,bg]<;>rfl)|(simp[*,bn,bg]<;>rfl),by repeat(first|(with_reducible first|exact HB.out|apply ae|apply ag|apply ak|refine aJ ?_ JK.out|refine aJ ?_ aa7.out)|exact HB.out)⟩
end Go.Proofs.YtdekaocdmjndaaaGreat.ah
