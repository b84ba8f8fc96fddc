import Derived.Test.YtkjoilgpmngndaaGreatQ5
set_option linter.all false
namespace Go.Proofs.YtkjoilgpmngndaaGreat.av
open Go.RowKit Go.Proofs.YtkjoilgpmngndaaGreatW.aA Go.Proofs.YtkjoilgpmngndaaGreatW.aJ Go.Proofs.YtkjoilgpmngndaaGreatW.dn
attribute [local go_sem] mR nV oQ qA ma l9 nW nU
mutual
def ay.l0:Nat->Int->List Int->List Int->Int->Option (List Int×List Int)
 |0,_,_,_,_=>none
 |k+1,x0,x1,x4,x6=>if x6<x0 then(if x4.length<17592186044416 then(ay.l0 k x0 x1 (x4++[x6]) (wrap64 (x6+1))) else(none)) else(ay.l1 k x0 x1 x4 (wrap64 (x0-1)))
def ay.j2:Nat->Int->List Int->Option (List Int×List Int)
 |0,_,_=>none
 |k+1,x0,x4=>if 0<=x0 then(if(x0:Int).toNat<=35184372088832 then(ay.l2 k x0 x4 (List.replicate (x0:Int).toNat 0) 0) else(none)) else(none)
def ay.l2:Nat->Int->List Int->List Int->Int->Option (List Int×List Int)
 |0,_,_,_,_=>none
 |k+1,x0,x4,x5,x9=>if x9<x0 then(if 0<=x9 then(if x9<(x4.length:Int) then(if 0<=(rd x4 x9) then(if(rd x4 x9)<(x5.length:Int) then(ay.l2 k x0 x4 (x5.set ((rd x4 x9):Int).toNat x9) (wrap64 (x9+1))) else(none)) else(none)) else(none)) else(none)) else(some (x4,x5))
def ay.l1:Nat->Int->List Int->List Int->Int->Option (List Int×List Int)
 |0,_,_,_,_=>none
 |k+1,x0,x1,x4,x7=>if x7>0 then(if(x1.length:Int)>0 then(if(x1.length:Int)=0 then(none) else(if 0<=(Int.tmod x7 (x1.length:Int)) then(if(Int.tmod x7 (x1.length:Int))<(x1.length:Int) then(if(wrap64 (x7+1))=0 then(none) else(if 0<=(Int.tmod (wrap64 (rd x1 (Int.tmod x7 (x1.length:Int)))) (wrap64 (x7+1))) then(if(Int.tmod (wrap64 (rd x1 (Int.tmod x7 (x1.length:Int)))) (wrap64 (x7+1)))<(x4.length:Int) then(if 0<=x7 then(if x7<(x4.length:Int) then(ay.l1 k x0 x1 ((x4.set (x7:Int).toNat (rd x4 (Int.tmod (wrap64 (rd x1 (Int.tmod x7 (x1.length:Int)))) (wrap64 (x7+1))))).set ((Int.tmod (wrap64 (rd x1 (Int.tmod x7 (x1.length:Int)))) (wrap64 (x7+1))):Int).toNat (rd x4 x7)) (wrap64 (x7-1))) else(none)) else(none)) else(none)) else(none))) else(none)) else(none))) else(ay.j2 k x0 x4)) else(ay.j2 k x0 x4)
end
def ay.f(k:Nat)(a0:Int)(l1:List Int):Option (List Int×List Int):=ay.l0 k a0 l1 ([]:List Int) 0
def ay.T9:Bool×List (List Nat×List Nat):=(true,[([],[]),([],[]),([],[]),([],[]),([],[]),([],[]),([4,5],[4,5]),([6],[6]),([],[]),([],[]),([8,9],[8,9]),([10],[10]),([0,1,0,1,4,5,6,7,11],[0,1]),([12,7,0,1,4,5,6,7,11],[7,12]),([2,3,0,1,2,3,4,5,6,7,8,9,10,11,12,13],[2,3]),([14,11,13,0,1,2,3,4,5,6,7,8,9,10,11,12,13],[11,14])])
def ay.B9:List Nat:=[0,0,0,0,0,0,48,112,0,0,768,1792,4083,8179,16383,32767]
theorem ay.Je:eu .any (opsOf Tryz.f8 9)=ay.T9:=by kernel_rfl
theorem ay.yS:bO ay.T9.2 ay.B9=true:=by kernel_rfl
set_option maxHeartbeats 8000000 in
set_option maxRecDepth 100000 in
theorem ay.calls(k:Nat)(a0:Int)(A1:Option Addr)(c1:Nat)(l1:List Int)(r1:List Int)(r2:List Int)(w:World)(hr1:Kd.C (Kd.int .u16) w A1 l1.length l1)(hc1:l1.length<=c1)(h:ay.f k a0 l1=some (r1,r2)):
  Calls Tryz.prog 8 #[.int .i64 a0,.slice A1 l1.length c1] w fun e w'=>∃v0_ v1_:Value,e= .returned (.tuple #[v0_,v1_])/\Kd.R (Kd.int .i64) 3 w' w.heap.size (fun k_=>some k_≠(v1_:Value).ownBlock) v0_ r1/\Kd.R (Kd.int .i64) 3 w' w.heap.size (fun k_=>some k_≠(v0_:Value).ownBlock) v1_ r2/\Below w.heap.size w w':=by
 have HR1:=aa.mk hr1
 have QO:=aa.mk hc1
 clear hr1 hc1
 have HB:=aa.mk (Below.refl w.heap.size w)
 have H:(ay.l0 k a0 l1 ([]:List Int) 0)=some (r1,r2):=h
 clear h
 have H':=aa.mk H
 clear H
 go_enter Tryz.func8,Tryz.ntmps8
 go_wp2
 go_loopg [4,6] k (fun kq v4 v6 w'=>∃(kU:List Int) (zJ:Int),v6= .int .i64 zJ/\aa (ay.l0 kq a0 l1 kU zJ=some (r1,r2))/\aa (kq<=k)/\aa (Kd.R (Kd.int .i64) 3 w' w.heap.size (fun _=>True) v4 kU)/\aa (Below w.heap.size w w'))
 case atStart=>exact⟨(([]:List Int)),(0),(by first|rfl|(simp;done)|(simp[*];done)),H',⟨Nat.le_refl _⟩,⟨by first|exact Kd.jL _ _ _ _ _|exact Kd.YA _ _ _ _ _|exact Kd.Yv _ _ _ _ _|exact Kd.Yy _ _ _ _ _|exact Kd.Yw _ _ _ _ _⟩,⟨by repeat(first|(with_reducible first|exact HB.out|apply ae|apply ah|apply au)|exact HB.out)⟩⟩
 case round=>
  clear H'
  (try clear c1);(try clear p2)
  obtain⟨kU,zJ,rfl,HA,qU,kX,HB⟩:=hrel
  cases gk with
  |zero=>exact absurd HA.out (by simp[ay.l0])
  |succ k1=>
   have H:=HA.out
   clear HA
   simp only[ay.l0] at H
   by_cases c3:zJ<a0
   .rw[if_pos c3] at H
    have qN:decide (zJ<a0)=true:=decide_eq_true c3
    clear c3
    by_cases c4:kU.length<17592186044416
    .rw[if_pos c4] at H
     have akH:=aa.mk c4
     clear c4
     obtain⟨y158,hy158⟩:∃y_:List Int,y_=(kU++[zJ]):=⟨_,rfl⟩
     replace H:(ay.l0 k1 a0 l1 y158 (wrap64 (zJ+1)))=some (r1,r2):=by first|(rw[hy158];with_reducible exact H)|(have Bw:=(Option.bind_some _ _).symm.trans H;rw[hy158];with_reducible exact Bw)|(have Bw:=(Option.bind_some _ _).symm.trans H;with_reducible exact Bw)|with_reducible exact H|(rw[hy158];exact H)|exact H
     have aeW:=aa.mk hy158
     clear hy158
     have H':=aa.mk H
     clear H
     go_wp2_with (first|((with_reducible refine cO (b:= .append) (xs:=#[.tmp 15,.tmp 17]) rfl ?_);(try(refine eQ (by rfl) ?_;dsimp only));at_builtin;refine Kd.jk (Kd.int .i64) (w0:=w) w.heap.size rfl (.tmp 15) (.tmp 17) 22 3 (.int .i64 0) 8 rfl Tryz.underlying22 info3 rfl (by decide) (by omega) u4 kU zJ [.int .i64 zJ] (fun _=>True) (fun _=>False) rfl rfl ?aP (fun _ hk=>hk.elim) ?aF ?aO ?aB ?aS ?aL ?_;(case aP=>exact rfl);(case aB=>exact(by repeat(first|(with_reducible first|exact HB.out|apply ae|apply ah|apply au)|exact HB.out)));(case aF=>exact(fun _ _=>trivial));(case aO=>exact(by(with_reducible repeat(first|apply Kd.dA|apply Kd.gM|apply Kd.fE));exact kX.out));(case aS=>exact(aT (by repeat(first|(with_reducible first|exact HB.out|apply ae|apply ah|apply au)|exact HB.out))));(case aL=>have:=akH.out;omega);intro v159 w5 ho hb hg hat;rw[<- aeW.out] at ho;have iF:=aa.mk (hb);have iE:=aa.mk (ho);clear HB;clear kX;have HB:=iF;have ae9:=iE;clear iF iE;clear ho hb hg hat))
     go_roundg k1
     case measure=>have:=qU.out;omega
     case rel=>exact⟨(y158),(wrap64 (zJ+1)),(by first|rfl|(simp;done)|(simp[*];done)),H',⟨by have:=qU.out;omega⟩,⟨by(with_reducible repeat(first|apply Kd.dA|apply Kd.gM|apply Kd.fE));exact ae9.out⟩,⟨by repeat(first|(with_reducible first|exact HB.out|apply ae|apply ah|apply au)|exact HB.out)⟩⟩
    .rw[if_neg c4] at H
     exact absurd H (by simp)
   .rw[if_neg c3] at H
    have qN:decide (zJ<a0)=false:=decide_eq_false c3
    clear c3
    have KZ:=aa.mk H
    clear H
    go_upto_block 2 with(fail)
    go_cut [] (fun wc=>∃(kq:Nat) (pG:List Int),aa (ay.j2 kq a0 pG=some (r1,r2))/\aa (kq<=k1)/\aa (Kd.R (Kd.int .i64) 3 wc w.heap.size (fun _=>True) u4 pG)/\aa (Below w.heap.size w wc))
    case first=>
     have H:=KZ.out
     clear KZ
     have H':=aa.mk H
     clear H
     go_wp2
     go_loopg [7] k1 (fun kq v7 w'=>∃(kJ:List Int) (df:Int),v7= .int .i64 df/\aa (ay.l1 kq a0 l1 kJ df=some (r1,r2))/\aa (kq<=k1)/\aa (Kd.R (Kd.int .i64) 3 w' w.heap.size (fun _=>True) u4 kJ)/\aa (Below w.heap.size w w'))
     case atStart=>exact⟨(kU),(wrap64 (a0-1)),(by first|rfl|(simp;done)|(simp[*];done)),H',⟨Nat.le_refl _⟩,⟨by(with_reducible repeat(first|apply Kd.dA|apply Kd.gM|apply Kd.fE));exact kX.out⟩,⟨by repeat(first|(with_reducible first|exact HB.out|apply ae|apply ah|apply au)|exact HB.out)⟩⟩
     case round=>
      clear H'
      (try clear c1);(try clear p2);(try clear c3);(try clear qN);(try clear c4);(try clear p6);(try clear p2)
      obtain⟨kJ,df,rfl,HA,UD,kX,HB⟩:=hrel
      cases gk with
      |zero=>exact absurd HA.out (by simp[ay.l1])
      |succ k2=>
       have H:=HA.out
       clear HA
       simp only[ay.l1] at H
       by_cases c7:df>0
       .rw[if_pos c7] at H
        have rT:decide (0<df)=true:=decide_eq_true c7
        clear c7
        (first|rw[rT]|(simp only[dL,ed];rw[rT])|skip)
        by_cases c8:(l1.length:Int)>0
        .rw[if_pos c8] at H
         have Td:decide (0<(l1.length:Int))=true:=decide_eq_true c8
         have aaS:decide (0<l1.length)=true:=decide_eq_true (by omega)
         clear c8
         by_cases c9:(l1.length:Int)=0
         .rw[if_pos c9] at H
          exact absurd H (by simp)
         .rw[if_neg c9] at H
          have aaR:((l1.length:Int)==0)=false:=beq_eq_false_iff_ne.mpr c9
          have ael:((l1.length:Int) !=0)=true:=bne_iff_ne.mpr c9
          have aek:¬(l1=[]):=fun h_=>c9 (by rw[h_];rfl)
          obtain⟨vQ,XY⟩:∃j_:Int,(Int.tmod df (l1.length:Int))=j_:=⟨_,rfl⟩
          replace H:(if 0<=(vQ) then(if(vQ)<(l1.length:Int) then(if(wrap64 (df+1))=0 then(none) else(if 0<=(Int.tmod (wrap64 (rd l1 (vQ))) (wrap64 (df+1))) then(if(Int.tmod (wrap64 (rd l1 (vQ))) (wrap64 (df+1)))<(kJ.length:Int) then(if 0<=df then(if df<(kJ.length:Int) then(ay.l1 k2 a0 l1 ((kJ.set (df:Int).toNat (rd kJ (Int.tmod (wrap64 (rd l1 (vQ))) (wrap64 (df+1))))).set ((Int.tmod (wrap64 (rd l1 (vQ))) (wrap64 (df+1))):Int).toNat (rd kJ df)) (wrap64 (df-1))) else(none)) else(none)) else(none)) else(none))) else(none)) else(none))=some (r1,r2):=by first|(rw[XY] at H;exact H)|(simp only[XY] at H ⊢;exact H)
          by_cases c11:0<=(vQ)
          .rw[if_pos c11] at H
           have pg:decide (0<=(vQ))=true:=decide_eq_true c11
           clear c11
           by_cases c12:(vQ)<(l1.length:Int)
           .rw[if_pos c12] at H
            have Ti:decide ((vQ)<(l1.length:Int))=true:=decide_eq_true c12
            clear c12
            by_cases c13:(wrap64 (df+1))=0
            .rw[if_pos c13] at H
             exact absurd H (by simp)
            .rw[if_neg c13] at H
             have OM:((wrap64 (df+1))==0)=false:=beq_eq_false_iff_ne.mpr c13
             have Yq:((wrap64 (df+1)) !=0)=true:=bne_iff_ne.mpr c13
             obtain⟨pO,XX⟩:∃j_:Int,(Int.tmod (wrap64 (rd l1 (vQ))) (wrap64 (df+1)))=j_:=⟨_,rfl⟩
             replace H:(if 0<=(pO) then(if(pO)<(kJ.length:Int) then(if 0<=df then(if df<(kJ.length:Int) then(ay.l1 k2 a0 l1 ((kJ.set (df:Int).toNat (rd kJ (pO))).set ((pO):Int).toNat (rd kJ df)) (wrap64 (df-1))) else(none)) else(none)) else(none)) else(none))=some (r1,r2):=by first|(rw[XX] at H;exact H)|(simp only[XX] at H ⊢;exact H)
             by_cases c15:0<=(pO)
             .rw[if_pos c15] at H
              have Yp:decide (0<=(pO))=true:=decide_eq_true c15
              clear c15
              by_cases c16:(pO)<(kJ.length:Int)
              .rw[if_pos c16] at H
               have Yo:decide ((pO)<(kJ.length:Int))=true:=decide_eq_true c16
               clear c16
               by_cases c17:0<=df
               .rw[if_pos c17] at H
                have Yn:decide (0<=df)=true:=decide_eq_true c17
                clear c17
                by_cases c18:df<(kJ.length:Int)
                .rw[if_pos c18] at H
                 have Bf:decide (df<(kJ.length:Int))=true:=decide_eq_true c18
                 clear c18
                 obtain⟨aco,Kb⟩:∃y_:List Int,y_=(kJ.set (df:Int).toNat (rd kJ (pO))):=⟨_,rfl⟩
                 replace H:(ay.l1 k2 a0 l1 (aco.set ((pO):Int).toNat (rd kJ df)) (wrap64 (df-1)))=some (r1,r2):=by first|(rw[Kb];with_reducible exact H)|(have Bw:=(Option.bind_some _ _).symm.trans H;rw[Kb];with_reducible exact Bw)|(have Bw:=(Option.bind_some _ _).symm.trans H;with_reducible exact Bw)|with_reducible exact H|(rw[Kb];exact H)|exact H
                 have aeV:=aa.mk Kb
                 clear Kb
                 obtain⟨acn,Ka⟩:∃y_:List Int,y_=(aco.set ((pO):Int).toNat (rd kJ df)):=⟨_,rfl⟩
                 replace H:(ay.l1 k2 a0 l1 acn (wrap64 (df-1)))=some (r1,r2):=by first|(rw[Ka];with_reducible exact H)|(have Bw:=(Option.bind_some _ _).symm.trans H;rw[Ka];with_reducible exact Bw)|(have Bw:=(Option.bind_some _ _).symm.trans H;with_reducible exact Bw)|with_reducible exact H|(rw[Ka];exact H)|exact H
                 have aeU:=aa.mk Ka
                 clear Ka
                 have H':=aa.mk H
                 clear H
                 have RO:0<=((vQ):Int):=of_decide_eq_true (by first|(with_reducible assumption)|assumption)
                 have RG:(vQ)<(l1.length:Int):=of_decide_eq_true (by first|(with_reducible assumption)|assumption)
                 obtain⟨anM,akn,vV⟩:=Kd.dz HR1.out (vQ) RO RG
                 cases akn
                 replace vV:=(HB.out.cell (World.block_lt_of_cell? w _ vV)).trans vV
                 replace RO:=eq_true RO
                 replace RG:=eq_true RG
                 try go_wp2
                 have iF:=aa.mk (Kd.fE kX.out)
                 have iE:=aa.mk (au HB.out)
                 clear kX
                 clear HB
                 have kX:=iF
                 have HB:=iE
                 clear iF iE
                 obtain⟨arZ,aqO,ad9⟩:=Kd.pq kX.out
                 (first|subst ad9|(injection ad9 with f1_ f2_ f3_;have f4_:=f1_.symm;have f5_:=f3_.symm;clear f1_ f2_ f3_;subst f4_;subst f5_))
                 have RN:0<=((pO):Int):=of_decide_eq_true (by first|(with_reducible assumption)|assumption)
                 have RD:(pO)<(kJ.length:Int):=of_decide_eq_true (by first|(with_reducible assumption)|assumption)
                 obtain⟨aeN,akm,vU⟩:=Kd.dz (Kd.iQ kX.out).2.2 (pO) RN RD
                 cases akm
                 replace RN:=eq_true RN
                 replace RD:=eq_true RD
                 have RL:0<=(df:Int):=of_decide_eq_true (by first|(with_reducible assumption)|assumption)
                 have RA:df<(kJ.length:Int):=of_decide_eq_true (by first|(with_reducible assumption)|assumption)
                 obtain⟨aeM,akl,vT⟩:=Kd.dz (Kd.iQ kX.out).2.2 df RL RA
                 obtain rfl:aeN=aeM:=(by injection akl)
                 replace RL:=eq_true RL
                 replace RA:=eq_true RA
                 have U3:0<=(df:Int):=of_decide_eq_true (by first|(with_reducible assumption)|assumption)
                 have Zg:(df:Int)<((kJ.length:Int):Int):=of_decide_eq_true (by first|(with_reducible assumption)|assumption)
                 obtain⟨ad2,aqP,aea,ad4,akd,aqR,afl⟩:=Kd.Bq kX.out (by omega)
                 (first|cases aea|(injection aea with WQ en_ ec_;(first|subst WQ|(injection WQ with WQ;subst WQ));subst ec_;clear en_))
                 have afD:=aa.mk ad4
                 have alL:=aa.mk afl
                 clear ad4 akd afl
                 (first|simp only[add_plain] at vU|skip)
                 (first|simp only[add_plain] at vT|skip)
                 obtain⟨M0,aad⟩:=Kd.iR 0 kX.out (df:Int) U3 Zg
                 replace U3:=eq_true U3
                 replace Zg:=eq_true Zg
                 have abp:=Kd.rX kX.out (df:Int) (rd kJ (pO))
                 rw[<- aeV.out] at abp
                 have abm:=aa.mk abp
                 clear abp
                 have Zm:0<=((pO):Int):=of_decide_eq_true (by first|(with_reducible assumption)|assumption)
                 have Zf:((pO):Int)<((kJ.length:Int):Int):=of_decide_eq_true (by first|(with_reducible assumption)|assumption)
                 obtain⟨MZ,aab⟩:=Kd.iR 0 abm.out ((pO):Int) Zm Zf
                 replace Zm:=eq_true Zm
                 replace Zf:=eq_true Zf
                 have abo:=Kd.rX abm.out ((pO):Int) (rd kJ df)
                 rw[<- aeU.out] at abo
                 have ae6:=aa.mk abo
                 clear abo
                 refine gz (n:=16) (S:=fun w'=>w'.cell? ⟨ad2,((pO)).toNat,none⟩=some (.int .i64 (rd kJ (pO)))/\w'.cell? ⟨ad2,(df).toNat,none⟩=some (.int .i64 (rd kJ df))) (ds:=[13,15]) #[O,O,O,O,O,O,O,O,O,O,O,O,O,O,O,O] (by kernel_rfl) rfl rfl ⟨vU,vT⟩ (fun hHeld=>?_);refine bK ay.Je ay.yS (fun aC bW=>?_)
                 generalize wr.drew=w21 at kX HB alL abm ae6 aad aab vU vT M0 MZ hHeld ⊢
                 refine bI 0 41 #[I,O,O,O,O,O,O,O,O,O,O,O,O,O,O,O] aC (h:=?_)
                 refine bI 1 42 #[I,I,O,O,O,O,O,O,O,O,O,O,O,O,O,O] aC (h:=?_)
                 refine bI 2 43 #[I,I,I,O,O,O,O,O,O,O,O,O,O,O,O,O] aC (h:=?_)
                 refine bI 3 44 #[I,I,I,I,O,O,O,O,O,O,O,O,O,O,O,O] aC (h:=?_)
                 refine bI 4 45 #[I,I,I,I,I,O,O,O,O,O,O,O,O,O,O,O] aC (h:=?_)
                 refine bI 5 46 #[I,I,I,I,I,I,O,O,O,O,O,O,O,O,O,O] aC (h:=?_)
                 refine bI 6 47 #[I,I,I,I,I,I,I,O,O,O,O,O,O,O,O,O] aC (h:=?_)
                 refine bI 8 49 #[I,I,I,I,I,I,I,O,I,O,O,O,O,O,O,O] aC (h:=?_)
                 refine bI 9 50 #[I,I,I,I,I,I,I,O,I,I,O,O,O,O,O,O] aC (h:=?_)
                 refine bI 10 51 #[I,I,I,I,I,I,I,O,I,I,I,O,O,O,O,O] aC (h:=?_)
                 refine eP 7 48 #[I,I,I,I,I,I,I,I,I,I,I,O,O,O,O,O] aC bW hHeld (hy:=by(rintro w' ⟨s0,s1⟩;go_simp;with_reducible rfl)) (h:=?_)
                 refine eP 11 52 #[I,I,I,I,I,I,I,I,I,I,I,I,O,O,O,O] aC bW hHeld (hy:=by(rintro w' ⟨s0,s1⟩;go_simp;with_reducible rfl)) (h:=?_)
                 refine bI 12 53 #[I,I,I,I,I,I,I,I,I,I,I,I,I,O,O,O] aC (h:=?_)
                 refine dW (i:=13) (N:=none) #[I,I,I,I,I,I,I,I,I,I,I,I,I,I,O,O] rfl rfl (aN aC.out (by kernel_rfl)) (by decide) (fun K hK=>?_)
                 refine ib (w1:=?_) (by rfl) rfl ?_ ?_
                 rotate_left
                 .go_simp
                  rfl
                 refine hK.out _ _ ?_
                 clear hK K
                 refine bI 14 54 #[I,I,I,I,I,I,I,I,I,I,I,I,I,I,I,O] aC (h:=?_)
                 refine dW (i:=15) (N:=none) #[I,I,I,I,I,I,I,I,I,I,I,I,I,I,I,I] rfl rfl (aN aC.out (by kernel_rfl)) (by decide) (fun K hK=>?_)
                 refine ib (w1:=?_) (by rfl) rfl ?_ ?_
                 rotate_left
                 .go_simp
                  rfl
                 refine hK.out _ _ ?_
                 clear hK K
                 refine fF (bQ aC.out (by kernel_rfl)) ?_
                 try go_wp2
                 go_roundg k2
                 case measure=>have:=qU.out;have:=UD.out;omega
                 case rel=>exact⟨(acn),(wrap64 (df-1)),(by first|rfl|(simp;done)|(simp[*];done)),H',⟨by have:=qU.out;have:=UD.out;omega⟩,⟨by(with_reducible repeat(first|apply Kd.dA|apply Kd.gM|apply Kd.fE));exact ae6.out⟩,⟨by repeat(first|(with_reducible first|exact HB.out|apply ae|apply ah|apply au|refine aH ?_ afD.out|refine aH ?_ afD.out)|exact HB.out)⟩⟩
                .rw[if_neg c18] at H
                 exact absurd H (by simp)
               .rw[if_neg c17] at H
                exact absurd H (by simp)
              .rw[if_neg c16] at H
               exact absurd H (by simp)
             .rw[if_neg c15] at H
              exact absurd H (by simp)
           .rw[if_neg c12] at H
            exact absurd H (by simp)
          .rw[if_neg c11] at H
           exact absurd H (by simp)
        .rw[if_neg c8] at H
         have Td:decide (0<(l1.length:Int))=false:=decide_eq_false c8
         have aaS:decide (0<l1.length)=false:=decide_eq_false (by omega)
         clear c8
         have H':=aa.mk H
         clear H
         go_wp2
         go_meet
         case rel=>exact⟨_,(kJ),H',⟨by have:=qU.out;have:=UD.out;first|omega|exact Nat.le_refl _⟩,⟨by(with_reducible repeat(first|apply Kd.dA|apply Kd.gM|apply Kd.fE));exact kX.out⟩,⟨by repeat(first|(with_reducible first|exact HB.out|apply ae|apply ah|apply au)|exact HB.out)⟩⟩
       .rw[if_neg c7] at H
        have rT:decide (0<df)=false:=decide_eq_false c7
        clear c7
        (first|rw[rT]|(simp only[dL,ed];rw[rT])|skip)
        have H':=aa.mk H
        clear H
        go_wp2
        go_meet
        case rel=>exact⟨_,(kJ),H',⟨by have:=qU.out;have:=UD.out;first|omega|exact Nat.le_refl _⟩,⟨by(with_reducible repeat(first|apply Kd.dA|apply Kd.gM|apply Kd.fE));exact kX.out⟩,⟨by repeat(first|(with_reducible first|exact HB.out|apply ae|apply ah|apply au)|exact HB.out)⟩⟩
    case rest=>
     clear KZ
     (try clear c1);(try clear p1);(try clear q1);(try clear hx1);(try clear p2);(try clear q2);(try clear hx2);(try clear hf2);(try clear c3);(try clear qN);(try clear c4);(try clear p6)
     (try clear c7);(try clear rT);(try clear c8);(try clear Td);(try clear aaS);(try clear c9);(try clear aaR);(try clear ael);(try clear aek);(try clear c11);(try clear pg);(try clear c12)
     (try clear Ti);(try clear c13);(try clear OM);(try clear Yq);(try clear c15);(try clear Yp);(try clear c16);(try clear Yo);(try clear p16);(try clear q16);(try clear hx16);(try clear c17)
     (try clear Yn);(try clear c18);(try clear Bf);(try clear U3);(try clear Zg);(try clear ai0);(try clear ajI);(try clear Zm);(try clear Zf);(try clear aiZ);(try clear ajH);(try clear vV)
     (try clear vU);(try clear vT);(try clear M0);(try clear MZ);(try clear RO);(try clear RN);(try clear RL);(try clear U3);(try clear p2);(try clear Zm);(try clear p6);(try clear RG)
     (try clear RD);(try clear RA);(try clear Zg);(try clear Zf)
     obtain⟨kq,pG,HA,HJ5,kX,HB⟩:=hcut
     cases kq with
     |zero=>exact absurd HA.out (by simp[ay.j2])
     |succ kj5=>
      have H:=HA.out
      clear HA
      simp only[ay.j2] at H
      by_cases OL:0<=a0
      .rw[if_pos OL] at H
       have aez:=eq_true OL
       have aey:decide (0<=a0)=true:=decide_eq_true OL
       clear OL
       by_cases c26:(a0:Int).toNat<=35184372088832
       .rw[if_pos c26] at H
        have aex:=eq_true c26
        have aew:decide ((a0:Int).toNat<=35184372088832)=true:=decide_eq_true c26
        clear c26
        obtain⟨acm,J9⟩:∃y_:List Int,y_=(List.replicate (a0:Int).toNat 0):=⟨_,rfl⟩
        replace H:(ay.l2 kj5 a0 pG acm 0)=some (r1,r2):=by first|(rw[J9];with_reducible exact H)|(have Bw:=(Option.bind_some _ _).symm.trans H;rw[J9];with_reducible exact Bw)|(have Bw:=(Option.bind_some _ _).symm.trans H;with_reducible exact Bw)|with_reducible exact H|(rw[J9];exact H)|exact H
        have Yz:=aa.mk J9
        clear J9
        have H':=aa.mk H
        clear H
        go_wp2_with (first|((with_reducible refine bY (N:=56) rfl ?_);(try(refine eQ (by rfl) ?_;dsimp only));refine Kd.ND (Kd.int .i64) _ 3 rfl (N:=56) rfl 22 _ _ rfl a0 rfl rfl Tryz.underlying22 (.int .i64 0) 8 info3 rfl (by decide) (by omega) 0 (ok:=fun _=>True) (okp:=fun _=>True) rfl (fun _ hk=>hk) trivial (of_decide_eq_true (by first|(with_reducible assumption)|assumption)) (Nat.le_trans (Nat.mul_le_mul_right _ (of_decide_eq_true (by first|(with_reducible assumption)|assumption):a0.toNat<=35184372088832)) (by omega)) (Below.refl _ _) (Nat.le_refl _) ?_;intro v167 w27 Qc hb QX ac3;clear QX ac3;(first|rw[<- Yz.out] at Qc|(simp only[Int.reduceToNat] at Qc;rw[<- Yz.out] at Qc));have iF:=aa.mk (Kd.TQ (by(with_reducible repeat(first|apply Kd.dA|apply Kd.gM|apply Kd.fE));exact kX.out) (Kd.abc Qc) hb);have iE:=aa.mk (Kd.jD (Kd.aa8 Qc (Kd.akz (by(with_reducible repeat(first|apply Kd.dA|apply Kd.gM|apply Kd.fE));exact kX.out))) (aT (by repeat(first|(with_reducible first|exact HB.out|apply ae|apply ah|apply au)|exact HB.out))));have jg:=aa.mk (bT (by repeat(first|(with_reducible first|exact HB.out|apply ae|apply ah|apply au)|exact HB.out)) hb);clear kX;clear HB;have kX:=iF;have ae8:=iE;have HB:=jg;clear iF iE jg;clear hb Qc))
        go_loopg [9] kj5 (fun kq v9 w'=>∃(Cc:List Int) (lU:Int),v9= .int .i64 lU/\aa (ay.l2 kq a0 pG Cc lU=some (r1,r2))/\aa (kq<=kj5)/\aa (Kd.R (Kd.int .i64) 3 w' w.heap.size (fun k_=>some k_≠(v167:Value).ownBlock) u4 pG)/\aa (Kd.R (Kd.int .i64) 3 w' w.heap.size (fun k_=>some k_≠(u4:Value).ownBlock) v167 Cc)/\aa (Below w.heap.size w w'))
        case atStart=>exact⟨(acm),(0),(by first|rfl|(simp;done)|(simp[*];done)),H',⟨Nat.le_refl _⟩,⟨by(with_reducible repeat(first|apply Kd.dA|apply Kd.gM|apply Kd.fE));exact Kd.cK kX.out (fun _ hk=>hk.2)⟩,⟨by(with_reducible repeat(first|apply Kd.dA|apply Kd.gM|apply Kd.fE));exact Kd.cK ae8.out (fun _ hk=>hk.2)⟩,⟨by repeat(first|(with_reducible first|exact HB.out|apply ae|apply ah|apply au)|exact HB.out)⟩⟩
        case round=>
         clear H'
         (try clear c1);(try clear p1);(try clear q1);(try clear hx1);(try clear c2);(try clear p2);(try clear q2);(try clear hx2);(try clear hf2);(try clear c3);(try clear qN);(try clear c4)
         (try clear p6);(try clear c7);(try clear rT);(try clear c8);(try clear Td);(try clear aaS);(try clear c9);(try clear aaR);(try clear ael);(try clear aek);(try clear c11);(try clear pg)
         (try clear c12);(try clear Ti);(try clear c13);(try clear OM);(try clear Yq);(try clear c15);(try clear Yp);(try clear c16);(try clear Yo);(try clear p16);(try clear q16);(try clear hx16)
         (try clear c17);(try clear Yn);(try clear c18);(try clear Bf);(try clear U3);(try clear Zg);(try clear ai0);(try clear ajI);(try clear Zm);(try clear Zf);(try clear aiZ);(try clear ajH)
         (try clear OL);(try clear aez);(try clear aey);(try clear c26);(try clear aex);(try clear aew);(try clear vV);(try clear vU);(try clear vT);(try clear M0);(try clear MZ);(try clear p1)
         (try clear p16);(try clear RO);(try clear RN);(try clear RL);(try clear U3);(try clear p2);(try clear Zm);(try clear p6);(try clear q1);(try clear q16);(try clear RG);(try clear RD)
         (try clear RA);(try clear Zg);(try clear q2);(try clear Zf)
         obtain⟨Cc,lU,rfl,HA,QL,kX,NL,HB⟩:=hrel
         cases gk with
         |zero=>exact absurd HA.out (by simp[ay.l2])
         |succ k3=>
          have H:=HA.out
          clear HA
          simp only[ay.l2] at H
          by_cases c29:lU<a0
          .rw[if_pos c29] at H
           have aev:decide (lU<a0)=true:=decide_eq_true c29
           clear c29
           by_cases c30:0<=lU
           .rw[if_pos c30] at H
            have anD:decide (0<=lU)=true:=decide_eq_true c30
            clear c30
            by_cases c31:lU<(pG.length:Int)
            .rw[if_pos c31] at H
             have anC:decide (lU<(pG.length:Int))=true:=decide_eq_true c31
             clear c31
             by_cases c32:0<=(rd pG lU)
             .rw[if_pos c32] at H
              have anB:decide (0<=(rd pG lU))=true:=decide_eq_true c32
              clear c32
              by_cases c33:(rd pG lU)<(Cc.length:Int)
              .rw[if_pos c33] at H
               have anA:decide ((rd pG lU)<(Cc.length:Int))=true:=decide_eq_true c33
               clear c33
               obtain⟨Y5,J8⟩:∃y_:List Int,y_=(Cc.set ((rd pG lU):Int).toNat lU):=⟨_,rfl⟩
               replace H:(ay.l2 k3 a0 pG Y5 (wrap64 (lU+1)))=some (r1,r2):=by first|(rw[J8];with_reducible exact H)|(have Bw:=(Option.bind_some _ _).symm.trans H;rw[J8];with_reducible exact Bw)|(have Bw:=(Option.bind_some _ _).symm.trans H;with_reducible exact Bw)|with_reducible exact H|(rw[J8];exact H)|exact H
               have aeT:=aa.mk J8
               clear J8
               have H':=aa.mk H
               clear H
               obtain⟨arY,akr,akh⟩:=Kd.pq kX.out
               subst akh
               have Zo:0<=(lU:Int):=of_decide_eq_true (by first|(with_reducible assumption)|assumption)
               have Zi:lU<(pG.length:Int):=of_decide_eq_true (by first|(with_reducible assumption)|assumption)
               obtain⟨aeL,e169,age⟩:=Kd.dz (Kd.iQ kX.out).2.2 lU Zo Zi
               cases e169
               replace Zo:=eq_true Zo
               replace Zi:=eq_true Zi
               have p34:0<=((rd pG lU):Int):=of_decide_eq_true (by first|(with_reducible assumption)|assumption)
               have q34:((rd pG lU):Int)<((Cc.length:Int):Int):=of_decide_eq_true (by first|(with_reducible assumption)|assumption)
               obtain⟨Sw,aaM,ad8,ad3,akc,aqQ,afk⟩:=Kd.Bq NL.out (by omega)
               (first|cases ad8|(injection ad8 with WQ en_ ec_;(first|subst WQ|(injection WQ with WQ;subst WQ));subst ec_;clear en_))
               have alM:=aa.mk ad3
               have arK:=aa.mk afk
               clear ad3 akc afk
               obtain⟨aiY,ajG⟩:=Kd.iR 0 NL.out ((rd pG lU):Int) p34 q34
               replace p34:=eq_true p34
               replace q34:=eq_true q34
               have abn:=Kd.aa7 NL.out ((rd pG lU):Int) lU
               go_wp2_with (first|((with_reducible refine M6 (t:=3) (p:=68) rfl ?_);refine Ji (t:=3) (p:=68) (v:=?aiC) (w1:=(wr.setCell ⟨Sw,((rd pG lU):Int).toNat,none⟩ (.int .i64 lU))) ?hg ?ho ?hn ?hr ?_;(case ho=>rfl);(case hg=>rfl);(case hn=>rfl);(case hr=>first|(go_simp;done)|(go_simp;rfl));intro w37 hw;have hg:wr.grownBy w37 (some Sw):=(by rw[hw];exact abn.2);have hp_:Kd.R (Kd.int .i64) 3 w37 w.heap.size (fun k_=>some k_≠(.slice (some aeL) pG.length akr:Value).ownBlock) (.slice (some ⟨Sw,0,none⟩) Cc.length aaM) Y5:=(by rw[hw,aeT.out];exact abn.1);clear abn;have iF:=aa.mk (Kd.Xj (v:=(.slice (some ⟨Sw,0,none⟩) Cc.length aaM)) (v1:=(.slice (some ⟨Sw,0,none⟩) Cc.length aaM)) (ok:=(fun _=>True)) (by(with_reducible repeat(first|apply Kd.dA|apply Kd.gM|apply Kd.fE));exact Kd.cK kX.out (fun _ hk=>⟨trivial,hk⟩)) hg (.inl rfl));have iE:=aa.mk (hp_);have jg:=aa.mk ((by rw[hw];exact aH (HB.out) alM.out:Below w.heap.size w w37));clear kX;clear NL;clear HB;have kX:=iF;have NL:=iE;have HB:=jg;clear iF iE jg;clear hg hw hp_))
               go_roundg k3
               case measure=>have:=qU.out;have:=HJ5.out;have:=QL.out;omega
               case rel=>exact⟨(Y5),(wrap64 (lU+1)),(by first|rfl|(simp;done)|(simp[*];done)),H',⟨by have:=qU.out;have:=HJ5.out;have:=QL.out;omega⟩,⟨by(with_reducible repeat(first|apply Kd.dA|apply Kd.gM|apply Kd.fE));exact Kd.cK kX.out (fun _ hk=>hk.2)⟩,⟨by(with_reducible repeat(first|apply Kd.dA|apply Kd.gM|apply Kd.fE));exact NL.out⟩,⟨by repeat(first|(with_reducible first|exact HB.out|apply ae|apply ah|apply au)|exact HB.out)⟩⟩
              .rw[if_neg c33] at H
               exact absurd H (by simp)
             .rw[if_neg c32] at H
              exact absurd H (by simp)
            .rw[if_neg c31] at H
             exact absurd H (by simp)
           .rw[if_neg c30] at H
            exact absurd H (by simp)
          .rw[if_neg c29] at H
           have aev:decide (lU<a0)=false:=decide_eq_false c29
           clear c29
           simp only[Option.some.injEq,Prod.mk.injEq] at H
           obtain⟨rfl,rfl⟩:=H
           go_wp2
           go_ret2
           exact⟨_,_,by first|rfl|(simp[aW,aV]<;>rfl)|(simp[*,aW,aV]<;>rfl),by(with_reducible repeat(first|apply Kd.dA|apply Kd.gM|apply Kd.fE));exact kX.out,by(with_reducible repeat(first|apply Kd.dA|apply Kd.gM|apply Kd.fE));exact NL.out,by repeat(first|(with_reducible first|exact HB.out|apply ae|apply ah|apply au)|exact HB.out)⟩
       .rw[if_neg c26] at H
        exact absurd H (by simp)
      .rw[if_neg OL] at H
       exact absurd H (by simp)
def fM.f(l0:List Int)(a1:Int):Option (Bool):=if(l0.length:Int)>0 then(if(l0.length:Int)=0 then(none) else(if 0<=(Int.tmod a1 (l0.length:Int)) then(if(Int.tmod a1 (l0.length:Int))<(l0.length:Int) then(some ((Int.tmod ((rd l0 (Int.tmod a1 (l0.length:Int)))/256) 2)==1)) else(none)) else(none))) else(some false)
set_option maxHeartbeats 8000000 in
set_option maxRecDepth 100000 in
theorem fM.calls(A0:Option Addr)(c0:Nat)(l0:List Int)(a1:Int)(r:Bool)(w:World)(hr0:Kd.C (Kd.int .u16) w A0 l0.length l0)(hc0:l0.length<=c0)(h:fM.f l0 a1=some r):
  Calls Tryz.prog 9 #[.slice A0 l0.length c0,.int .i64 a1] w fun e w'=>e= .returned (.bool r)/\aU w w':=by
 have I4:=aa.mk hr0
 have Xv:=aa.mk hc0
 clear hr0 hc0
 have H:(if(l0.length:Int)>0 then(if(l0.length:Int)=0 then(none) else(if 0<=(Int.tmod a1 (l0.length:Int)) then(if(Int.tmod a1 (l0.length:Int))<(l0.length:Int) then(some ((Int.tmod ((rd l0 (Int.tmod a1 (l0.length:Int)))/256) 2)==1)) else(none)) else(none))) else(some false))=some r:=h
 clear h
 by_cases c3:(l0.length:Int)>0
 .rw[if_pos c3] at H
  have qN:decide (0<(l0.length:Int))=true:=decide_eq_true c3
  have CJ:decide (0<l0.length)=true:=decide_eq_true (by omega)
  clear c3
  by_cases c4:(l0.length:Int)=0
  .rw[if_pos c4] at H
   exact absurd H (by simp)
  .rw[if_neg c4] at H
   have lH:((l0.length:Int)==0)=false:=beq_eq_false_iff_ne.mpr c4
   have KE:((l0.length:Int) !=0)=true:=bne_iff_ne.mpr c4
   have aqS:¬(l0=[]):=fun h_=>c4 (by rw[h_];rfl)
   obtain⟨Uy,ZX⟩:∃j_:Int,(Int.tmod a1 (l0.length:Int))=j_:=⟨_,rfl⟩
   replace H:(if 0<=(Uy) then(if(Uy)<(l0.length:Int) then(some ((Int.tmod ((rd l0 (Uy))/256) 2)==1)) else(none)) else(none))=some r:=by first|(rw[ZX] at H;exact H)|(simp only[ZX] at H ⊢;exact H)
   by_cases c6:0<=(Uy)
   .rw[if_pos c6] at H
    have Be:decide (0<=(Uy))=true:=decide_eq_true c6
    clear c6
    by_cases c7:(Uy)<(l0.length:Int)
    .rw[if_pos c7] at H
     have rT:decide ((Uy)<(l0.length:Int))=true:=decide_eq_true c7
     clear c7
     obtain rfl:=Option.some.inj H
     have Zn:0<=((Uy):Int):=of_decide_eq_true (by first|(with_reducible assumption)|assumption)
     have Zh:(Uy)<(l0.length:Int):=of_decide_eq_true (by first|(with_reducible assumption)|assumption)
     obtain⟨anL,akk,agd⟩:=Kd.dz I4.out (Uy) Zn Zh
     cases akk
     replace Zn:=eq_true Zn
     replace Zh:=eq_true Zh
     go_enter Tryz.func9,Tryz.ntmps9
     go_wp2
     go_ret
     exact⟨by first|rfl|(simp;done)|(simp only[<- ZX]<;>(first|rfl|simp))|(simp[*];done),by repeat(first|exact aU.refl _|apply aU.step)⟩
    .rw[if_neg c7] at H
     exact absurd H (by simp)
   .rw[if_neg c6] at H
    exact absurd H (by simp)
 .rw[if_neg c3] at H
  have qN:decide (0<(l0.length:Int))=false:=decide_eq_false c3
  have CJ:decide (0<l0.length)=false:=decide_eq_false (by omega)
  clear c3
  obtain rfl:=Option.some.inj H
  go_enter Tryz.func9,Tryz.ntmps9
  go_wp2
  go_ret
  exact⟨by first|rfl|(simp;done)|(simp[*];done),by repeat(first|exact aU.refl _|apply aU.step)⟩
def mX.f(ek:Int)(bz:Int):Option (Int×Int):=some (ek,bz)
set_option maxHeartbeats 8000000 in
set_option maxRecDepth 100000 in
theorem mX.calls(ek:Int)(bz:Int)(r1:Int)(r2:Int)(w:World)(h:mX.f ek bz=some (r1,r2)):
  Calls Tryz.prog 39 #[.agg #[.int .i64 ek,.int .i64 bz]] w fun e w'=>e= .returned (.agg #[.int .i64 r1,.int .i64 r2])/\Below w.heap.size w w':=by
 have apO:=Tryz.underlying28
 have ZJ:=Tryz.underlying52
 have HB:=aa.mk (Below.refl w.heap.size w)
 have H:(some (ek,bz))=some (r1,r2):=h
 clear h
 simp only[Option.some.injEq,Prod.mk.injEq] at H
 obtain⟨rfl,rfl⟩:=H
 go_enter Tryz.func39,Tryz.ntmps39
 go_wp2_with (first|((with_reducible refine bY (N:=1) rfl ?_);refine cZ ?hg (N:=1) ?hd (cs:=#[.int .i64 ek,.int .i64 bz]) (t:=28) ?hr ?_;(case hd=>rfl);(case hg=>rfl);(case hr=>first|(go_simp;done)|(go_simp;rfl));intro wZ hg w2 dM hb;have iF:=aa.mk (bT (by repeat(first|(with_reducible first|exact HB.out|apply ae|apply ah|apply au)|exact HB.out)) hb);have iE:=aa.mk (dM);have jg:=aa.mk ((by rw[hg];exact(aT (by repeat(first|(with_reducible first|exact HB.out|apply ae|apply ah|apply au)|exact HB.out))):w.heap.size<=wZ));have jH:=aa.mk ((by rw[hg];exact(aT (by repeat(first|(with_reducible first|exact HB.out|apply ae|apply ah|apply au)|exact HB.out))):w.heap.size<=wZ));clear HB;have HB:=iF;have xI:=iE;have aoS:=jg;have O0:=jH;clear iF iE jg jH;clear hb dM hg)|((with_reducible refine bY (N:=2) rfl ?_);refine cZ ?hg (N:=2) ?hd (cs:=#[.int .i64 0,.int .i64 0]) (t:=52) ?hr ?_;(case hd=>rfl);(case hg=>rfl);(case hr=>first|(go_simp;done)|(go_simp;rfl));intro AX hg w3 dM hb;have iF:=aa.mk (gZ (g:=wZ) (o:= .cells #[.int .i64 ek,.int .i64 bz] 28 (0,0)) (by(with_reducible repeat(first|refine aX ?_ _|refine bB ?_|refine aQ ?_ _));exact xI.out) hb);have iE:=aa.mk (bT (by repeat(first|(with_reducible first|exact HB.out|apply ae|apply ah|apply au|refine aH ?_ O0.out)|exact HB.out)) hb);have jg:=aa.mk (dM);have jH:=aa.mk ((by rw[hg];exact(aT (by repeat(first|(with_reducible first|exact HB.out|apply ae|apply ah|apply au|refine aH ?_ O0.out)|exact HB.out))):w.heap.size<=AX));have tF:=aa.mk ((by rw[hg];exact(aT (by repeat(first|(with_reducible first|exact HB.out|apply ae|apply ah|apply au|refine aH ?_ O0.out)|exact HB.out))):w.heap.size<=AX));have tC:=aa.mk ((by rw[hg];exact Nat.ne_of_lt (fQ (g:=wZ) (o:= .cells #[.int .i64 ek,.int .i64 bz] 28 (0,0)) (by(with_reducible repeat(first|refine aX ?_ _|refine bB ?_|refine aQ ?_ _));exact xI.out)):wZ≠AX));have tu:=aa.mk ((by rw[hg];exact Nat.ne_of_gt (fQ (g:=wZ) (o:= .cells #[.int .i64 ek,.int .i64 bz] 28 (0,0)) (by(with_reducible repeat(first|refine aX ?_ _|refine bB ?_|refine aQ ?_ _));exact xI.out)):AX≠wZ));clear xI;clear HB;have xI:=iF;have HB:=iE;have La:=jg;have aoR:=jH;have afC:=tF;have QG:=tC;have QF:=tu;clear iF iE jg jH tF tC tu;clear hb dM hg;have apZ:=QG.out;have apY:=QF.out;have qJ:w3.cell? ⟨wZ,0,none⟩=some (.int .i64 ek):=(ak xI.out 0).trans rfl;have qI:w3.cell? ⟨wZ,1,none⟩=some (.int .i64 bz):=(ak xI.out 1).trans rfl;have qF:=ag xI.out 0;have qE:=ag xI.out 1;have aai:w3.cell? ⟨AX,0,none⟩=some (.int .i64 0):=(ak La.out 0).trans rfl;have aah:w3.cell? ⟨AX,1,none⟩=some (.int .i64 0):=(ak La.out 1).trans rfl;have Z6:=ag La.out 0;have Z5:=ag La.out 1))
 refine bodyPost_ret (results_cell_row rfl _ _ AX 52 #[.int .i64 ek,.int .i64 bz] (0,0) _ rfl (by(with_reducible repeat(first|refine aX ?_ _|refine bB ?_|refine aQ ?_ _));refine OO (cs:=#[.int .i64 ek,.int .i64 0]) ?_ 1 _ rfl;(with_reducible repeat(first|refine aX ?_ _|refine bB ?_|refine aQ ?_ _));refine OO (cs:=#[.int .i64 0,.int .i64 0]) ?_ 0 _ rfl;(with_reducible repeat(first|refine aX ?_ _|refine bB ?_|refine aQ ?_ _));exact La.out) Tryz.underlying52 rfl (by kernel_rfl)) rfl ?_
 exact⟨by first|rfl|(simp[aW,aV]<;>rfl)|(simp[*,aW,aV]<;>rfl),by repeat(first|(with_reducible first|exact HB.out|apply ae|apply ah|apply au|refine aH ?_ O0.out|refine aH ?_ afC.out)|exact HB.out)⟩
end Go.Proofs.YtkjoilgpmngndaaGreat.av
