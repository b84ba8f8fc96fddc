import Derived.Test.YtkjoilgpmngndaaGreatQ3
set_option maxRecDepth 100000
set_option linter.all false
namespace Go.Proofs.YtkjoilgpmngndaaGreat.au
open Go.RowKit YtkjoilgpmngndaaGreatW.aj YtkjoilgpmngndaaGreatW.aJ YtkjoilgpmngndaaGreatW.ek
attribute [local go_sem] o5 qY rX uN oH oG qZ qX
mutual
def ai.l0:Nat->Int->List Int->List Int->Int->Option (List Int×List Int)
 |0,_,_,_,_=>none
 |k+1,x0,x1,x4,x6=>if x6<x0 then(if x4.length<17592186044416 then(ai.l0 k x0 x1 (x4++[x6]) (wrap64 (x6+1))) else(none)) else(ai.l1 k x0 x1 x4 (wrap64 (x0-1)))
def ai.j2:Nat->Int->List Int->Option (List Int×List Int)
 |0,_,_=>none
 |k+1,x0,x4=>if 0<=x0 then(if(x0:Int).toNat<=35184372088832 then(ai.l2 k x0 x4 (List.replicate (x0:Int).toNat 0) 0) else(none)) else(none)
def ai.l2:Nat->Int->List Int->List Int->Int->Option (List Int×List Int)
 |0,_,_,_,_=>none
 |k+1,x0,x4,x5,x9=>if x9<x0 then(if 0<=x9 then(if x9<(x4.length:Int) then(if 0<=(rd x4 x9) then(if(rd x4 x9)<(x5.length:Int) then(ai.l2 k x0 x4 (x5.set ((rd x4 x9):Int).toNat x9) (wrap64 (x9+1))) else(none)) else(none)) else(none)) else(none)) else(some (x4,x5))
def ai.l1:Nat->Int->List Int->List Int->Int->Option (List Int×List Int)
 |0,_,_,_,_=>none
 |k+1,x0,x1,x4,x7=>if x7>0 then(if(x1.length:Int)>0 then(if(x1.length:Int)=0 then(none) else(if 0<=(Int.tmod x7 (x1.length:Int)) then(if(Int.tmod x7 (x1.length:Int))<(x1.length:Int) then(if(wrap64 (x7+1))=0 then(none) else(if 0<=(Int.tmod (wrap64 (rd x1 (Int.tmod x7 (x1.length:Int)))) (wrap64 (x7+1))) then(if(Int.tmod (wrap64 (rd x1 (Int.tmod x7 (x1.length:Int)))) (wrap64 (x7+1)))<(x4.length:Int) then(if 0<=x7 then(if x7<(x4.length:Int) then(ai.l1 k x0 x1 ((x4.set (x7:Int).toNat (rd x4 (Int.tmod (wrap64 (rd x1 (Int.tmod x7 (x1.length:Int)))) (wrap64 (x7+1))))).set ((Int.tmod (wrap64 (rd x1 (Int.tmod x7 (x1.length:Int)))) (wrap64 (x7+1))):Int).toNat (rd x4 x7)) (wrap64 (x7-1))) else(none)) else(none)) else(none)) else(none))) else(none)) else(none))) else(ai.j2 k x0 x4)) else(ai.j2 k x0 x4)
end
def ai.f(k:Nat)(a0:Int)(l1:List Int):Option (List Int×List Int):=ai.l0 k a0 l1 ([]:List Int) 0
def ai.T9:Bool×List (List Nat×List Nat):=(true,[([],[]),([],[]),([],[]),([],[]),([],[]),([],[]),([4,5],[4,5]),([6],[6]),([],[]),([],[]),([8,9],[8,9]),([10],[10]),([0,1,0,1,4,5,6,7,11],[0,1]),([12,7,0,1,4,5,6,7,11],[7,12]),([2,3,0,1,2,3,4,5,6,7,8,9,10,11,12,13],[2,3]),([14,11,13,0,1,2,3,4,5,6,7,8,9,10,11,12,13],[11,14])])
def ai.B9:List Nat:=[0,0,0,0,0,0,48,112,0,0,768,1792,4083,8179,16383,32767]
theorem ai.Dk:dW .any (opsOf Tryz.f8 9)=ai.T9:=by kernel_rfl
theorem ai.vO:bJ ai.T9.2 ai.B9=true:=by kernel_rfl
set_option maxHeartbeats 8000000 in
theorem ai.calls(k:Nat)(a0:Int)(A1:Option Addr)(c1:Nat)(l1:List Int)(r1:List Int)(r2:List Int)(w:World)(hr1:Kd.C (Kd.int .u16) w A1 l1.length l1)(hc1:l1.length<=c1)(h:ai.f k a0 l1=some (r1,r2)):
  Calls Tryz.prog 8 #[.int .i64 a0,.slice A1 l1.length c1] w λe w'=>∃TN Tq:Value,e= .returned (.tuple #[TN,Tq])/\Kd.R (Kd.int .i64) 3 w' w.heap.size (λk_=>some k_≠(Tq:Value).ownBlock) TN r1/\Kd.R (Kd.int .i64) 3 w' w.heap.size (λk_=>some k_≠(TN:Value).ownBlock) Tq r2/\Below w.heap.size w w':=by
 have HR1:=aa.mk hr1
 have PK:=aa.mk hc1
 clear hr1 hc1
 have HB:=aa.mk (Below.refl w.heap.size w)
 have H:(ai.l0 k a0 l1 ([]:List Int) 0)=some (r1,r2):=h
 clear h
 have H':=aa.mk H
 clear H
 go_enter Tryz.func8,Tryz.ntmps8
 go_wp2
 go_loopg [4,6] k (λkq v4 v6 w'=>∃(iv:List Int) (AJ:Int),v6= .int .i64 AJ/\aa (ai.l0 kq a0 l1 iv AJ=some (r1,r2))/\aa (kq<=k)/\aa (Kd.R (Kd.int .i64) 3 w' w.heap.size (λ_=>True) v4 iv)/\aa (Below w.heap.size w w'))
 case atStart=>exact⟨(([]:List Int)),(0),(by first|rfl|(simp;done)|(simp[*];done)),H',⟨Nat.le_refl _⟩,⟨by first|exact Kd.iK _ _ _ _ _|exact Kd.Np _ _ _ _ _|exact Kd.Na _ _ _ _ _|exact Kd.Nl _ _ _ _ _|exact Kd.Nf _ _ _ _ _⟩,⟨by repeat(first|(with_reducible first|exact HB.out|apply ae|apply ag|apply ah)|exact HB.out)⟩⟩
 case round=>
  clear H'
  (try clear c1);(try clear p2)
  obtain⟨iv,AJ,rfl,HA,qN,lZ,HB⟩:=hrel
  cases gk with
  |zero=>exact absurd HA.out (by simp[ai.l0])
  |succ k1=>
   have H:=HA.out
   clear HA
   simp only[ai.l0] at H
   by_cases c3:AJ<a0
   .rw[if_pos c3] at H
    have qG:decide (AJ<a0)=true:=decide_eq_true c3
    clear c3
    by_cases c4:iv.length<17592186044416
    .rw[if_pos c4] at H
     have aiW:=aa.mk c4
     clear c4
     obtain⟨aaS,Ib⟩:∃y_:List Int,y_=(iv++[AJ]):=⟨_,rfl⟩
     replace H:(ai.l0 k1 a0 l1 aaS (wrap64 (AJ+1)))=some (r1,r2):=by first|(rw[Ib];with_reducible exact H)|(have wP:=(Option.bind_some _ _).symm.trans H;rw[Ib];with_reducible exact wP)|(have wP:=(Option.bind_some _ _).symm.trans H;with_reducible exact wP)|with_reducible exact H|(rw[Ib];exact H)|exact H
     have ady:=aa.mk Ib
     clear Ib
     have H':=aa.mk H
     clear H
     go_wp2_with (first|((with_reducible refine cz (b:= .append) (xs:=#[.tmp 15,.tmp 17]) rfl ?_);(try(refine kF (by rfl) ?_;dsimp only));at_builtin;refine Kd.jk (Kd.int .i64) (w0:=w) w.heap.size rfl (.tmp 15) (.tmp 17) 22 3 (.int .i64 0) 8 rfl Tryz.underlying22 info3 rfl (by decide) (by omega) u4 iv AJ [.int .i64 AJ] (λ_=>True) (λ_=>False) rfl rfl ?aP (λ_ hk=>hk.elim) ?aF ?aO ?aB ?aS ?aL ?_;(case aP=>exact rfl);(case aB=>exact(by repeat(first|(with_reducible first|exact HB.out|apply ae|apply ag|apply ah)|exact HB.out)));(case aF=>exact(λ_ _=>trivial));(case aO=>exact(by(with_reducible repeat(first|apply Kd.bK|apply Kd.dh|apply Kd.cO));exact lZ.out));(case aS=>exact(aW (by repeat(first|(with_reducible first|exact HB.out|apply ae|apply ag|apply ah)|exact HB.out))));(case aL=>have:=aiW.out;omega);intro anH w5 ho hb hg hat;rw[<- ady.out] at ho;have fH:=aa.mk (hb);have fU:=aa.mk (ho);clear HB;clear lZ;have HB:=fH;have adL:=fU;clear fH fU;clear ho hb hg hat))
     go_roundg k1
     case measure=>have:=qN.out;omega
     case rel=>exact⟨(aaS),(wrap64 (AJ+1)),(by first|rfl|(simp;done)|(simp[*];done)),H',⟨by have:=qN.out;omega⟩,⟨by(with_reducible repeat(first|apply Kd.bK|apply Kd.dh|apply Kd.cO));exact adL.out⟩,⟨by repeat(first|(with_reducible first|exact HB.out|apply ae|apply ag|apply ah)|exact HB.out)⟩⟩
    .rw[if_neg c4] at H
     exact absurd H (by simp)
   .rw[if_neg c3] at H
    have qG:decide (AJ<a0)=false:=decide_eq_false c3
    clear c3
    have zk:=aa.mk H
    clear H
    go_upto_block 2 with(fail)
    go_cut [] (λwc=>∃(kq:Nat) (qx:List Int),aa (ai.j2 kq a0 qx=some (r1,r2))/\aa (kq<=k1)/\aa (Kd.R (Kd.int .i64) 3 wc w.heap.size (λ_=>True) u4 qx)/\aa (Below w.heap.size w wc))
    case first=>
     have H:=zk.out
     clear zk
     have H':=aa.mk H
     clear H
     go_wp2
     go_loopg [7] k1 (λkq v7 w'=>∃(lJ:List Int) (jc:Int),v7= .int .i64 jc/\aa (ai.l1 kq a0 l1 lJ jc=some (r1,r2))/\aa (kq<=k1)/\aa (Kd.R (Kd.int .i64) 3 w' w.heap.size (λ_=>True) u4 lJ)/\aa (Below w.heap.size w w'))
     case atStart=>exact⟨(iv),(wrap64 (a0-1)),(by first|rfl|(simp;done)|(simp[*];done)),H',⟨Nat.le_refl _⟩,⟨by(with_reducible repeat(first|apply Kd.bK|apply Kd.dh|apply Kd.cO));exact lZ.out⟩,⟨by repeat(first|(with_reducible first|exact HB.out|apply ae|apply ag|apply ah)|exact HB.out)⟩⟩
     case round=>
      clear H'
      (try clear c1);(try clear p2);(try clear c3);(try clear qG);(try clear c4);(try clear p6);(try clear p2)
      obtain⟨lJ,jc,rfl,HA,IJ,lZ,HB⟩:=hrel
      cases gk with
      |zero=>exact absurd HA.out (by simp[ai.l1])
      |succ k2=>
       have H:=HA.out
       clear HA
       simp only[ai.l1] at H
       by_cases c7:jc>0
       .rw[if_pos c7] at H
        have zR:decide (0<jc)=true:=decide_eq_true c7
        clear c7
        (first|rw[zR]|(simp only[dI,dY];rw[zR])|skip)
        by_cases c8:(l1.length:Int)>0
        .rw[if_pos c8] at H
         have Zl:decide (0<(l1.length:Int))=true:=decide_eq_true c8
         have Zk:decide (0<l1.length)=true:=decide_eq_true (by omega)
         clear c8
         by_cases c9:(l1.length:Int)=0
         .rw[if_pos c9] at H
          exact absurd H (by simp)
         .rw[if_neg c9] at H
          have acX:((l1.length:Int)==0)=false:=beq_eq_false_iff_ne.mpr c9
          have acW:((l1.length:Int) !=0)=true:=bne_iff_ne.mpr c9
          have acV:¬(l1=[]):=λh_=>c9 (by rw[h_];rfl)
          obtain⟨xz,Wy⟩:∃j_:Int,(Int.tmod jc (l1.length:Int))=j_:=⟨_,rfl⟩
          replace H:(if 0<=(xz) then(if(xz)<(l1.length:Int) then(if(wrap64 (jc+1))=0 then(none) else(if 0<=(Int.tmod (wrap64 (rd l1 (xz))) (wrap64 (jc+1))) then(if(Int.tmod (wrap64 (rd l1 (xz))) (wrap64 (jc+1)))<(lJ.length:Int) then(if 0<=jc then(if jc<(lJ.length:Int) then(ai.l1 k2 a0 l1 ((lJ.set (jc:Int).toNat (rd lJ (Int.tmod (wrap64 (rd l1 (xz))) (wrap64 (jc+1))))).set ((Int.tmod (wrap64 (rd l1 (xz))) (wrap64 (jc+1))):Int).toNat (rd lJ jc)) (wrap64 (jc-1))) else(none)) else(none)) else(none)) else(none))) else(none)) else(none))=some (r1,r2):=by first|(rw[Wy] at H;exact H)|(simp only[Wy] at H ⊢;exact H)
          by_cases c11:0<=(xz)
          .rw[if_pos c11] at H
           have WX:decide (0<=(xz))=true:=decide_eq_true c11
           clear c11
           by_cases c12:(xz)<(l1.length:Int)
           .rw[if_pos c12] at H
            have WW:decide ((xz)<(l1.length:Int))=true:=decide_eq_true c12
            clear c12
            by_cases c13:(wrap64 (jc+1))=0
            .rw[if_pos c13] at H
             exact absurd H (by simp)
            .rw[if_neg c13] at H
             have WV:((wrap64 (jc+1))==0)=false:=beq_eq_false_iff_ne.mpr c13
             have WU:((wrap64 (jc+1)) !=0)=true:=bne_iff_ne.mpr c13
             obtain⟨qD,Wx⟩:∃j_:Int,(Int.tmod (wrap64 (rd l1 (xz))) (wrap64 (jc+1)))=j_:=⟨_,rfl⟩
             replace H:(if 0<=(qD) then(if(qD)<(lJ.length:Int) then(if 0<=jc then(if jc<(lJ.length:Int) then(ai.l1 k2 a0 l1 ((lJ.set (jc:Int).toNat (rd lJ (qD))).set ((qD):Int).toNat (rd lJ jc)) (wrap64 (jc-1))) else(none)) else(none)) else(none)) else(none))=some (r1,r2):=by first|(rw[Wx] at H;exact H)|(simp only[Wx] at H ⊢;exact H)
             by_cases c15:0<=(qD)
             .rw[if_pos c15] at H
              have WT:decide (0<=(qD))=true:=decide_eq_true c15
              clear c15
              by_cases c16:(qD)<(lJ.length:Int)
              .rw[if_pos c16] at H
               have Ir:decide ((qD)<(lJ.length:Int))=true:=decide_eq_true c16
               clear c16
               by_cases c17:0<=jc
               .rw[if_pos c17] at H
                have M6:decide (0<=jc)=true:=decide_eq_true c17
                clear c17
                by_cases c18:jc<(lJ.length:Int)
                .rw[if_pos c18] at H
                 have M5:decide (jc<(lJ.length:Int))=true:=decide_eq_true c18
                 clear c18
                 obtain⟨aaR,Ia⟩:∃y_:List Int,y_=(lJ.set (jc:Int).toNat (rd lJ (qD))):=⟨_,rfl⟩
                 replace H:(ai.l1 k2 a0 l1 (aaR.set ((qD):Int).toNat (rd lJ jc)) (wrap64 (jc-1)))=some (r1,r2):=by first|(rw[Ia];with_reducible exact H)|(have wP:=(Option.bind_some _ _).symm.trans H;rw[Ia];with_reducible exact wP)|(have wP:=(Option.bind_some _ _).symm.trans H;with_reducible exact wP)|with_reducible exact H|(rw[Ia];exact H)|exact H
                 have adx:=aa.mk Ia
                 clear Ia
                 obtain⟨aaQ,H9⟩:∃y_:List Int,y_=(aaR.set ((qD):Int).toNat (rd lJ jc)):=⟨_,rfl⟩
                 replace H:(ai.l1 k2 a0 l1 aaQ (wrap64 (jc-1)))=some (r1,r2):=by first|(rw[H9];with_reducible exact H)|(have wP:=(Option.bind_some _ _).symm.trans H;rw[H9];with_reducible exact wP)|(have wP:=(Option.bind_some _ _).symm.trans H;with_reducible exact wP)|with_reducible exact H|(rw[H9];exact H)|exact H
                 have adw:=aa.mk H9
                 clear H9
                 have H':=aa.mk H
                 clear H
                 have QD:0<=((xz):Int):=of_decide_eq_true (by first|(with_reducible assumption)|assumption)
                 have Qy:(xz)<(l1.length:Int):=of_decide_eq_true (by first|(with_reducible assumption)|assumption)
                 obtain⟨alX,aiA,xG⟩:=Kd.cK HR1.out (xz) QD Qy
                 cases aiA
                 replace xG:=(HB.out.cell (World.block_lt_of_cell? w _ xG)).trans xG
                 replace QD:=eq_true QD
                 replace Qy:=eq_true Qy
                 try go_wp2
                 have fH:=aa.mk (Kd.cO lZ.out)
                 have fU:=aa.mk (ah HB.out)
                 clear lZ
                 clear HB
                 have lZ:=fH
                 have HB:=fU
                 clear fH fU
                 obtain⟨aqw,ape,acR⟩:=Kd.kP lZ.out
                 (first|subst acR|(injection acR with WO f2_ WN;have f4_:=WO.symm;have f5_:=WN.symm;clear WO f2_ WN;subst f4_;subst f5_))
                 have QC:0<=((qD):Int):=of_decide_eq_true (by first|(with_reducible assumption)|assumption)
                 have Qx:(qD)<(lJ.length:Int):=of_decide_eq_true (by first|(with_reducible assumption)|assumption)
                 obtain⟨adm,aiz,xE⟩:=Kd.cK (Kd.dL lZ.out).2.2 (qD) QC Qx
                 cases aiz
                 replace QC:=eq_true QC
                 replace Qx:=eq_true Qx
                 have QB:0<=(jc:Int):=of_decide_eq_true (by first|(with_reducible assumption)|assumption)
                 have Qw:jc<(lJ.length:Int):=of_decide_eq_true (by first|(with_reducible assumption)|assumption)
                 obtain⟨adl,aiy,xD⟩:=Kd.cK (Kd.dL lZ.out).2.2 jc QB Qw
                 obtain rfl:adm=adl:=(by injection aiy)
                 replace QB:=eq_true QB
                 replace Qw:=eq_true Qw
                 have V8:0<=(jc:Int):=of_decide_eq_true (by first|(with_reducible assumption)|assumption)
                 have V7:(jc:Int)<((lJ.length:Int):Int):=of_decide_eq_true (by first|(with_reducible assumption)|assumption)
                 obtain⟨acH,apf,acS,acJ,ail,aph,ad2⟩:=Kd.zg lZ.out (by omega)
                 (first|cases acS|(injection acS with U3 en_ ec_;(first|subst U3|(injection U3 with U3;subst U3));subst ec_;clear en_))
                 have aer:=aa.mk acJ
                 have ajW:=aa.mk ad2
                 clear acJ ail ad2
                 (first|simp only[add_plain] at xE|skip)
                 (first|simp only[add_plain] at xD|skip)
                 obtain⟨Ki,YL⟩:=Kd.jE 0 lZ.out (jc:Int) V8 V7
                 replace V8:=eq_true V8
                 replace V7:=eq_true V7
                 have ZT:=Kd.uy lZ.out (jc:Int) (rd lJ (qD))
                 rw[<- adx.out] at ZT
                 have ZP:=aa.mk ZT
                 clear ZT
                 have XT:0<=((qD):Int):=of_decide_eq_true (by first|(with_reducible assumption)|assumption)
                 have XJ:((qD):Int)<((lJ.length:Int):Int):=of_decide_eq_true (by first|(with_reducible assumption)|assumption)
                 obtain⟨Kh,YK⟩:=Kd.jE 0 ZP.out ((qD):Int) XT XJ
                 replace XT:=eq_true XT
                 replace XJ:=eq_true XJ
                 have ZR:=Kd.uy ZP.out ((qD):Int) (rd lJ jc)
                 rw[<- adw.out] at ZR
                 have adI:=aa.mk ZR
                 clear ZR
                 refine dB (n:=16) (S:=λw'=>w'.cell? ⟨acH,((qD)).toNat,none⟩=some (.int .i64 (rd lJ (qD)))/\w'.cell? ⟨acH,(jc).toNat,none⟩=some (.int .i64 (rd lJ jc))) (ds:=[13,15]) #[O,O,O,O,O,O,O,O,O,O,O,O,O,O,O,O] (by kernel_rfl) rfl rfl ⟨xE,xD⟩ (λhHeld=>?_);refine bu ai.Dk ai.vO (λak bN=>?_)
                 generalize wr.drew=w21 at lZ HB ajW ZP adI YL YK xE xD Ki Kh hHeld ⊢
                 refine aZ 0 41 #[I,O,O,O,O,O,O,O,O,O,O,O,O,O,O,O] ak (h:=?_)
                 refine aZ 1 42 #[I,I,O,O,O,O,O,O,O,O,O,O,O,O,O,O] ak (h:=?_)
                 refine aZ 2 43 #[I,I,I,O,O,O,O,O,O,O,O,O,O,O,O,O] ak (h:=?_)
                 refine aZ 3 44 #[I,I,I,I,O,O,O,O,O,O,O,O,O,O,O,O] ak (h:=?_)
                 refine aZ 4 45 #[I,I,I,I,I,O,O,O,O,O,O,O,O,O,O,O] ak (h:=?_)
                 refine aZ 5 46 #[I,I,I,I,I,I,O,O,O,O,O,O,O,O,O,O] ak (h:=?_)
                 refine aZ 6 47 #[I,I,I,I,I,I,I,O,O,O,O,O,O,O,O,O] ak (h:=?_)
                 refine aZ 8 49 #[I,I,I,I,I,I,I,O,I,O,O,O,O,O,O,O] ak (h:=?_)
                 refine aZ 9 50 #[I,I,I,I,I,I,I,O,I,I,O,O,O,O,O,O] ak (h:=?_)
                 refine aZ 10 51 #[I,I,I,I,I,I,I,O,I,I,I,O,O,O,O,O] ak (h:=?_)
                 refine dG 7 48 #[I,I,I,I,I,I,I,I,I,I,I,O,O,O,O,O] ak bN hHeld (hy:=by(rintro w' ⟨s0,s1⟩;go_simp;with_reducible rfl)) (h:=?_)
                 refine dG 11 52 #[I,I,I,I,I,I,I,I,I,I,I,I,O,O,O,O] ak bN hHeld (hy:=by(rintro w' ⟨s0,s1⟩;go_simp;with_reducible rfl)) (h:=?_)
                 refine aZ 12 53 #[I,I,I,I,I,I,I,I,I,I,I,I,I,O,O,O] ak (h:=?_)
                 refine dE (i:=13) (N:=none) #[I,I,I,I,I,I,I,I,I,I,I,I,I,I,O,O] rfl rfl (aI ak.out (by kernel_rfl)) (by decide) (λK hK=>?_)
                 refine gW (w1:=?_) (by rfl) rfl ?_ ?_
                 rotate_left
                 .go_simp
                  rfl
                 refine hK.out _ _ ?_
                 clear hK K
                 refine aZ 14 54 #[I,I,I,I,I,I,I,I,I,I,I,I,I,I,I,O] ak (h:=?_)
                 refine dE (i:=15) (N:=none) #[I,I,I,I,I,I,I,I,I,I,I,I,I,I,I,I] rfl rfl (aI ak.out (by kernel_rfl)) (by decide) (λK hK=>?_)
                 refine gW (w1:=?_) (by rfl) rfl ?_ ?_
                 rotate_left
                 .go_simp
                  rfl
                 refine hK.out _ _ ?_
                 clear hK K
                 refine dK (bG ak.out (by kernel_rfl)) ?_
                 try go_wp2
                 go_roundg k2
                 case measure=>have:=qN.out;have:=IJ.out;omega
                 case rel=>exact⟨(aaQ),(wrap64 (jc-1)),(by first|rfl|(simp;done)|(simp[*];done)),H',⟨by have:=qN.out;have:=IJ.out;omega⟩,⟨by(with_reducible repeat(first|apply Kd.bK|apply Kd.dh|apply Kd.cO));exact adI.out⟩,⟨by repeat(first|(with_reducible first|exact HB.out|apply ae|apply ag|apply ah|refine az ?_ aer.out|refine az ?_ aer.out)|exact HB.out)⟩⟩
                .rw[if_neg c18] at H
                 exact absurd H (by simp)
               .rw[if_neg c17] at H
                exact absurd H (by simp)
              .rw[if_neg c16] at H
               exact absurd H (by simp)
             .rw[if_neg c15] at H
              exact absurd H (by simp)
           .rw[if_neg c12] at H
            exact absurd H (by simp)
          .rw[if_neg c11] at H
           exact absurd H (by simp)
        .rw[if_neg c8] at H
         have Zl:decide (0<(l1.length:Int))=false:=decide_eq_false c8
         have Zk:decide (0<l1.length)=false:=decide_eq_false (by omega)
         clear c8
         have H':=aa.mk H
         clear H
         go_wp2
         go_meet
         case rel=>exact⟨_,(lJ),H',⟨by have:=qN.out;have:=IJ.out;first|omega|exact Nat.le_refl _⟩,⟨by(with_reducible repeat(first|apply Kd.bK|apply Kd.dh|apply Kd.cO));exact lZ.out⟩,⟨by repeat(first|(with_reducible first|exact HB.out|apply ae|apply ag|apply ah)|exact HB.out)⟩⟩
       .rw[if_neg c7] at H
        have zR:decide (0<jc)=false:=decide_eq_false c7
        clear c7
        (first|rw[zR]|(simp only[dI,dY];rw[zR])|skip)
        have H':=aa.mk H
        clear H
        go_wp2
        go_meet
        case rel=>exact⟨_,(lJ),H',⟨by have:=qN.out;have:=IJ.out;first|omega|exact Nat.le_refl _⟩,⟨by(with_reducible repeat(first|apply Kd.bK|apply Kd.dh|apply Kd.cO));exact lZ.out⟩,⟨by repeat(first|(with_reducible first|exact HB.out|apply ae|apply ag|apply ah)|exact HB.out)⟩⟩
    case rest=>
     clear zk
     (try clear c1);(try clear p1);(try clear q1);(try clear hx1);(try clear p2);(try clear q2);(try clear hx2);(try clear hf2);(try clear c3);(try clear qG);(try clear c4);(try clear p6)
     (try clear c7);(try clear zR);(try clear c8);(try clear Zl);(try clear Zk);(try clear c9);(try clear acX);(try clear acW);(try clear acV);(try clear c11);(try clear WX);(try clear c12)
     (try clear WW);(try clear c13);(try clear WV);(try clear WU);(try clear p14);(try clear q14);(try clear ag1);(try clear c15);(try clear WT);(try clear c16);(try clear Ir);(try clear c17)
     (try clear M6);(try clear c18);(try clear M5);(try clear V8);(try clear V7);(try clear abq);(try clear ahQ);(try clear XT);(try clear XJ);(try clear ag0);(try clear ahP);(try clear xG)
     (try clear xE);(try clear xD);(try clear Ki);(try clear Kh);(try clear QD);(try clear QC);(try clear QB);(try clear V8);(try clear p2);(try clear XT);(try clear p6);(try clear Qy)
     (try clear Qx);(try clear Qw);(try clear V7);(try clear XJ)
     obtain⟨kq,qx,HA,HJ5,lZ,HB⟩:=hcut
     cases kq with
     |zero=>exact absurd HA.out (by simp[ai.j2])
     |succ kj5=>
      have H:=HA.out
      clear HA
      simp only[ai.j2] at H
      by_cases Zm:0<=a0
      .rw[if_pos Zm] at H
       have ac6:=eq_true Zm
       have ac5:decide (0<=a0)=true:=decide_eq_true Zm
       clear Zm
       by_cases c26:(a0:Int).toNat<=35184372088832
       .rw[if_pos c26] at H
        have ac4:=eq_true c26
        have ac3:decide ((a0:Int).toNat<=35184372088832)=true:=decide_eq_true c26
        clear c26
        obtain⟨aaP,H8⟩:∃y_:List Int,y_=(List.replicate (a0:Int).toNat 0):=⟨_,rfl⟩
        replace H:(ai.l2 kj5 a0 qx aaP 0)=some (r1,r2):=by first|(rw[H8];with_reducible exact H)|(have wP:=(Option.bind_some _ _).symm.trans H;rw[H8];with_reducible exact wP)|(have wP:=(Option.bind_some _ _).symm.trans H;with_reducible exact wP)|with_reducible exact H|(rw[H8];exact H)|exact H
        have Xb:=aa.mk H8
        clear H8
        have H':=aa.mk H
        clear H
        go_wp2_with (first|((with_reducible refine cZ (N:=56) rfl ?_);(try(refine kF (by rfl) ?_;dsimp only));refine Kd.La (Kd.int .i64) _ 3 rfl (N:=56) rfl 22 _ _ rfl a0 rfl rfl Tryz.underlying22 (.int .i64 0) 8 info3 rfl (by decide) (by omega) 0 (ok:=λ_=>True) (okp:=λ_=>True) rfl (λ_ hk=>hk) trivial (of_decide_eq_true (by first|(with_reducible assumption)|assumption)) (Nat.le_trans (Nat.mul_le_mul_right _ (of_decide_eq_true (by first|(with_reducible assumption)|assumption):a0.toNat<=35184372088832)) (by omega)) (Below.refl _ _) (Nat.le_refl _) ?_;intro aaU Mg OQ hb PY abG;clear PY abG;(first|rw[<- Xb.out] at OQ|(simp only[Int.reduceToNat] at OQ;rw[<- Xb.out] at OQ));have fH:=aa.mk (Kd.Sk (by(with_reducible repeat(first|apply Kd.bK|apply Kd.dh|apply Kd.cO));exact lZ.out) (Kd.ZG OQ) hb);have fU:=aa.mk (Kd.ed (Kd.ZB OQ (Kd.aiP (by(with_reducible repeat(first|apply Kd.bK|apply Kd.dh|apply Kd.cO));exact lZ.out))) (aW (by repeat(first|(with_reducible first|exact HB.out|apply ae|apply ag|apply ah)|exact HB.out))));have gV:=aa.mk (bL (by repeat(first|(with_reducible first|exact HB.out|apply ae|apply ag|apply ah)|exact HB.out)) hb);clear lZ;clear HB;have lZ:=fH;have adK:=fU;have HB:=gV;clear fH fU gV;clear hb OQ))
        go_loopg [9] kj5 (λkq v9 w'=>∃(Dc:List Int) (mJ:Int),v9= .int .i64 mJ/\aa (ai.l2 kq a0 qx Dc mJ=some (r1,r2))/\aa (kq<=kj5)/\aa (Kd.R (Kd.int .i64) 3 w' w.heap.size (λk_=>some k_≠(aaU:Value).ownBlock) u4 qx)/\aa (Kd.R (Kd.int .i64) 3 w' w.heap.size (λk_=>some k_≠(u4:Value).ownBlock) aaU Dc)/\aa (Below w.heap.size w w'))
        case atStart=>exact⟨(aaP),(0),(by first|rfl|(simp;done)|(simp[*];done)),H',⟨Nat.le_refl _⟩,⟨by(with_reducible repeat(first|apply Kd.bK|apply Kd.dh|apply Kd.cO));exact Kd.bB lZ.out (λ_ hk=>hk.2)⟩,⟨by(with_reducible repeat(first|apply Kd.bK|apply Kd.dh|apply Kd.cO));exact Kd.bB adK.out (λ_ hk=>hk.2)⟩,⟨by repeat(first|(with_reducible first|exact HB.out|apply ae|apply ag|apply ah)|exact HB.out)⟩⟩
        case round=>
         clear H'
         (try clear c1);(try clear p1);(try clear q1);(try clear hx1);(try clear c2);(try clear p2);(try clear q2);(try clear hx2);(try clear hf2);(try clear c3);(try clear qG);(try clear c4)
         (try clear p6);(try clear c7);(try clear zR);(try clear c8);(try clear Zl);(try clear Zk);(try clear c9);(try clear acX);(try clear acW);(try clear acV);(try clear c11);(try clear WX)
         (try clear c12);(try clear WW);(try clear c13);(try clear WV);(try clear WU);(try clear p14);(try clear q14);(try clear ag1);(try clear c15);(try clear WT);(try clear c16);(try clear Ir)
         (try clear c17);(try clear M6);(try clear c18);(try clear M5);(try clear V8);(try clear V7);(try clear abq);(try clear ahQ);(try clear XT);(try clear XJ);(try clear ag0);(try clear ahP)
         (try clear Zm);(try clear ac6);(try clear ac5);(try clear c26);(try clear ac4);(try clear ac3);(try clear xG);(try clear xE);(try clear xD);(try clear Ki);(try clear Kh);(try clear p1)
         (try clear p14);(try clear QD);(try clear QC);(try clear QB);(try clear V8);(try clear p2);(try clear XT);(try clear p6);(try clear q1);(try clear q14);(try clear Qy);(try clear Qx)
         (try clear Qw);(try clear V7);(try clear q2);(try clear XJ)
         obtain⟨Dc,mJ,rfl,HA,ZX,lZ,Lm,HB⟩:=hrel
         cases gk with
         |zero=>exact absurd HA.out (by simp[ai.l2])
         |succ k3=>
          have H:=HA.out
          clear HA
          simp only[ai.l2] at H
          by_cases c29:mJ<a0
          .rw[if_pos c29] at H
           have ac2:decide (mJ<a0)=true:=decide_eq_true c29
           clear c29
           by_cases RJ:0<=mJ
           .rw[if_pos RJ] at H
            have WS:decide (0<=mJ)=true:=decide_eq_true RJ
            clear RJ
            by_cases c31:mJ<(qx.length:Int)
            .rw[if_pos c31] at H
             have ac1:decide (mJ<(qx.length:Int))=true:=decide_eq_true c31
             clear c31
             by_cases c32:0<=(rd qx mJ)
             .rw[if_pos c32] at H
              have ac0:decide (0<=(rd qx mJ))=true:=decide_eq_true c32
              clear c32
              by_cases Va:(rd qx mJ)<(Dc.length:Int)
              .rw[if_pos Va] at H
               have acZ:decide ((rd qx mJ)<(Dc.length:Int))=true:=decide_eq_true Va
               clear Va
               obtain⟨y153,hy153⟩:∃y_:List Int,y_=(Dc.set ((rd qx mJ):Int).toNat mJ):=⟨_,rfl⟩
               replace H:(ai.l2 k3 a0 qx y153 (wrap64 (mJ+1)))=some (r1,r2):=by first|(rw[hy153];with_reducible exact H)|(have wP:=(Option.bind_some _ _).symm.trans H;rw[hy153];with_reducible exact wP)|(have wP:=(Option.bind_some _ _).symm.trans H;with_reducible exact wP)|with_reducible exact H|(rw[hy153];exact H)|exact H
               have adv:=aa.mk hy153
               clear hy153
               have H':=aa.mk H
               clear H
               obtain⟨aqv,aiF,air⟩:=Kd.kP lZ.out
               subst air
               have XW:0<=(mJ:Int):=of_decide_eq_true (by first|(with_reducible assumption)|assumption)
               have XM:mJ<(qx.length:Int):=of_decide_eq_true (by first|(with_reducible assumption)|assumption)
               obtain⟨adk,e152,aeW⟩:=Kd.cK (Kd.dL lZ.out).2.2 mJ XW XM
               cases e152
               replace XW:=eq_true XW
               replace XM:=eq_true XM
               have p34:0<=((rd qx mJ):Int):=of_decide_eq_true (by first|(with_reducible assumption)|assumption)
               have q34:((rd qx mJ):Int)<((Dc.length:Int):Int):=of_decide_eq_true (by first|(with_reducible assumption)|assumption)
               obtain⟨Rv,Zg,acQ,acI,aik,apg,ad1⟩:=Kd.zg Lm.out (by omega)
               (first|cases acQ|(injection acQ with U3 en_ ec_;(first|subst U3|(injection U3 with U3;subst U3));subst ec_;clear en_))
               have ajX:=aa.mk acI
               have aqg:=aa.mk ad1
               clear acI aik ad1
               obtain⟨agZ,ahO⟩:=Kd.jE 0 Lm.out ((rd qx mJ):Int) p34 q34
               replace p34:=eq_true p34
               replace q34:=eq_true q34
               have ZQ:=Kd.ZA Lm.out ((rd qx mJ):Int) mJ
               go_wp2_with (first|((with_reducible refine KA (t:=3) (p:=68) rfl ?_);refine Gv (t:=3) (p:=68) (v:=?agu) (w1:=(wr.setCell ⟨Rv,((rd qx mJ):Int).toNat,none⟩ (.int .i64 mJ))) ?hg ?ho ?hn ?hr ?_;(case ho=>rfl);(case hg=>rfl);(case hn=>rfl);(case hr=>first|(go_simp;done)|(go_simp;rfl));intro w37 hw;have hg:wr.grownBy w37 (some Rv):=(by rw[hw];exact ZQ.2);have hp_:Kd.R (Kd.int .i64) 3 w37 w.heap.size (λk_=>some k_≠(.slice (some adk) qx.length aiF:Value).ownBlock) (.slice (some ⟨Rv,0,none⟩) Dc.length Zg) y153:=(by rw[hw,adv.out];exact ZQ.1);clear ZQ;have fH:=aa.mk (Kd.Vp (v:=(.slice (some ⟨Rv,0,none⟩) Dc.length Zg)) (v1:=(.slice (some ⟨Rv,0,none⟩) Dc.length Zg)) (ok:=(λ_=>True)) (by(with_reducible repeat(first|apply Kd.bK|apply Kd.dh|apply Kd.cO));exact Kd.bB lZ.out (λ_ hk=>⟨trivial,hk⟩)) hg (.inl rfl));have fU:=aa.mk (hp_);have gV:=aa.mk ((by rw[hw];exact az (HB.out) ajX.out:Below w.heap.size w w37));clear lZ;clear Lm;clear HB;have lZ:=fH;have Lm:=fU;have HB:=gV;clear fH fU gV;clear hg hw hp_))
               go_roundg k3
               case measure=>have:=qN.out;have:=HJ5.out;have:=ZX.out;omega
               case rel=>exact⟨(y153),(wrap64 (mJ+1)),(by first|rfl|(simp;done)|(simp[*];done)),H',⟨by have:=qN.out;have:=HJ5.out;have:=ZX.out;omega⟩,⟨by(with_reducible repeat(first|apply Kd.bK|apply Kd.dh|apply Kd.cO));exact Kd.bB lZ.out (λ_ hk=>hk.2)⟩,⟨by(with_reducible repeat(first|apply Kd.bK|apply Kd.dh|apply Kd.cO));exact Lm.out⟩,⟨by repeat(first|(with_reducible first|exact HB.out|apply ae|apply ag|apply ah)|exact HB.out)⟩⟩
              .rw[if_neg Va] at H
               exact absurd H (by simp)
             .rw[if_neg c32] at H
              exact absurd H (by simp)
            .rw[if_neg c31] at H
             exact absurd H (by simp)
           .rw[if_neg RJ] at H
            exact absurd H (by simp)
          .rw[if_neg c29] at H
           have ac2:decide (mJ<a0)=false:=decide_eq_false c29
           clear c29
           simp only[Option.some.injEq,Prod.mk.injEq] at H
           obtain⟨rfl,rfl⟩:=H
           go_wp2
           go_ret2
           exact⟨_,_,by first|rfl|(simp[aY,aX]<;>rfl)|(simp[*,aY,aX]<;>rfl),by(with_reducible repeat(first|apply Kd.bK|apply Kd.dh|apply Kd.cO));exact lZ.out,by(with_reducible repeat(first|apply Kd.bK|apply Kd.dh|apply Kd.cO));exact Lm.out,by repeat(first|(with_reducible first|exact HB.out|apply ae|apply ag|apply ah)|exact HB.out)⟩
       .rw[if_neg c26] at H
        exact absurd H (by simp)
      .rw[if_neg Zm] at H
       exact absurd H (by simp)
def gG.f(l0:List Int)(a1:Int):Option (Bool):=if(l0.length:Int)>0 then(if(l0.length:Int)=0 then(none) else(if 0<=(Int.tmod a1 (l0.length:Int)) then(if(Int.tmod a1 (l0.length:Int))<(l0.length:Int) then(some ((Int.tmod ((rd l0 (Int.tmod a1 (l0.length:Int)))/256) 2)==1)) else(none)) else(none))) else(some false)
set_option maxHeartbeats 8000000 in
theorem gG.calls(A0:Option Addr)(c0:Nat)(l0:List Int)(a1:Int)(r:Bool)(w:World)(hr0:Kd.C (Kd.int .u16) w A0 l0.length l0)(hc0:l0.length<=c0)(h:gG.f l0 a1=some r):
  Calls Tryz.prog 9 #[.slice A0 l0.length c0,.int .i64 a1] w λe w'=>e= .returned (.bool r)/\bF w w':=by
 have IG:=aa.mk hr0
 have Xp:=aa.mk hc0
 clear hr0 hc0
 have H:(if(l0.length:Int)>0 then(if(l0.length:Int)=0 then(none) else(if 0<=(Int.tmod a1 (l0.length:Int)) then(if(Int.tmod a1 (l0.length:Int))<(l0.length:Int) then(some ((Int.tmod ((rd l0 (Int.tmod a1 (l0.length:Int)))/256) 2)==1)) else(none)) else(none))) else(some false))=some r:=h
 clear h
 by_cases c3:(l0.length:Int)>0
 .rw[if_pos c3] at H
  have qG:decide (0<(l0.length:Int))=true:=decide_eq_true c3
  have RI:decide (0<l0.length)=true:=decide_eq_true (by omega)
  clear c3
  by_cases c4:(l0.length:Int)=0
  .rw[if_pos c4] at H
   exact absurd H (by simp)
  .rw[if_neg c4] at H
   have ze:((l0.length:Int)==0)=false:=beq_eq_false_iff_ne.mpr c4
   have apk:((l0.length:Int) !=0)=true:=bne_iff_ne.mpr c4
   have apj:¬(l0=[]):=λh_=>c4 (by rw[h_];rfl)
   obtain⟨Tu,YA⟩:∃j_:Int,(Int.tmod a1 (l0.length:Int))=j_:=⟨_,rfl⟩
   replace H:(if 0<=(Tu) then(if(Tu)<(l0.length:Int) then(some ((Int.tmod ((rd l0 (Tu))/256) 2)==1)) else(none)) else(none))=some r:=by first|(rw[YA] at H;exact H)|(simp only[YA] at H ⊢;exact H)
   by_cases c6:0<=(Tu)
   .rw[if_pos c6] at H
    have x8:decide (0<=(Tu))=true:=decide_eq_true c6
    clear c6
    by_cases c7:(Tu)<(l0.length:Int)
    .rw[if_pos c7] at H
     have zR:decide ((Tu)<(l0.length:Int))=true:=decide_eq_true c7
     clear c7
     obtain rfl:=Option.some.inj H
     have XV:0<=((Tu):Int):=of_decide_eq_true (by first|(with_reducible assumption)|assumption)
     have XL:(Tu)<(l0.length:Int):=of_decide_eq_true (by first|(with_reducible assumption)|assumption)
     obtain⟨alW,e154,aeV⟩:=Kd.cK IG.out (Tu) XV XL
     cases e154
     replace XV:=eq_true XV
     replace XL:=eq_true XL
     go_enter Tryz.func9,Tryz.ntmps9
     go_wp2
     go_ret
     exact⟨by first|rfl|(simp;done)|(simp only[<- YA]<;>(first|rfl|simp))|(simp[*];done),by repeat(first|exact bF.refl _|apply bF.step)⟩
    .rw[if_neg c7] at H
     exact absurd H (by simp)
   .rw[if_neg c6] at H
    exact absurd H (by simp)
 .rw[if_neg c3] at H
  have qG:decide (0<(l0.length:Int))=false:=decide_eq_false c3
  have RI:decide (0<l0.length)=false:=decide_eq_false (by omega)
  clear c3
  obtain rfl:=Option.some.inj H
  go_enter Tryz.func9,Tryz.ntmps9
  go_wp2
  go_ret
  exact⟨by first|rfl|(simp;done)|(simp[*];done),by repeat(first|exact bF.refl _|apply bF.step)⟩
end Go.Proofs.YtkjoilgpmngndaaGreat.au
