import Derived.Test.YtdekaocdmjndaaaGreatQ5
set_option maxRecDepth 100000
set_option linter.all false
namespace Go.Proofs.YtdekaocdmjndaaaGreat.ah
open Go.RowKit YtdekaocdmjndaaaGreatW.aj YtdekaocdmjndaaaGreatW.aH YtdekaocdmjndaaaGreatW.eu
attribute [local go_sem] nA pF qw sI mU mR pI pE
attribute [local go_sem high] Zr
def bW.l0:Nat->List (mh)->List (mh)->Int->Option (Bool)
 |0,_,_,_=>none
 |k+1,x0,x1,x5=>if x5<(x0.length:Int) then(if 0<=x5 then(if x5<(x1.length:Int) then(if(!(((bS x0 x5).f0)==((bS x1 x5).f0))||(!(((bS x0 x5).f1)==((bS x1 x5).f1))))=true then(some false) else(bW.l0 k x0 x1 (wrap64 (x5+1)))) else(none)) else(none)) else(some true)
def bW.f(k:Nat)(l0:List (mh))(l1:List (mh)):Option (Bool):=if(l0.length:Int)=(l1.length:Int) then(bW.l0 k l0 l1 0) else(some false)
set_option maxHeartbeats 8000000 in
theorem bW.calls(k:Nat)(A0:Option Addr)(c0:Nat)(l0:List (mh))(A1:Option Addr)(c1:Nat)(l1:List (mh))(r:Bool)(w:World)(hr0:Kd.C nQ w A0 l0.length l0)(hc0:l0.length<=c0)(hr1:Kd.C nQ w A1 l1.length l1)(hc1:l1.length<=c1)(h:bW.f k l0 l1=some r):
  Calls Tryz.prog 28 #[.slice A0 l0.length c0,.slice A1 l1.length c1] w λe w'=>e= .returned (.bool r)/\aU w w':=by
 have Yi:=Tryz.underlying63
 have Iw:=aa.mk hr0
 have R7:=aa.mk hc0
 clear hr0 hc0
 have HR1:=aa.mk hr1
 have wL:=aa.mk hc1
 clear hr1 hc1
 have H:(if(l0.length:Int)=(l1.length:Int) then(bW.l0 k l0 l1 0) else(some false))=some r:=h
 clear h
 by_cases c3:(l0.length:Int)=(l1.length:Int)
 .rw[if_pos c3] at H
  have wo:((l0.length:Int)==(l1.length:Int))=true:=beq_iff_eq.mpr c3
  have Wd:((l0.length:Int) !=(l1.length:Int))=false:=bne_eq_false_iff_eq.mpr c3
  have ZG:(l0.length==l1.length)=true:=by first|simpa using c3|(simp at c3 ⊢;omega)
  clear c3
  have H':=aa.mk H
  clear H
  go_enter Tryz.func28,Tryz.ntmps28
  go_wp2
  repeat(go_quiet (fail);try go_wp2)
  go_loopg [5] k (λkq v5 w'=>∃(jo:Int),v5= .int .i64 jo/\aa (bW.l0 kq l0 l1 jo=some r)/\aa (kq<=k)/\aU w w')
  case atStart=>exact⟨(0),(by first|rfl|(simp;done)|(simp[*];done)),H',⟨Nat.le_refl _⟩,by repeat(first|exact aU.refl _|apply aU.step)⟩
  case round=>
   clear H'
   (try clear c1);(try clear c2);(try clear p2);(try clear c3);(try clear wo);(try clear Wd);(try clear ZG)
   obtain⟨jo,rfl,HA,pX,⟨m1,rfl⟩⟩:=hrel
   cases gk with
   |zero=>exact absurd HA.out (by simp[bW.l0])
   |succ k1=>
    have H:=HA.out
    clear HA
    simp only[bW.l0] at H
    by_cases c4:jo<(l0.length:Int)
    .rw[if_pos c4] at H
     have rO:decide (jo<(l0.length:Int))=true:=decide_eq_true c4
     clear c4
     by_cases c5:0<=jo
     .rw[if_pos c5] at H
      have OL:decide (0<=jo)=true:=decide_eq_true c5
      clear c5
      by_cases c6:jo<(l1.length:Int)
      .rw[if_pos c6] at H
       have Rv:decide (jo<(l1.length:Int))=true:=decide_eq_true c6
       clear c6
       by_cases c7:(!(((bS l0 jo).f0)==((bS l1 jo).f0))||(!(((bS l0 jo).f1)==((bS l1 jo).f1))))=true
       .rw[if_pos c7] at H
        have yt:(!(((bS l0 jo).f0)==((bS l1 jo).f0))||(!(((bS l0 jo).f1)==((bS l1 jo).f1))))=true:=c7
        clear c7
        obtain rfl:=Option.some.inj H
        have Gy:0<=(jo:Int):=of_decide_eq_true (by first|(with_reducible assumption)|assumption)
        have Gq:jo<(l0.length:Int):=of_decide_eq_true (by first|(with_reducible assumption)|assumption)
        obtain⟨ZR,e212,QM,QL⟩:=kW Iw.out jo Gy Gq
        cases e212
        replace Gy:=eq_true Gy
        replace Gq:=eq_true Gq
        have Gx:0<=(jo:Int):=of_decide_eq_true (by first|(with_reducible assumption)|assumption)
        have Gp:jo<(l1.length:Int):=of_decide_eq_true (by first|(with_reducible assumption)|assumption)
        obtain⟨ZQ,e213,QK,QJ⟩:=kW HR1.out jo Gx Gp
        cases e213
        replace Gx:=eq_true Gx
        replace Gp:=eq_true Gp
        go_wp2
        repeat(go_quiet (fail);try go_wp2)
        go_ret
        exact⟨by first|rfl|(simp;done)|(simp[*];done),by repeat(first|exact aU.refl _|apply aU.step)⟩
       .rw[if_neg c7] at H
        have yt:(!(((bS l0 jo).f0)==((bS l1 jo).f0))||(!(((bS l0 jo).f1)==((bS l1 jo).f1))))=false:=by simpa using c7
        clear c7
        have H':=aa.mk H
        clear H
        have Gy:0<=(jo:Int):=of_decide_eq_true (by first|(with_reducible assumption)|assumption)
        have Gq:jo<(l0.length:Int):=of_decide_eq_true (by first|(with_reducible assumption)|assumption)
        obtain⟨ZR,e212,QM,QL⟩:=kW Iw.out jo Gy Gq
        cases e212
        replace Gy:=eq_true Gy
        replace Gq:=eq_true Gq
        have Gx:0<=(jo:Int):=of_decide_eq_true (by first|(with_reducible assumption)|assumption)
        have Gp:jo<(l1.length:Int):=of_decide_eq_true (by first|(with_reducible assumption)|assumption)
        obtain⟨ZQ,e213,QK,QJ⟩:=kW HR1.out jo Gx Gp
        cases e213
        replace Gx:=eq_true Gx
        replace Gp:=eq_true Gp
        go_wp2
        repeat(go_quiet (fail);try go_wp2)
        go_roundg k1
        case measure=>have:=pX.out;omega
        case rel=>exact⟨(wrap64 (jo+1)),(by first|rfl|(simp;done)|(simp[*];done)),H',⟨by have:=pX.out;omega⟩,by repeat(first|exact aU.refl _|apply aU.step)⟩
      .rw[if_neg c6] at H
       exact absurd H (by simp)
     .rw[if_neg c5] at H
      exact absurd H (by simp)
    .rw[if_neg c4] at H
     have rO:decide (jo<(l0.length:Int))=false:=decide_eq_false c4
     clear c4
     obtain rfl:=Option.some.inj H
     go_wp2
     repeat(go_quiet (fail);try go_wp2)
     go_ret
     exact⟨by first|rfl|(simp;done)|(simp[*];done),by repeat(first|exact aU.refl _|apply aU.step)⟩
 .rw[if_neg c3] at H
  have wo:((l0.length:Int)==(l1.length:Int))=false:=beq_eq_false_iff_ne.mpr c3
  have Wd:((l0.length:Int) !=(l1.length:Int))=true:=bne_iff_ne.mpr c3
  have ZG:(l0.length==l1.length)=false:=by first|simpa using c3|(simp at c3 ⊢;omega)
  obtain rfl:=Option.some.inj H
  go_enter Tryz.func28,Tryz.ntmps28
  go_wp2
  repeat(go_quiet (fail);try go_wp2)
  go_ret
  exact⟨by first|rfl|(simp;done)|(simp[*];done),by repeat(first|exact aU.refl _|apply aU.step)⟩
end Go.Proofs.YtdekaocdmjndaaaGreat.ah
namespace Go.Proofs.YtdekaocdmjndaaaGreat.ah
open Go.RowKit YtdekaocdmjndaaaGreatW.aj YtdekaocdmjndaaaGreatW.aH YtdekaocdmjndaaaGreatW.eu
structure LD where
 f0:Int
 f1:Int
def adG:LD:=⟨(0:Int),(0:Int)⟩
def U1:Kd LD:=Kd.NG (Kd.pair (Kd.int .i64) (Kd.int .i64)) (λx:LD=>(x.f0,x.f1))
theorem KH{w:World}{x:LD}{cs:List Value}(h:U1.K w x cs):cs=[.int .i64 x.f0,.int .i64 x.f1]:=by
 obtain⟨_,_,rfl,rfl,rfl⟩:=h
 exact rfl
theorem QF(w:World)(x:LD):U1.K w x [.int .i64 x.f0,.int .i64 x.f1]:=⟨[.int .i64 x.f0],[.int .i64 x.f1],rfl,rfl,rfl⟩
structure eY where
 f0:Int
 f1:Int
 f2:Int
 f3:LD
def Qh:eY:=⟨(0:Int),(0:Int),(0:Int),adG⟩
def zu:Kd eY:=Kd.NG (Kd.pair (Kd.int .i64) (Kd.pair (Kd.int .i64) (Kd.pair (Kd.int .i64) U1))) (λx:eY=>(x.f0,x.f1,x.f2,x.f3))
theorem KG{w:World}{x:eY}{cs:List Value}(h:zu.K w x cs):cs=[.int .i64 x.f0,.int .i64 x.f1,.int .i64 x.f2,.int .i64 x.f3.f0,.int .i64 x.f3.f1]:=by
 obtain⟨_,_,rfl,rfl,⟨_,_,rfl,rfl,⟨_,_,rfl,rfl,s3⟩⟩⟩:=h
 obtain rfl:=KH s3
 exact rfl
theorem I1(w:World)(x:eY):zu.K w x [.int .i64 x.f0,.int .i64 x.f1,.int .i64 x.f2,.int .i64 x.f3.f0,.int .i64 x.f3.f1]:=⟨[.int .i64 x.f0],[.int .i64 x.f1,.int .i64 x.f2,.int .i64 x.f3.f0,.int .i64 x.f3.f1],rfl,rfl,⟨[.int .i64 x.f1],[.int .i64 x.f2,.int .i64 x.f3.f0,.int .i64 x.f3.f1],rfl,rfl,⟨[.int .i64 x.f2],[.int .i64 x.f3.f0,.int .i64 x.f3.f1],rfl,rfl,(QF w x.f3)⟩⟩⟩
def iL(xs:List eY)(i:Int):eY:=xs.getD i.toNat Qh
theorem yJ{w:World}{A:Option Addr}{n:Nat}{xs:List eY}(h:Kd.C zu w A n xs)(i:Int)(h0:0<=i)(h1:i<n):∃ad,A=some ad/\w.cell? (ad.add (i.toNat*5))=some (.int .i64 (iL xs i).f0)/\w.cell? ⟨(ad.add (i.toNat*5)).block,(ad.add (i.toNat*5)).off+1,none⟩=some (.int .i64 (iL xs i).f1)/\w.cell? ⟨(ad.add (i.toNat*5)).block,(ad.add (i.toNat*5)).off+2,none⟩=some (.int .i64 (iL xs i).f2)/\w.cell? ⟨(ad.add (i.toNat*5)).block,(ad.add (i.toNat*5)).off+3,none⟩=some (.int .i64 (iL xs i).f3.f0)/\w.cell? ⟨(ad.add (i.toNat*5)).block,(ad.add (i.toNat*5)).off+4,none⟩=some (.int .i64 (iL xs i).f3.f1):=by
 obtain⟨ad,c,e,_,hK,hc0⟩:=Kd.qP h Qh i h0 h1
 have hc:∀j u,c[j]?=some u->w.cell? (ad.add (i.toNat*5+j))=some u:=hc0
 obtain rfl:=KG hK
 exact⟨ad,e,hc 0 _ rfl,by rw[<- dz _ _ 1 (by omega)];exact hc 1 _ rfl,by rw[<- dz _ _ 2 (by omega)];exact hc 2 _ rfl,by rw[<- dz _ _ 3 (by omega)];exact hc 3 _ rfl,by rw[<- dz _ _ 4 (by omega)];exact hc 4 _ rfl⟩
structure jU where
 f0:Int
 f1:Int
def Qc:jU:=⟨(0:Int),(0:Int)⟩
def Kz:Kd jU:=Kd.NG (Kd.pair (Kd.int .i64) (Kd.int .i64)) (λx:jU=>(x.f0,x.f1))
theorem Ky{w:World}{x:jU}{cs:List Value}(h:Kz.K w x cs):cs=[.int .i64 x.f0,.int .i64 x.f1]:=by
 obtain⟨_,_,rfl,rfl,rfl⟩:=h
 exact rfl
def yB(xs:List jU)(i:Int):jU:=xs.getD i.toNat Qc
theorem RB{w:World}{A:Option Addr}{n:Nat}{xs:List jU}(h:Kd.C Kz w A n xs)(i:Int)(h0:0<=i)(h1:i<n):∃ad,A=some ad/\w.cell? (ad.add (i.toNat*2))=some (.int .i64 (yB xs i).f0)/\w.cell? ⟨(ad.add (i.toNat*2)).block,(ad.add (i.toNat*2)).off+1,none⟩=some (.int .i64 (yB xs i).f1):=by
 obtain⟨ad,c,e,_,hK,hc0⟩:=Kd.qP h Qc i h0 h1
 have hc:∀j u,c[j]?=some u->w.cell? (ad.add (i.toNat*2+j))=some u:=hc0
 obtain rfl:=Ky hK
 exact⟨ad,e,hc 0 _ rfl,by rw[<- dz _ _ 1 (by omega)];exact hc 1 _ rfl⟩
def iM.f(bu:Int)(bF:Int)(a1:Int):Option (Bool):=if 0<=bu then(if bu<=bF then(some (decide (bF<=a1))) else(some false)) else(some false)
set_option maxHeartbeats 8000000 in
theorem iM.calls(bu:Int)(bF:Int)(a1:Int)(r:Bool)(w:World)(h:iM.f bu bF a1=some r):
  Calls Tryz.prog 256 #[.agg #[.int .i64 bu,.int .i64 bF],.int .i64 a1] w λe w'=>e= .returned (.bool r)/\Below w.heap.size w w':=by
 have akB:=Tryz.underlying140
 have HB:=aa.mk (Below.refl w.heap.size w)
 have H:(if 0<=bu then(if bu<=bF then(some (decide (bF<=a1))) else(some false)) else(some false))=some r:=h
 clear h
 by_cases c3:0<=bu
 .rw[if_pos c3] at H
  have wo:decide (0<=bu)=true:=decide_eq_true c3
  clear c3
  by_cases c4:bu<=bF
  .rw[if_pos c4] at H
   have rO:decide (bu<=bF)=true:=decide_eq_true c4
   clear c4
   obtain rfl:=Option.some.inj H
   go_enter Tryz.func256,Tryz.ntmps256
   go_wp2_with (first|((with_reducible refine dM (N:=2) rfl ?_);refine ek ?hg (N:=2) ?hd (cs:=#[.int .i64 bu,.int .i64 bF]) (t:=140) ?hr ?_;(case hd=>rfl);(case hg=>rfl);(case hr=>first|(go_simp;done)|(go_simp;rfl));intro oz hg w5 fK hb;have ic:=aa.mk (bZ (by repeat(first|(with_reducible first|exact HB.out|apply ae|apply ag|apply ak)|exact HB.out)) hb);have ib:=aa.mk (fK);have iU:=aa.mk ((by rw[hg];exact(aT (by repeat(first|(with_reducible first|exact HB.out|apply ae|apply ag|apply ak)|exact HB.out))):w.heap.size<=oz));have jR:=aa.mk ((by rw[hg];exact(aT (by repeat(first|(with_reducible first|exact HB.out|apply ae|apply ag|apply ak)|exact HB.out))):w.heap.size<=oz));clear HB;have HB:=ic;have oI:=ib;have Uf:=iU;have FP:=jR;clear ic ib iU jR;clear hb fK hg;have Oe:w5.cell? ⟨oz,0,none⟩=some (.int .i64 bu):=(av oI.out 0).trans rfl;have Od:w5.cell? ⟨oz,1,none⟩=some (.int .i64 bF):=(av oI.out 1).trans rfl;have NU:=aA oI.out 0;have NT:=aA oI.out 1))
   go_ret
   exact⟨by first|rfl|(simp[bn,bg]<;>rfl)|(simp[*,bn,bg]<;>rfl),by repeat(first|(with_reducible first|exact HB.out|apply ae|apply ag|apply ak|refine aJ ?_ FP.out)|exact HB.out)⟩
  .rw[if_neg c4] at H
   have rO:decide (bu<=bF)=false:=decide_eq_false c4
   clear c4
   obtain rfl:=Option.some.inj H
   go_enter Tryz.func256,Tryz.ntmps256
   go_wp2_with (first|((with_reducible refine dM (N:=2) rfl ?_);refine ek ?hg (N:=2) ?hd (cs:=#[.int .i64 bu,.int .i64 bF]) (t:=140) ?hr ?_;(case hd=>rfl);(case hg=>rfl);(case hr=>first|(go_simp;done)|(go_simp;rfl));intro oz hg w7 fK hb;have ic:=aa.mk (bZ (by repeat(first|(with_reducible first|exact HB.out|apply ae|apply ag|apply ak)|exact HB.out)) hb);have ib:=aa.mk (fK);have iU:=aa.mk ((by rw[hg];exact(aT (by repeat(first|(with_reducible first|exact HB.out|apply ae|apply ag|apply ak)|exact HB.out))):w.heap.size<=oz));have jR:=aa.mk ((by rw[hg];exact(aT (by repeat(first|(with_reducible first|exact HB.out|apply ae|apply ag|apply ak)|exact HB.out))):w.heap.size<=oz));clear HB;have HB:=ic;have oI:=ib;have Uf:=iU;have FP:=jR;clear ic ib iU jR;clear hb fK hg;have aeO:w7.cell? ⟨oz,0,none⟩=some (.int .i64 bu):=(av oI.out 0).trans rfl;have aeN:w7.cell? ⟨oz,1,none⟩=some (.int .i64 bF):=(av oI.out 1).trans rfl;have aeD:=aA oI.out 0;have aeC:=aA oI.out 1))
   go_ret
   exact⟨by first|rfl|(simp[bn,bg]<;>rfl)|(simp[*,bn,bg]<;>rfl),by repeat(first|(with_reducible first|exact HB.out|apply ae|apply ag|apply ak|refine aJ ?_ FP.out)|exact HB.out)⟩
 .rw[if_neg c3] at H
  have wo:decide (0<=bu)=false:=decide_eq_false c3
  clear c3
  obtain rfl:=Option.some.inj H
  go_enter Tryz.func256,Tryz.ntmps256
  go_wp2_with (first|((with_reducible refine dM (N:=2) rfl ?_);refine ek ?hg (N:=2) ?hd (cs:=#[.int .i64 bu,.int .i64 bF]) (t:=140) ?hr ?_;(case hd=>rfl);(case hg=>rfl);(case hr=>first|(go_simp;done)|(go_simp;rfl));intro oz hg w9 fK hb;have ic:=aa.mk (bZ (by repeat(first|(with_reducible first|exact HB.out|apply ae|apply ag|apply ak)|exact HB.out)) hb);have ib:=aa.mk (fK);have iU:=aa.mk ((by rw[hg];exact(aT (by repeat(first|(with_reducible first|exact HB.out|apply ae|apply ag|apply ak)|exact HB.out))):w.heap.size<=oz));have jR:=aa.mk ((by rw[hg];exact(aT (by repeat(first|(with_reducible first|exact HB.out|apply ae|apply ag|apply ak)|exact HB.out))):w.heap.size<=oz));clear HB;have HB:=ic;have oI:=ib;have Uf:=iU;have FP:=jR;clear ic ib iU jR;clear hb fK hg;have acN:w9.cell? ⟨oz,0,none⟩=some (.int .i64 bu):=(av oI.out 0).trans rfl;have acM:w9.cell? ⟨oz,1,none⟩=some (.int .i64 bF):=(av oI.out 1).trans rfl;have ace:=aA oI.out 0;have acd:=aA oI.out 1))
  go_ret
  exact⟨by first|rfl|(simp[bn,bg]<;>rfl)|(simp[*,bn,bg]<;>rfl),by repeat(first|(with_reducible first|exact HB.out|apply ae|apply ag|apply ak|refine aJ ?_ FP.out)|exact HB.out)⟩
end Go.Proofs.YtdekaocdmjndaaaGreat.ah
