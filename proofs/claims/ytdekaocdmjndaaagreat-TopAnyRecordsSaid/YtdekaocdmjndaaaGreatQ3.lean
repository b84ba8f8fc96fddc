import Derived.TacticsInMore
import Derived.Test.YtdekaocdmjndaaaGreatQ2
set_option maxRecDepth 100000
set_option linter.all false
namespace Go.Proofs.YtdekaocdmjndaaaGreat.ah
open Go.RowKit YtdekaocdmjndaaaGreatW.aj YtdekaocdmjndaaaGreatW.aH YtdekaocdmjndaaaGreatW.eu
attribute [local go_sem] nA pF qw sI mU mR pI pE
def fo.f(bu:Int)(jm:List (List Int))(dA:List (dh)):Option (Int):=if(jm.length:Int)=0 then(some 0) else(if 0<(jm.length:Int) then(some ((tO jm 0).length:Int)) else(none))
set_option maxHeartbeats 8000000 in
theorem fo.calls(bu:Int)(Aj:Option Addr)(zO:Nat)(jm:List (List Int))(jK:Option Addr)(jg:Nat)(dA:List (dh))(r:Int)(w:World)(EP:Kd.C (Kd.slice 3 (Kd.int .i64)) w Aj jm.length jm)(EW:jm.length<=zO)(xK:Kd.C zt w jK dA.length dA)(xL:dA.length<=jg)(h:fo.f bu jm dA=some r):
  Calls Tryz.prog 64 #[.agg #[.int .i64 bu,.slice Aj jm.length zO,.slice jK dA.length jg]] w λe w'=>e= .returned (.int .i64 r)/\Below w.heap.size w w':=by
 have akC:=Tryz.underlying37
 have TD:=aa.mk EP
 have aaR:=aa.mk EW
 clear EP EW
 have Pm:=aa.mk xK
 have TP:=aa.mk xL
 clear xK xL
 have HB:=aa.mk (Below.refl w.heap.size w)
 have H:(if(jm.length:Int)=0 then(some 0) else(if 0<(jm.length:Int) then(some ((tO jm 0).length:Int)) else(none)))=some r:=h
 clear h
 by_cases c2:(jm.length:Int)=0
 .rw[if_pos c2] at H
  have Dr:((jm.length:Int)==0)=true:=beq_iff_eq.mpr c2
  have We:((jm.length:Int) !=0)=false:=bne_eq_false_iff_eq.mpr c2
  clear c2
  obtain rfl:=Option.some.inj H
  go_enter Tryz.func64,Tryz.ntmps64
  go_wp2_with (first|((with_reducible refine dM (N:=1) rfl ?_);refine ek ?hg (N:=1) ?hd (cs:=#[.int .i64 bu,.slice Aj jm.length zO,.slice jK dA.length jg]) (t:=37) ?hr ?_;(case hd=>rfl);(case hg=>rfl);(case hr=>first|(go_simp;done)|(go_simp;rfl));intro rF hg w3 fK hb;have ic:=aa.mk (bZ (by repeat(first|(with_reducible first|exact HB.out|apply ae|apply ag|apply ak)|exact HB.out)) hb);have ib:=aa.mk (fK);have iU:=aa.mk ((by rw[hg];exact(aT (by repeat(first|(with_reducible first|exact HB.out|apply ae|apply ag|apply ak)|exact HB.out))):w.heap.size<=rF));have jR:=aa.mk ((by rw[hg];exact(aT (by repeat(first|(with_reducible first|exact HB.out|apply ae|apply ag|apply ak)|exact HB.out))):w.heap.size<=rF));clear HB;have HB:=ic;have qc:=ib;have aa5:=iU;have PK:=jR;clear ic ib iU jR;clear hb fK hg;have Oh:w3.cell? ⟨rF,0,none⟩=some (.int .i64 bu):=(av qc.out 0).trans rfl;have Og:w3.cell? ⟨rF,1,none⟩=some (.slice Aj jm.length zO):=(av qc.out 1).trans rfl;have Vm:w3.cell? ⟨rF,2,none⟩=some (.slice jK dA.length jg):=(av qc.out 2).trans rfl;have NW:=aA qc.out 0;have NV:=aA qc.out 1;have Ve:=aA qc.out 2))
  go_ret
  exact⟨by first|rfl|(simp[bn,bg]<;>rfl)|(simp[*,bn,bg]<;>rfl),by repeat(first|(with_reducible first|exact HB.out|apply ae|apply ag|apply ak|refine aJ ?_ PK.out)|exact HB.out)⟩
 .rw[if_neg c2] at H
  have Dr:((jm.length:Int)==0)=false:=beq_eq_false_iff_ne.mpr c2
  have We:((jm.length:Int) !=0)=true:=bne_iff_ne.mpr c2
  have alV:¬(jm=[]):=λh_=>c2 (by rw[h_];rfl)
  by_cases c5:0<(jm.length:Int)
  .rw[if_pos c5] at H
   have OL:decide (0<(jm.length:Int))=true:=decide_eq_true c5
   have alQ:decide (0<jm.length)=true:=decide_eq_true (by omega)
   clear c5
   obtain rfl:=Option.some.inj H
   go_enter Tryz.func64,Tryz.ntmps64
   go_wp2_with (first|((with_reducible refine dM (N:=1) rfl ?_);refine ek ?hg (N:=1) ?hd (cs:=#[.int .i64 bu,.slice Aj jm.length zO,.slice jK dA.length jg]) (t:=37) ?hr ?_;(case hd=>rfl);(case hg=>rfl);(case hr=>first|(go_simp;done)|(go_simp;rfl));intro rF hg w6 fK hb;have ic:=aa.mk (bZ (by repeat(first|(with_reducible first|exact HB.out|apply ae|apply ag|apply ak)|exact HB.out)) hb);have ib:=aa.mk (fK);have iU:=aa.mk ((by rw[hg];exact(aT (by repeat(first|(with_reducible first|exact HB.out|apply ae|apply ag|apply ak)|exact HB.out))):w.heap.size<=rF));have jR:=aa.mk ((by rw[hg];exact(aT (by repeat(first|(with_reducible first|exact HB.out|apply ae|apply ag|apply ak)|exact HB.out))):w.heap.size<=rF));clear HB;have HB:=ic;have qc:=ib;have aa5:=iU;have PK:=jR;clear ic ib iU jR;clear hb fK hg;have Vj:w6.cell? ⟨rF,0,none⟩=some (.int .i64 bu):=(av qc.out 0).trans rfl;have Vi:w6.cell? ⟨rF,1,none⟩=some (.slice Aj jm.length zO):=(av qc.out 1).trans rfl;have aeP:w6.cell? ⟨rF,2,none⟩=some (.slice jK dA.length jg):=(av qc.out 2).trans rfl;have U9:=aA qc.out 0;have U8:=aA qc.out 1;have aeE:=aA qc.out 2;have UJ:0<=(0:Int):=(by omega);have UC:0<(jm.length:Int):=of_decide_eq_true (by first|(with_reducible assumption)|assumption);obtain⟨aiX,aho,afJ,afD,vM,I8,I9⟩:=Fv TD.out 0 UJ UC;cases afD;have ahw:(0<jm.length)=True:=eq_true (by omega);(try rw[show((0:Int)).toNat=0 from rfl] at vM);(try rw[Addr.add_zero'] at vM);replace vM:=(HB.out.cell (World.block_lt_of_cell? w _ vM)).trans vM;have ada:=aa.mk I9;have adm:=aa.mk I8;clear I9 I8;replace UJ:=eq_true UJ;replace UC:=eq_true UC))
   go_ret
   exact⟨by first|rfl|(simp[bn,bg]<;>rfl)|(simp[*,bn,bg]<;>rfl),by repeat(first|(with_reducible first|exact HB.out|apply ae|apply ag|apply ak|refine aJ ?_ PK.out)|exact HB.out)⟩
  .rw[if_neg c5] at H
   exact absurd H (by simp)
def mF.f(l0:List Int):Option (Bool):=some (decide ((l0.length:Int)<=4))
set_option maxHeartbeats 8000000 in
theorem mF.calls(A0:Option Addr)(c0:Nat)(l0:List Int)(r:Bool)(w:World)(hr0:Kd.C (Kd.int .i64) w A0 l0.length l0)(hc0:l0.length<=c0)(h:mF.f l0=some r):
  Calls Tryz.prog 152 #[.slice A0 l0.length c0] w λe w'=>e= .returned (.bool r)/\aU w w':=by
 have Iw:=aa.mk hr0
 have R7:=aa.mk hc0
 clear hr0 hc0
 have H:(some (decide ((l0.length:Int)<=4)))=some r:=h
 clear h
 obtain rfl:=Option.some.inj H
 go_enter Tryz.func152,Tryz.ntmps152
 go_wp2
 go_ret
 exact⟨by first|rfl|(simp;done)|(simp[*];done),by repeat(first|exact aU.refl _|apply aU.step)⟩
def dU.f(a0:Int)(a1:Int)(a2:Int):Option (Bool):=if a1<=a0 then(some (decide (a0<=a2))) else(some false)
set_option maxHeartbeats 8000000 in
theorem dU.calls(a0:Int)(a1:Int)(a2:Int)(r:Bool)(w:World)(h:dU.f a0 a1 a2=some r):
  Calls Tryz.prog 220 #[.int .i64 a0,.int .i64 a1,.int .i64 a2] w λe w'=>e= .returned (.bool r)/\aU w w':=by
 have H:(if a1<=a0 then(some (decide (a0<=a2))) else(some false))=some r:=h
 clear h
 by_cases c4:a1<=a0
 .rw[if_pos c4] at H
  have rO:decide (a1<=a0)=true:=decide_eq_true c4
  clear c4
  obtain rfl:=Option.some.inj H
  go_enter Tryz.func220,Tryz.ntmps220
  go_wp2
  go_ret
  exact⟨by first|rfl|(simp;done)|(simp[*];done),by repeat(first|exact aU.refl _|apply aU.step)⟩
 .rw[if_neg c4] at H
  have rO:decide (a1<=a0)=false:=decide_eq_false c4
  clear c4
  obtain rfl:=Option.some.inj H
  go_enter Tryz.func220,Tryz.ntmps220
  go_wp2
  go_ret
  exact⟨by first|rfl|(simp;done)|(simp[*];done),by repeat(first|exact aU.refl _|apply aU.step)⟩
def mG.f(a0:Int):Option (Bool):=(dU.f a0 2 100).bind λt103=>(some t103)
set_option maxHeartbeats 8000000 in
theorem mG.calls(a0:Int)(r:Bool)(w:World)(h:mG.f a0=some r):
  Calls Tryz.prog 153 #[.int .i64 a0] w λe w'=>e= .returned (.bool r)/\aU w w':=by
 have H:((dU.f a0 2 100).bind λt103=>(some t103))=some r:=h
 clear h
 replace H:=Option.bind_eq_some_iff.mp H
 obtain⟨t103,JO,H⟩:=H
 replace H:(some t103)=some r:=H
 have A2:=aa.mk JO
 clear JO
 obtain rfl:=Option.some.inj H
 go_enter Tryz.func153,Tryz.ntmps153
 go_wp2_with (first|((with_reducible refine iE (f:=220) rfl ?_);refine qz (some 4) rfl rfl Tryz.func220 (by kernel_rfl) rfl #[.int .i64 a0,.int .i64 2,.int .i64 100] rfl (by(try simp only[List.map_toArray,List.map_cons,List.map_nil]);first|done|rfl|(simp only[List.length_drop,List.length_take];rfl)) ?_;(with_reducible refine(dU.calls a0 2 100 t103 _ A2.out).mono ?_);rintro e w' ⟨rfl,⟨nd,rfl⟩⟩;refine⟨_,rfl,?_⟩))
 go_ret
 exact⟨by first|rfl|(simp;done)|(simp[*];done),by repeat(first|exact aU.refl _|apply aU.step)⟩
def qf.f(a0:Int)(a1:Int):Option (Int):=some (mx (wrap64 (a0-a1)) (wrap64 (a1-a0)))
set_option maxHeartbeats 8000000 in
theorem qf.calls(a0:Int)(a1:Int)(r:Int)(w:World)(h:qf.f a0 a1=some r):
  Calls Tryz.prog 158 #[.int .i64 a0,.int .i64 a1] w λe w'=>e= .returned (.int .i64 r)/\Below w.heap.size w w':=by
 have HB:=aa.mk (Below.refl w.heap.size w)
 have H:(some (mx (wrap64 (a0-a1)) (wrap64 (a1-a0))))=some r:=h
 clear h
 obtain⟨ji3,QU⟩:∃j_:Int,(mx (wrap64 (a0-a1)) (wrap64 (a1-a0)))=j_:=⟨_,rfl⟩
 replace H:(some ji3)=some r:=by first|(rw[QU] at H;exact H)|(simp only[QU] at H ⊢;exact H)
 have aio:(if(wrap64 (a0-a1))<(wrap64 (a1-a0)) then(wrap64 (a1-a0)) else(wrap64 (a0-a1)))=ji3:=QU
 obtain rfl:=Option.some.inj H
 go_enter Tryz.func158,Tryz.ntmps158
 go_wp2
 go_ret
 exact⟨by first|rfl|(simp[bn,bg]<;>rfl)|(simp only[<- QU];first|rfl|(simp[bn,bg]<;>rfl))|(simp[*,bn,bg]<;>rfl),by repeat(first|(with_reducible first|exact HB.out|apply ae|apply ag|apply ak)|exact HB.out)⟩
def gN.f(a0:Int)(a1:Int)(a2:Int):Option (Bool):=if a1<=a0 then(some (decide (a0<=a2))) else(some false)
set_option maxHeartbeats 8000000 in
theorem gN.calls(a0:Int)(a1:Int)(a2:Int)(r:Bool)(w:World)(h:gN.f a0 a1 a2=some r):
  Calls Tryz.prog 201 #[.int .i64 a0,.int .i64 a1,.int .i64 a2] w λe w'=>e= .returned (.bool r)/\aU w w':=by
 have H:(if a1<=a0 then(some (decide (a0<=a2))) else(some false))=some r:=h
 clear h
 by_cases c4:a1<=a0
 .rw[if_pos c4] at H
  have rO:decide (a1<=a0)=true:=decide_eq_true c4
  clear c4
  obtain rfl:=Option.some.inj H
  go_enter Tryz.func201,Tryz.ntmps201
  go_wp2
  go_ret
  exact⟨by first|rfl|(simp;done)|(simp[*];done),by repeat(first|exact aU.refl _|apply aU.step)⟩
 .rw[if_neg c4] at H
  have rO:decide (a1<=a0)=false:=decide_eq_false c4
  clear c4
  obtain rfl:=Option.some.inj H
  go_enter Tryz.func201,Tryz.ntmps201
  go_wp2
  go_ret
  exact⟨by first|rfl|(simp;done)|(simp[*];done),by repeat(first|exact aU.refl _|apply aU.step)⟩
def kV.f(a0:Int):Option (Bool):=(gN.f a0 0 10000).bind λt106=>(some t106)
set_option maxHeartbeats 8000000 in
theorem kV.calls(a0:Int)(r:Bool)(w:World)(h:kV.f a0=some r):
  Calls Tryz.prog 200 #[.int .i64 a0] w λe w'=>e= .returned (.bool r)/\aU w w':=by
 have H:((gN.f a0 0 10000).bind λt106=>(some t106))=some r:=h
 clear h
 replace H:=Option.bind_eq_some_iff.mp H
 obtain⟨t106,JO,H⟩:=H
 replace H:(some t106)=some r:=H
 have A2:=aa.mk JO
 clear JO
 obtain rfl:=Option.some.inj H
 go_enter Tryz.func200,Tryz.ntmps200
 go_wp2_with (first|((with_reducible refine iE (f:=201) rfl ?_);refine qz (some 4) rfl rfl Tryz.func201 (by kernel_rfl) rfl #[.int .i64 a0,.int .i64 0,.int .i64 10000] rfl (by(try simp only[List.map_toArray,List.map_cons,List.map_nil]);first|done|rfl|(simp only[List.length_drop,List.length_take];rfl)) ?_;(with_reducible refine(gN.calls a0 0 10000 t106 _ A2.out).mono ?_);rintro e w' ⟨rfl,⟨nd,rfl⟩⟩;refine⟨_,rfl,?_⟩))
 go_ret
 exact⟨by first|rfl|(simp;done)|(simp[*];done),by repeat(first|exact aU.refl _|apply aU.step)⟩
def cK.l0:Nat->Int->List Int->Int->Int->Option (Int)
 |0,_,_,_,_=>none
 |k+1,x2,x5,x6,x7=>if x7<x6 then(if 0<=x7 then(if x7<(x5.length:Int) then(cK.l0 k (wrap64 (x2+(rd x5 x7))) x5 x6 (wrap64 (x7+1))) else(none)) else(none)) else(some x2)
def cK.f(k:Nat)(l0:List Int):Option (Int):=cK.l0 k 0 l0 (l0.length:Int) 0
set_option maxHeartbeats 8000000 in
theorem cK.calls(k:Nat)(A0:Option Addr)(c0:Nat)(l0:List Int)(r:Int)(w:World)(hr0:Kd.C (Kd.int .i64) w A0 l0.length l0)(hc0:l0.length<=c0)(h:cK.f k l0=some r):
  Calls Tryz.prog 72 #[.slice A0 l0.length c0] w λe w'=>e= .returned (.int .i64 r)/\aU w w':=by
 have Iw:=aa.mk hr0
 have R7:=aa.mk hc0
 clear hr0 hc0
 have H:(cK.l0 k 0 l0 (l0.length:Int) 0)=some r:=h
 clear h
 have H':=aa.mk H
 clear H
 go_enter Tryz.func72,Tryz.ntmps72
 go_wp2
 go_loopg [2,7] k (λkq v2 v7 w'=>∃(qQ:Int) (uk:Int),v2= .int .i64 qQ/\v7= .int .i64 uk/\aa (cK.l0 kq qQ l0 (l0.length:Int) uk=some r)/\aa (kq<=k)/\aU w w')
 case atStart=>exact⟨(0),(0),(by first|rfl|(simp;done)|(simp[*];done)),(by first|rfl|(simp;done)|(simp[*];done)),H',⟨Nat.le_refl _⟩,by repeat(first|exact aU.refl _|apply aU.step)⟩
 case round=>
  clear H'
  obtain⟨qQ,uk,rfl,rfl,HA,pX,⟨m1,rfl⟩⟩:=hrel
  cases gk with
  |zero=>exact absurd HA.out (by simp[cK.l0])
  |succ k1=>
   have H:=HA.out
   clear HA
   simp only[cK.l0] at H
   by_cases c2:uk<(l0.length:Int)
   .rw[if_pos c2] at H
    have Dr:decide (uk<(l0.length:Int))=true:=decide_eq_true c2
    clear c2
    by_cases c3:0<=uk
    .rw[if_pos c3] at H
     have wo:decide (0<=uk)=true:=decide_eq_true c3
     clear c3
     by_cases c4:uk<(l0.length:Int)
     .rw[if_pos c4] at H
      have rO:decide (uk<(l0.length:Int))=true:=decide_eq_true c4
      clear c4
      have H':=aa.mk H
      clear H
      have UI:0<=(uk:Int):=of_decide_eq_true (by first|(with_reducible assumption)|assumption)
      have UB:uk<(l0.length:Int):=of_decide_eq_true (by first|(with_reducible assumption)|assumption)
      obtain⟨aiW,e109,abA⟩:=Kd.gu Iw.out uk UI UB
      cases e109
      replace UI:=eq_true UI
      replace UB:=eq_true UB
      go_wp2
      go_roundg k1
      case measure=>have:=pX.out;omega
      case rel=>exact⟨(wrap64 (qQ+(rd l0 uk))),(wrap64 (uk+1)),(by first|rfl|(simp;done)|(simp[*];done)),(by first|rfl|(simp;done)|(simp[*];done)),H',⟨by have:=pX.out;omega⟩,by repeat(first|exact aU.refl _|apply aU.step)⟩
     .rw[if_neg c4] at H
      exact absurd H (by simp)
    .rw[if_neg c3] at H
     exact absurd H (by simp)
   .rw[if_neg c2] at H
    have Dr:decide (uk<(l0.length:Int))=false:=decide_eq_false c2
    clear c2
    obtain rfl:=Option.some.inj H
    go_wp2
    go_ret
    exact⟨by first|rfl|(simp;done)|(simp[*];done),by repeat(first|exact aU.refl _|apply aU.step)⟩
def jJ.f(a0:Int):Option (Bool):=(dU.f a0 0 10000).bind λt110=>(some t110)
set_option maxHeartbeats 8000000 in
theorem jJ.calls(a0:Int)(r:Bool)(w:World)(h:jJ.f a0=some r):
  Calls Tryz.prog 219 #[.int .i64 a0] w λe w'=>e= .returned (.bool r)/\aU w w':=by
 have H:((dU.f a0 0 10000).bind λt110=>(some t110))=some r:=h
 clear h
 replace H:=Option.bind_eq_some_iff.mp H
 obtain⟨t110,JO,H⟩:=H
 replace H:(some t110)=some r:=H
 have A2:=aa.mk JO
 clear JO
 obtain rfl:=Option.some.inj H
 go_enter Tryz.func219,Tryz.ntmps219
 go_wp2_with (first|((with_reducible refine iE (f:=220) rfl ?_);refine qz (some 4) rfl rfl Tryz.func220 (by kernel_rfl) rfl #[.int .i64 a0,.int .i64 0,.int .i64 10000] rfl (by(try simp only[List.map_toArray,List.map_cons,List.map_nil]);first|done|rfl|(simp only[List.length_drop,List.length_take];rfl)) ?_;(with_reducible refine(dU.calls a0 0 10000 t110 _ A2.out).mono ?_);rintro e w' ⟨rfl,⟨nd,rfl⟩⟩;refine⟨_,rfl,?_⟩))
 go_ret
 exact⟨by first|rfl|(simp;done)|(simp[*];done),by repeat(first|exact aU.refl _|apply aU.step)⟩
def dW.f(bu:Int)(bF:Int)(a1:Int)(a2:Int):Option (Bool):=if a1<=bu then(if bu<=bF then(some (decide (bF<=a2))) else(some false)) else(some false)
set_option maxHeartbeats 8000000 in
theorem dW.calls(bu:Int)(bF:Int)(a1:Int)(a2:Int)(r:Bool)(w:World)(h:dW.f bu bF a1 a2=some r):
  Calls Tryz.prog 268 #[.agg #[.int .i64 bu,.int .i64 bF],.int .i64 a1,.int .i64 a2] w λe w'=>e= .returned (.bool r)/\Below w.heap.size w w':=by
 have Yk:=Tryz.underlying151
 have HB:=aa.mk (Below.refl w.heap.size w)
 have H:(if a1<=bu then(if bu<=bF then(some (decide (bF<=a2))) else(some false)) else(some false))=some r:=h
 clear h
 by_cases c4:a1<=bu
 .rw[if_pos c4] at H
  have rO:decide (a1<=bu)=true:=decide_eq_true c4
  clear c4
  by_cases c5:bu<=bF
  .rw[if_pos c5] at H
   have OL:decide (bu<=bF)=true:=decide_eq_true c5
   clear c5
   obtain rfl:=Option.some.inj H
   go_enter Tryz.func268,Tryz.ntmps268
   go_wp2_with (first|((with_reducible refine dM (N:=3) rfl ?_);refine ek ?hg (N:=3) ?hd (cs:=#[.int .i64 bu,.int .i64 bF]) (t:=151) ?hr ?_;(case hd=>rfl);(case hg=>rfl);(case hr=>first|(go_simp;done)|(go_simp;rfl));intro oC hg w6 fK hb;have ic:=aa.mk (bZ (by repeat(first|(with_reducible first|exact HB.out|apply ae|apply ag|apply ak)|exact HB.out)) hb);have ib:=aa.mk (fK);have iU:=aa.mk ((by rw[hg];exact(aT (by repeat(first|(with_reducible first|exact HB.out|apply ae|apply ag|apply ak)|exact HB.out))):w.heap.size<=oC));have jR:=aa.mk ((by rw[hg];exact(aT (by repeat(first|(with_reducible first|exact HB.out|apply ae|apply ag|apply ak)|exact HB.out))):w.heap.size<=oC));clear HB;have HB:=ic;have oJ:=ib;have Ug:=iU;have FQ:=jR;clear ic ib iU jR;clear hb fK hg;have Vj:w6.cell? ⟨oC,0,none⟩=some (.int .i64 bu):=(av oJ.out 0).trans rfl;have Vi:w6.cell? ⟨oC,1,none⟩=some (.int .i64 bF):=(av oJ.out 1).trans rfl;have U9:=aA oJ.out 0;have U8:=aA oJ.out 1))
   go_ret
   exact⟨by first|rfl|(simp[bn,bg]<;>rfl)|(simp[*,bn,bg]<;>rfl),by repeat(first|(with_reducible first|exact HB.out|apply ae|apply ag|apply ak|refine aJ ?_ FQ.out)|exact HB.out)⟩
  .rw[if_neg c5] at H
   have OL:decide (bu<=bF)=false:=decide_eq_false c5
   clear c5
   obtain rfl:=Option.some.inj H
   go_enter Tryz.func268,Tryz.ntmps268
   go_wp2_with (first|((with_reducible refine dM (N:=3) rfl ?_);refine ek ?hg (N:=3) ?hd (cs:=#[.int .i64 bu,.int .i64 bF]) (t:=151) ?hr ?_;(case hd=>rfl);(case hg=>rfl);(case hr=>first|(go_simp;done)|(go_simp;rfl));intro oC hg w8 fK hb;have ic:=aa.mk (bZ (by repeat(first|(with_reducible first|exact HB.out|apply ae|apply ag|apply ak)|exact HB.out)) hb);have ib:=aa.mk (fK);have iU:=aa.mk ((by rw[hg];exact(aT (by repeat(first|(with_reducible first|exact HB.out|apply ae|apply ag|apply ak)|exact HB.out))):w.heap.size<=oC));have jR:=aa.mk ((by rw[hg];exact(aT (by repeat(first|(with_reducible first|exact HB.out|apply ae|apply ag|apply ak)|exact HB.out))):w.heap.size<=oC));clear HB;have HB:=ic;have oJ:=ib;have Ug:=iU;have FQ:=jR;clear ic ib iU jR;clear hb fK hg;have Ha:w8.cell? ⟨oC,0,none⟩=some (.int .i64 bu):=(av oJ.out 0).trans rfl;have G9:w8.cell? ⟨oC,1,none⟩=some (.int .i64 bF):=(av oJ.out 1).trans rfl;have G6:=aA oJ.out 0;have G5:=aA oJ.out 1))
   go_ret
   exact⟨by first|rfl|(simp[bn,bg]<;>rfl)|(simp[*,bn,bg]<;>rfl),by repeat(first|(with_reducible first|exact HB.out|apply ae|apply ag|apply ak|refine aJ ?_ FQ.out)|exact HB.out)⟩
 .rw[if_neg c4] at H
  have rO:decide (a1<=bu)=false:=decide_eq_false c4
  clear c4
  obtain rfl:=Option.some.inj H
  go_enter Tryz.func268,Tryz.ntmps268
  go_wp2_with (first|((with_reducible refine dM (N:=3) rfl ?_);refine ek ?hg (N:=3) ?hd (cs:=#[.int .i64 bu,.int .i64 bF]) (t:=151) ?hr ?_;(case hd=>rfl);(case hg=>rfl);(case hr=>first|(go_simp;done)|(go_simp;rfl));intro oC hg w10 fK hb;have ic:=aa.mk (bZ (by repeat(first|(with_reducible first|exact HB.out|apply ae|apply ag|apply ak)|exact HB.out)) hb);have ib:=aa.mk (fK);have iU:=aa.mk ((by rw[hg];exact(aT (by repeat(first|(with_reducible first|exact HB.out|apply ae|apply ag|apply ak)|exact HB.out))):w.heap.size<=oC));have jR:=aa.mk ((by rw[hg];exact(aT (by repeat(first|(with_reducible first|exact HB.out|apply ae|apply ag|apply ak)|exact HB.out))):w.heap.size<=oC));clear HB;have HB:=ic;have oJ:=ib;have Ug:=iU;have FQ:=jR;clear ic ib iU jR;clear hb fK hg;have acL:w10.cell? ⟨oC,0,none⟩=some (.int .i64 bu):=(av oJ.out 0).trans rfl;have acK:w10.cell? ⟨oC,1,none⟩=some (.int .i64 bF):=(av oJ.out 1).trans rfl;have acb:=aA oJ.out 0;have aca:=aA oJ.out 1))
  go_ret
  exact⟨by first|rfl|(simp[bn,bg]<;>rfl)|(simp[*,bn,bg]<;>rfl),by repeat(first|(with_reducible first|exact HB.out|apply ae|apply ag|apply ak|refine aJ ?_ FQ.out)|exact HB.out)⟩
def rX.f(bu:Int)(bF:Int):Option (Bool):=(dW.f bu bF 0 50).bind λt123=>(some t123)
set_option maxHeartbeats 8000000 in
theorem rX.calls(bu:Int)(bF:Int)(r:Bool)(w:World)(h:rX.f bu bF=some r):
  Calls Tryz.prog 208 #[.agg #[.int .i64 bu,.int .i64 bF]] w λe w'=>e= .returned (.bool r)/\Below w.heap.size w w':=by
 have Yk:=Tryz.underlying151
 have HB:=aa.mk (Below.refl w.heap.size w)
 have H:((dW.f bu bF 0 50).bind λt123=>(some t123))=some r:=h
 clear h
 replace H:=Option.bind_eq_some_iff.mp H
 obtain⟨t123,JO,H⟩:=H
 replace H:(some t123)=some r:=H
 have A2:=aa.mk JO
 clear JO
 obtain rfl:=Option.some.inj H
 go_enter Tryz.func208,Tryz.ntmps208
 go_wp2_with (first|((with_reducible refine dM (N:=1) rfl ?_);refine ek ?hg (N:=1) ?hd (cs:=#[.int .i64 bu,.int .i64 bF]) (t:=151) ?hr ?_;(case hd=>rfl);(case hg=>rfl);(case hr=>first|(go_simp;done)|(go_simp;rfl));intro EZ hg w3 fK hb;have ic:=aa.mk (bZ (by repeat(first|(with_reducible first|exact HB.out|apply ae|apply ag|apply ak)|exact HB.out)) hb);have ib:=aa.mk (fK);have iU:=aa.mk ((by rw[hg];exact(aT (by repeat(first|(with_reducible first|exact HB.out|apply ae|apply ag|apply ak)|exact HB.out))):w.heap.size<=EZ));have jR:=aa.mk ((by rw[hg];exact(aT (by repeat(first|(with_reducible first|exact HB.out|apply ae|apply ag|apply ak)|exact HB.out))):w.heap.size<=EZ));clear HB;have HB:=ic;have Ah:=ib;have ajQ:=iU;have Uh:=jR;clear ic ib iU jR;clear hb fK hg;have Oh:w3.cell? ⟨EZ,0,none⟩=some (.int .i64 bu):=(av Ah.out 0).trans rfl;have Og:w3.cell? ⟨EZ,1,none⟩=some (.int .i64 bF):=(av Ah.out 1).trans rfl;have NW:=aA Ah.out 0;have NV:=aA Ah.out 1)|((with_reducible refine iE (f:=268) rfl ?_);refine qz (some 4) rfl rfl Tryz.func268 (by kernel_rfl) rfl #[.agg #[.int .i64 bu,.int .i64 bF],.int .i64 0,.int .i64 50] rfl (by(try simp only[List.map_toArray,List.map_cons,List.map_nil]);first|done|rfl|(simp only[List.length_drop,List.length_take];rfl)) ?_;(with_reducible refine(dW.calls bu bF 0 50 t123 _ A2.out).mono ?_);rintro e w5 ⟨rfl,hb⟩;refine⟨_,rfl,?_⟩;have ic:=aa.mk (gT (g:=EZ) (o:= .cells #[.int .i64 bu,.int .i64 bF] 151 (0,0)) (by(with_reducible repeat(first|refine aG ?_ _|refine aI ?_|refine ay ?_ _));exact Ah.out) hb);have ib:=aa.mk (bZ (by repeat(first|(with_reducible first|exact HB.out|apply ae|apply ag|apply ak|refine aJ ?_ Uh.out)|exact HB.out)) hb);clear Ah;clear HB;have Ah:=ic;have HB:=ib;clear ic ib;(try clear hb);(try clear hb2);(try clear hk);(try clear hi)))
 go_ret
 exact⟨by first|rfl|(simp[bn,bg]<;>rfl)|(simp[*,bn,bg]<;>rfl),by repeat(first|(with_reducible first|exact HB.out|apply ae|apply ag|apply ak|refine aJ ?_ Uh.out)|exact HB.out)⟩
def dP.l0:Nat->List Int->Int->Option (Bool)
 |0,_,_=>none
 |k+1,x0,x3=>if x3<(x0.length:Int) then(if 0<=x3 then(if 0<=(wrap64 (x3-1)) then(if(wrap64 (x3-1))<(x0.length:Int) then(if(rd x0 x3)<=(rd x0 (wrap64 (x3-1))) then(some false) else(dP.l0 k x0 (wrap64 (x3+1)))) else(none)) else(none)) else(none)) else(some true)
def dP.f(k:Nat)(l0:List Int):Option (Bool):=dP.l0 k l0 1
set_option maxHeartbeats 8000000 in
theorem dP.calls(k:Nat)(A0:Option Addr)(c0:Nat)(l0:List Int)(r:Bool)(w:World)(hr0:Kd.C (Kd.int .i64) w A0 l0.length l0)(hc0:l0.length<=c0)(h:dP.f k l0=some r):
  Calls Tryz.prog 136 #[.slice A0 l0.length c0] w λe w'=>e= .returned (.bool r)/\aU w w':=by
 have Iw:=aa.mk hr0
 have R7:=aa.mk hc0
 clear hr0 hc0
 have H:(dP.l0 k l0 1)=some r:=h
 clear h
 have H':=aa.mk H
 clear H
 go_enter Tryz.func136,Tryz.ntmps136
 go_wp2
 repeat(go_quiet (fail);try go_wp2)
 go_loopg [3] k (λkq v3 w'=>∃(nU:Int),v3= .int .i64 nU/\aa (dP.l0 kq l0 nU=some r)/\aa (kq<=k)/\aU w w')
 case atStart=>exact⟨(1),(by first|rfl|(simp;done)|(simp[*];done)),H',⟨Nat.le_refl _⟩,by repeat(first|exact aU.refl _|apply aU.step)⟩
 case round=>
  clear H'
  (try clear c1)
  obtain⟨nU,rfl,HA,pX,⟨m1,rfl⟩⟩:=hrel
  cases gk with
  |zero=>exact absurd HA.out (by simp[dP.l0])
  |succ k1=>
   have H:=HA.out
   clear HA
   simp only[dP.l0] at H
   by_cases c2:nU<(l0.length:Int)
   .rw[if_pos c2] at H
    have Dr:decide (nU<(l0.length:Int))=true:=decide_eq_true c2
    clear c2
    by_cases c3:0<=nU
    .rw[if_pos c3] at H
     have wo:decide (0<=nU)=true:=decide_eq_true c3
     clear c3
     obtain⟨AZ,Bb⟩:∃j_:Int,(wrap64 (nU-1))=j_:=⟨_,rfl⟩
     replace H:(if 0<=(AZ) then(if(AZ)<(l0.length:Int) then(if(rd l0 nU)<=(rd l0 (AZ)) then(some false) else(dP.l0 k1 l0 (wrap64 (nU+1)))) else(none)) else(none))=some r:=by first|(rw[Bb] at H;exact H)|(simp only[Bb] at H ⊢;exact H)
     have aim:(IntKind.i64.wrap (nU-1))=AZ:=(cB _).trans Bb
     by_cases c5:0<=(AZ)
     .rw[if_pos c5] at H
      have OL:decide (0<=(AZ))=true:=decide_eq_true c5
      clear c5
      by_cases c6:(AZ)<(l0.length:Int)
      .rw[if_pos c6] at H
       have Rv:decide ((AZ)<(l0.length:Int))=true:=decide_eq_true c6
       clear c6
       by_cases c7:(rd l0 nU)<=(rd l0 (AZ))
       .rw[if_pos c7] at H
        have yt:decide ((rd l0 nU)<=(rd l0 (AZ)))=true:=decide_eq_true c7
        clear c7
        obtain rfl:=Option.some.inj H
        have GD:0<=(nU:Int):=of_decide_eq_true (by first|(with_reducible assumption)|assumption)
        have Gu:nU<(l0.length:Int):=of_decide_eq_true (by first|(with_reducible assumption)|assumption)
        obtain⟨O6,e127,QR⟩:=Kd.gu Iw.out nU GD Gu
        cases e127
        replace GD:=eq_true GD
        replace Gu:=eq_true Gu
        have GC:0<=((AZ):Int):=of_decide_eq_true (by first|(with_reducible assumption)|assumption)
        have Gt:(AZ)<(l0.length:Int):=of_decide_eq_true (by first|(with_reducible assumption)|assumption)
        obtain⟨O5,e128,QQ⟩:=Kd.gu Iw.out (AZ) GC Gt
        obtain rfl:O6=O5:=(by injection e128)
        replace GC:=eq_true GC
        replace Gt:=eq_true Gt
        go_wp2
        repeat(go_quiet (fail);try go_wp2)
        go_ret
        exact⟨by first|rfl|(simp;done)|(simp only[<- Bb]<;>(first|rfl|simp))|(simp[*];done),by repeat(first|exact aU.refl _|apply aU.step)⟩
       .rw[if_neg c7] at H
        have yt:decide ((rd l0 nU)<=(rd l0 (AZ)))=false:=decide_eq_false c7
        clear c7
        have H':=aa.mk H
        clear H
        have GD:0<=(nU:Int):=of_decide_eq_true (by first|(with_reducible assumption)|assumption)
        have Gu:nU<(l0.length:Int):=of_decide_eq_true (by first|(with_reducible assumption)|assumption)
        obtain⟨O6,e127,QR⟩:=Kd.gu Iw.out nU GD Gu
        cases e127
        replace GD:=eq_true GD
        replace Gu:=eq_true Gu
        have GC:0<=((AZ):Int):=of_decide_eq_true (by first|(with_reducible assumption)|assumption)
        have Gt:(AZ)<(l0.length:Int):=of_decide_eq_true (by first|(with_reducible assumption)|assumption)
        obtain⟨O5,e128,QQ⟩:=Kd.gu Iw.out (AZ) GC Gt
        obtain rfl:O6=O5:=(by injection e128)
        replace GC:=eq_true GC
        replace Gt:=eq_true Gt
        go_wp2
        repeat(go_quiet (fail);try go_wp2)
        go_roundg k1
        case measure=>have:=pX.out;omega
        case rel=>exact⟨(wrap64 (nU+1)),(by first|rfl|(simp;done)|(simp[*];done)),H',⟨by have:=pX.out;omega⟩,by repeat(first|exact aU.refl _|apply aU.step)⟩
      .rw[if_neg c6] at H
       exact absurd H (by simp)
     .rw[if_neg c5] at H
      exact absurd H (by simp)
    .rw[if_neg c3] at H
     exact absurd H (by simp)
   .rw[if_neg c2] at H
    have Dr:decide (nU<(l0.length:Int))=false:=decide_eq_false c2
    clear c2
    obtain rfl:=Option.some.inj H
    go_wp2
    repeat(go_quiet (fail);try go_wp2)
    go_ret
    exact⟨by first|rfl|(simp;done)|(simp[*];done),by repeat(first|exact aU.refl _|apply aU.step)⟩
def kD.f(a0:Int)(a1:Int):Option (Bool):=if 0<=a1 then(some ((Go.bits .and .i64 (shr .i64 a0 a1) 1)==1)) else(none)
set_option maxHeartbeats 8000000 in
theorem kD.calls(a0:Int)(a1:Int)(r:Bool)(w:World)(h:kD.f a0 a1=some r):
  Calls Tryz.prog 272 #[.int .i64 a0,.int .i64 a1] w λe w'=>e= .returned (.bool r)/\aU w w':=by
 have H:(if 0<=a1 then(some ((Go.bits .and .i64 (shr .i64 a0 a1) 1)==1)) else(none))=some r:=h
 clear h
 by_cases c3:0<=a1
 .rw[if_pos c3] at H
  have wo:=eq_true c3
  have Wd:decide (0<=a1)=true:=decide_eq_true c3
  clear c3
  obtain⟨AZ,Bb⟩:∃j_:Int,(shr .i64 a0 a1)=j_:=⟨_,rfl⟩
  replace H:(some ((Go.bits .and .i64 (AZ) 1)==1))=some r:=by first|(rw[Bb] at H;exact H)|(simp only[Bb] at H ⊢;exact H)
  have ain:(a0/2^min a1.toNat 64)=AZ:=Bb
  have ail:a1<=64->(a0/2^a1.toNat)=AZ:=JZ Bb
  obtain rfl:=Option.some.inj H
  go_enter Tryz.func272,Tryz.ntmps272
  go_wp2
  go_ret
  exact⟨by first|rfl|(simp;done)|(simp only[<- Bb]<;>(first|rfl|simp))|(simp[*];done),by repeat(first|exact aU.refl _|apply aU.step)⟩
 .rw[if_neg c3] at H
  exact absurd H (by simp)
def bK.l0:Nat->Int->List Int->Int->Option (List Int)
 |0,_,_,_=>none
 |k+1,x0,x2,x4=>if x4<8 then((kD.f x0 x4).bind λt129=>(if t129=true then(if x2.length<17592186044416 then(bK.l0 k x0 (x2++[x4]) (wrap64 (x4+1))) else(none)) else(bK.l0 k x0 x2 (wrap64 (x4+1))))) else(some x2)
def bK.f(k:Nat)(a0:Int):Option (List Int):=bK.l0 k a0 ([]:List Int) 0
set_option maxHeartbeats 8000000 in
theorem bK.calls(k:Nat)(a0:Int)(r:List Int)(w:World)(h:bK.f k a0=some r):
  Calls Tryz.prog 215 #[.int .i64 a0] w λe w'=>∃Ql:Value,e= .returned (Ql)/\Kd.R (Kd.int .i64) 3 w' w.heap.size (λ_=>True) Ql r/\Below w.heap.size w w':=by
 have HB:=aa.mk (Below.refl w.heap.size w)
 have H:(bK.l0 k a0 ([]:List Int) 0)=some r:=h
 clear h
 have H':=aa.mk H
 clear H
 go_enter Tryz.func215,Tryz.ntmps215
 go_wp2
 go_loopg [2,4] k (λkq v2 v4 w'=>∃(qQ:List Int) (eF:Int),v4= .int .i64 eF/\aa (bK.l0 kq a0 qQ eF=some r)/\aa (kq<=k)/\aa (Kd.R (Kd.int .i64) 3 w' w.heap.size (λ_=>True) v2 qQ)/\aa (Below w.heap.size w w'))
 case atStart=>exact⟨(([]:List Int)),(0),(by first|rfl|(simp;done)|(simp[*];done)),H',⟨Nat.le_refl _⟩,⟨by first|exact Kd.iH _ _ _ _ _|exact Kd.JC _ _ _ _ _|exact Kd.Js _ _ _ _ _|exact Kd.JA _ _ _ _ _|exact Kd.Jv _ _ _ _ _⟩,⟨by repeat(first|(with_reducible first|exact HB.out|apply ae|apply ag|apply ak)|exact HB.out)⟩⟩
 case round=>
  clear H'
  obtain⟨qQ,eF,rfl,HA,pX,RY,HB⟩:=hrel
  cases gk with
  |zero=>exact absurd HA.out (by simp[bK.l0])
  |succ k1=>
   have H:=HA.out
   clear HA
   simp only[bK.l0] at H
   by_cases c2:eF<8
   .rw[if_pos c2] at H
    have Dr:decide (eF<8)=true:=decide_eq_true c2
    clear c2
    replace H:=Option.bind_eq_some_iff.mp H
    obtain⟨t129,Ul,H⟩:=H
    replace H:(if t129=true then(if qQ.length<17592186044416 then(bK.l0 k1 a0 (qQ++[eF]) (wrap64 (eF+1))) else(none)) else(bK.l0 k1 a0 qQ (wrap64 (eF+1))))=some r:=H
    have A3:=aa.mk Ul
    clear Ul
    by_cases c4:t129=true
    .subst c4
     replace H:(if qQ.length<17592186044416 then(bK.l0 k1 a0 (qQ++[eF]) (wrap64 (eF+1))) else(none))=some r:=by rw[if_pos rfl] at H;exact H
     by_cases c5:qQ.length<17592186044416
     .rw[if_pos c5] at H
      have afY:=aa.mk c5
      clear c5
      obtain⟨XK,EL⟩:∃y_:List Int,y_=(qQ++[eF]):=⟨_,rfl⟩
      replace H:(bK.l0 k1 a0 XK (wrap64 (eF+1)))=some r:=by first|(rw[EL];with_reducible exact H)|(have o8:=(Option.bind_some _ _).symm.trans H;rw[EL];with_reducible exact o8)|(have o8:=(Option.bind_some _ _).symm.trans H;with_reducible exact o8)|with_reducible exact H|(rw[EL];exact H)|exact H
      have aae:=aa.mk EL
      clear EL
      have H':=aa.mk H
      clear H
      go_wp2_with (first|((with_reducible refine iE (f:=272) rfl ?_);refine qz (some 9) rfl rfl Tryz.func272 (by kernel_rfl) rfl #[.int .i64 a0,.int .i64 eF] rfl (by(try simp only[List.map_toArray,List.map_cons,List.map_nil]);first|done|rfl|(simp only[List.length_drop,List.length_take];rfl)) ?_;(with_reducible refine(kD.calls a0 eF true _ A3.out).mono ?_);rintro e w' ⟨rfl,⟨nd,rfl⟩⟩;refine⟨_,rfl,?_⟩)|((with_reducible refine dN (b:= .append) (xs:=#[.tmp 10,.tmp 12]) rfl ?_);at_builtin;refine Kd.jF (Kd.int .i64) (w0:=w) w.heap.size rfl (.tmp 10) (.tmp 12) 30 3 (.int .i64 0) 8 rfl Tryz.underlying30 info3 rfl (by decide) (by omega) u2 qQ eF [.int .i64 eF] (λ_=>True) (λ_=>False) rfl rfl ?aP (λ_ hk=>hk.elim) ?aF ?aO ?aB ?aS ?aL ?_;(case aP=>exact rfl);(case aB=>exact(by repeat(first|(with_reducible first|exact HB.out|apply ae|apply ag|apply ak)|exact HB.out)));(case aF=>exact(λ_ _=>trivial));(case aO=>exact(by(with_reducible repeat(first|apply Kd.bH|apply Kd.bQ|apply Kd.bX));exact RY.out));(case aS=>exact(aT (by repeat(first|(with_reducible first|exact HB.out|apply ae|apply ag|apply ak)|exact HB.out))));(case aL=>have:=afY.out;omega);intro v131 w6 ho hb hg hat;rw[<- aae.out] at ho;have ic:=aa.mk (hb);have ib:=aa.mk (ho);clear HB;clear RY;have HB:=ic;have aax:=ib;clear ic ib;clear ho hb hg hat))
      go_roundg k1
      case measure=>have:=pX.out;omega
      case rel=>exact⟨(XK),(wrap64 (eF+1)),(by first|rfl|(simp;done)|(simp[*];done)),H',⟨by have:=pX.out;omega⟩,⟨by(with_reducible repeat(first|apply Kd.bH|apply Kd.bQ|apply Kd.bX));exact aax.out⟩,⟨by repeat(first|(with_reducible first|exact HB.out|apply ae|apply ag|apply ak)|exact HB.out)⟩⟩
     .rw[if_neg c5] at H
      exact absurd H (by simp)
    .replace c4:=Bool.eq_false_iff.mpr c4
     subst c4
     replace H:(bK.l0 k1 a0 qQ (wrap64 (eF+1)))=some r:=by rw[if_neg (show ¬(false=true) by decide)] at H;exact H
     have H':=aa.mk H
     clear H
     go_wp2_with (first|((with_reducible refine iE (f:=272) rfl ?_);refine qz (some 9) rfl rfl Tryz.func272 (by kernel_rfl) rfl #[.int .i64 a0,.int .i64 eF] rfl (by(try simp only[List.map_toArray,List.map_cons,List.map_nil]);first|done|rfl|(simp only[List.length_drop,List.length_take];rfl)) ?_;(with_reducible refine(kD.calls a0 eF false _ A3.out).mono ?_);rintro e w' ⟨rfl,⟨nd,rfl⟩⟩;refine⟨_,rfl,?_⟩))
     go_roundg k1
     case measure=>have:=pX.out;omega
     case rel=>exact⟨(qQ),(wrap64 (eF+1)),(by first|rfl|(simp;done)|(simp[*];done)),H',⟨by have:=pX.out;omega⟩,⟨by(with_reducible repeat(first|apply Kd.bH|apply Kd.bQ|apply Kd.bX));exact RY.out⟩,⟨by repeat(first|(with_reducible first|exact HB.out|apply ae|apply ag|apply ak)|exact HB.out)⟩⟩
   .rw[if_neg c2] at H
    have Dr:decide (eF<8)=false:=decide_eq_false c2
    clear c2
    obtain rfl:=Option.some.inj H
    go_wp2
    go_ret
    exact⟨_,by first|rfl|(simp[bn,bg]<;>rfl)|(simp[*,bn,bg]<;>rfl),by(with_reducible repeat(first|apply Kd.bH|apply Kd.bQ|apply Kd.bX));exact RY.out,by repeat(first|(with_reducible first|exact HB.out|apply ae|apply ag|apply ak)|exact HB.out)⟩
end Go.Proofs.YtdekaocdmjndaaaGreat.ah
namespace Go.Proofs.YtdekaocdmjndaaaGreat
open Go.RowKit YtdekaocdmjndaaaGreatW.aj YtdekaocdmjndaaaGreatW.aH
abbrev I:Bool:=true
abbrev O:Bool:=false
theorem sb0{α:Type}{l:List α}{i:Nat}{a:α}:l.toArray.setIfInBounds i a=(l.set i a).toArray:=by simp
theorem sb1{α:Type}{x a:α}{l:List α}:(x::l).set 0 a=a::l:=rfl
theorem bR{α:Type}{x a:α}{l:List α}{n:Nat}:(x::l).set (n+1) a=x::l.set n a:=rfl
theorem dZ{α:Type}{x:α}{l:List α}:(x::l)[0]?=some x:=rfl
theorem dY{α:Type}{x:α}{l:List α}{n:Nat}:(x::l)[n+1]?=l[n]?:=rfl
theorem bq{P:Program}{md:Region.Mode}{ops:Array Oper}{Q:Exit->Act->World->Prop}{S:World->Prop}{ds:List Nat}{fuel:Nat}{l:Array Bool}{a a':Act}{w:World}{oi:Oper}{v:Value}{T:Bool×List (List Nat×List Nat)}(i N:Nat)(l':Array Bool)
  (hT:aa (eB md ops=T)) (hi:ops[i]?=some oi:=by exact rfl) (hN:oi.dst=some N:=by exact rfl) (hc:RH T l.toList l'.toList i=true:=by kernel_rfl) (hQ:∀c a w,Q (.panic c) (a.put oi.dst v) w->Q (.panic c) a w:=by exact λ_ _ _ h=>h)
  (hw:Region.wanted oi (yielded ops a.tmps)=true:=by rfl) (hy:∀w,(execOp a.eval oi).run P w= .ok (.value v) w:=by(intro w';go_simp;with_reducible rfl))
  (ha:a.put (some N) v=a':=by(simp only[Act.put,sb0,sb1,bR,cB,dX];rfl))
  (h:aQ P md ops Q S ds fuel l' a' w):aQ P md ops Q S ds (fuel+1) l a w:=
 oq l' hi hN (dI hT.out hc) hQ (Or.inl ⟨hw,hy⟩) ha h
theorem fJ{P:Program}{md:Region.Mode}{ops:Array Oper}{Q:Exit->Act->World->Prop}{S:World->Prop}{ds:List Nat}{fuel:Nat}{l:Array Bool}{a a':Act}{w:World}{oi:Oper}{v:Value}{T:Bool×List (List Nat×List Nat)}{B:List Nat}(i N:Nat)(l':Array Bool)
  (hT:aa (eB md ops=T)) (hB:aa (bI T.2 B=true)) (hS:S w) (hi:ops[i]?=some oi:=by exact rfl) (hN:oi.dst=some N:=by exact rfl) (hc:IM T B ds l.toList l'.toList i=true:=by kernel_rfl) (hQ:∀c a w,Q (.panic c) (a.put oi.dst v) w->Q (.panic c) a w:=by exact λ_ _ _ h=>h)
  (hw:Region.wanted oi (yielded ops a.tmps)=true:=by rfl) (hy:∀w,S w->(execOp a.eval oi).run P w= .ok (.value v) w)
  (ha:a.put (some N) v=a':=by(simp only[Act.put,sb0,sb1,bR,cB,dX];rfl))
  (h:aQ P md ops Q S ds fuel l' a' w):aQ P md ops Q S ds (fuel+1) l a w:=
 Mx l' hi hN (DV hT.out hB.out hc) hQ (Or.inl ⟨hw,hy⟩) hS ha h
theorem j4{P:Program}{md:Region.Mode}{ops:Array Oper}{Q:Exit->Act->World->Prop}{S:World->Prop}{ds:List Nat}{fuel:Nat}{l:Array Bool}{a a':Act}{w:World}(h:aQ P md ops Q S ds fuel l a' w)(ha:a=a':=by(simp only[Act.put,sb0,sb1,bR];rfl)):aQ P md ops Q S ds fuel l a w:=aW ha h
end Go.Proofs.YtdekaocdmjndaaaGreat
