import Derived.Test.YtdekaocdmjndaaaGreatQ24
import Derived.Test.YtdekaocdmjndaaaGreatQ32
set_option linter.all false
namespace Go.Proofs.YtdekaocdmjndaaaGreat
open Go.RowKit Go.Shelf ah YtdekaocdmjndaaaGreatW.aj YtdekaocdmjndaaaGreatW.aH YtdekaocdmjndaaaGreatW.eu Ag
namespace Ag
def la.T21:Bool×List (List Nat×List Nat):=(true,[([],[]),([0],[0]),([],[]),([2,1],[2]),([1,3],[1,3]),([4,3],[4]),([5],[5]),([5],[5]),([6,7,5],[5,6,7]),([5,8],[5,8]),([9,5],[9]),([10],[10]),([10],[10]),([11,12,10,10],[10,11,12]),([10,13],[10,13]),([14,13],[14]),([15],[15]),([15],[15]),([16,17,15],[15,16,17]),([15,18],[15,18]),([19,15],[19]),([20],[20]),([20],[20]),([21,22,20,20],[20,21,22]),([20,23],[20,23]),([24,23],[24]),([25],[25]),([25],[25]),([26,27,25],[25,26,27]),([25,28],[25,28]),([29,25],[29]),([30],[30]),([31,30],[30,31]),([30],[30]),([33,30],[30,33]),([32,34,30],[30,32,34]),([30,35],[30,35]),([36,30],[36]),([37],[37]),([37],[37]),([38,39,37],[37,38,39]),([37,40],[37,40]),([41,37],[41]),([42],[42]),([42],[42]),([43,44,42],[42,43,44]),([42,45],[42,45]),([46,42],[46]),([47],[47]),([47],[47]),([48,49,47],[47,48,49]),([47,50],[47,50]),([51,47],[51]),([52],[52]),([52],[52]),([53,54,52,52],[52,53,54]),([52,55],[52,55]),([56,55],[56]),([57],[57]),([57],[57]),([58,59,57,57],[57,58,59]),([57],[57]),([57],[57]),([61,62,60,57],[57,61,62]),([60,63,57],[57,60,63]),([57,64],[57,64]),([65,63],[65]),([66,66],[66]),([66,67],[66,67]),([68,67,0,1,2,3,4,5,6,7,8,9,10,11,12,13,14,15,16,17,18,19,20,21,22,23,24,25,26,27,28,29,30,31,32,33,34,35,36,37,38,39,40,41,42,43,44,45,46,47,48,49,50,51,52,53,54,55,56,57,58,59,60,61,62,63,64,65,66,67,68],[68])])
def la.Cm:List Nat:=[0,1,0,7,15,31,63,63,255,511,1023,2047,2047,8191,16383,32767,65535,65535,262143,524287,1048575,2097151,2097151,8388607,16777215,33554431,67108863,67108863,268435455,536870911,1073741823,2147483647,4294967295,2147483647,10737418239,34359738367,68719476735,137438953471,274877906943,274877906943,1099511627775,2199023255551,4398046511103,8796093022207,8796093022207,35184372088831,70368744177663,140737488355327,281474976710655,281474976710655,1125899906842623,2251799813685247,4503599627370495,9007199254740991,9007199254740991,36028797018963967,72057594037927935,144115188075855871,288230376151711743,288230376151711743,1152921504606846975,288230376151711743,288230376151711743,9223372036854775807,18446744073709551615,36893488147419103231,73786976294838206463,147573952589676412927,295147905179352825855,590295810358705651711]
theorem la.XP:eB .any (opsOf Tryz.f4 21)=la.T21:=by kernel_rfl
theorem la.Wj:bI la.T21.2 la.Cm=true:=by kernel_rfl
def wR:Nat->Code->Code
 |0,c=>c
 |n+1,.seq _ b=>wR n b
 |_,c=>c
def leftOf:Code->Code
 | .seq a _=>a
 |c=>c
def SB:Code->Bool
 | .seq _ _=>true
 |_=>false
theorem xB:∀(n:Nat) (c:Code),SB (wR n c)=true->wR n c= .seq (leftOf (wR n c)) (wR (n+1) c)
 |0,c,h=>by cases c<;>first|rfl|cases h
 |n+1,c,h=>by
  cases c with
  |seq x y=>exact xB n y h
  |_=>cases h
noncomputable def kI(n:Nat):Code:=wR n ((Tryz.f4.body).getD .skip)
def Rn(p2 p3 p4 p5 p9 p11 p13 p14 p15:Value)(u:Nat->Value):Array Value:=#[u 0,u 1,p2,p3,p4,p5,u 6,u 7,u 8,p9,u 10,p11,u 12,p13,p14,p15,u 16,u 17,u 18,u 19,u 20,u 21,u 22,u 23,u 24,u 25,u 26,u 27,u 28,u 29,u 30,u 31,u 32,u 33,u 34,u 35,u 36,u 37,u 38,u 39,u 40,u 41,u 42,u 43,u 44,u 45,u 46,u 47,u 48,u 49,u 50,u 51,u 52,u 53,u 54,u 55,u 56,u 57,u 58,u 59,u 60,u 61,u 62,u 63,u 64,u 65,u 66,u 67,u 68,u 69,u 70,u 71,u 72,u 73,u 74,u 75,u 76,u 77,u 78,u 79,u 80,u 81,u 82,u 83,u 84,u 85,u 86,u 87,u 88,u 89,u 90,u 91,u 92,u 93,u 94,u 95,u 96,u 97,u 98,u 99,u 100,u 101,u 102,u 103,u 104,u 105,u 106,u 107,u 108,u 109,u 110,u 111,u 112,u 113,u 114,u 115,u 116,u 117,u 118,u 119,u 120,u 121,u 122,u 123,u 124,u 125,u 126,u 127,u 128,u 129,u 130,u 131,u 132,u 133,u 134,u 135,u 136,u 137,u 138,u 139,u 140,u 141,u 142,u 143,u 144,u 145,u 146,u 147,u 148,u 149,u 150,u 151,u 152,u 153,u 154,u 155,u 156,u 157,u 158,u 159,u 160,u 161,u 162,u 163,u 164,u 165,u 166,u 167,u 168,u 169,u 170,u 171,u 172,u 173,u 174,u 175,u 176,u 177,u 178,u 179,u 180,u 181,u 182,u 183,u 184,u 185,u 186,u 187,u 188,u 189,u 190,u 191,u 192,u 193,u 194,u 195,u 196,u 197,u 198,u 199,u 200,u 201,u 202,u 203,u 204]
def rC(w0:World):Exit->Act->World->Prop:=bodyPost Tryz.prog Tryz.f4 (λe w'=>e= .returned (.bool true)/\Below w0.heap.size w0 w')
theorem fw(n:Nat){Q:Exit->Act->World->Prop}{a:Act}{w:World}(h:SB (kI n)=true)(hh:∀K:Act->World->Prop,(∀a' w',Code.wp Tryz.prog (kI (n+1)) Q a' w'->K a' w')->Code.wp Tryz.prog (leftOf (kI n)) (Exit.then K Q) a w):Code.wp Tryz.prog (kI n) Q a w:=by
 have e:kI n= .seq (leftOf (kI n)) (kI (n+1)):=xB n _ h
 rw[e]
 exact wp_seq_k hh
structure LQ(w0 w:World)(lo hi lo2 hi2:Int)(ru su:List Ru)(re gU se:List Re)(b13 b14 b15:Nat)(Ya Yc Za Zc Va Vc:Option Addr)(ya yc za zc va vc:Nat):Prop where
 below:Below w0.heap.size w0 w
 m13:aV w b13 [.int .i64 lo,.int .i64 hi,.slice Ya ru.length ya,.slice Yc re.length yc] 67
 m14:aV w b14 [.int .i64 lo,.int .i64 hi,.slice Za ru.length za,.slice Zc gU.length zc] 67
 m15:aV w b15 [.int .i64 lo2,.int .i64 hi2,.slice Va su.length va,.slice Vc se.length vc] 67
 i13:Ao w Ya ya ru Yc yc re
 i14:Ao w Za za ru Zc zc gU
 i15:Ao w Va va su Vc vc se
theorem LQ.later{w0 w:World}{lo hi lo2 hi2:Int}{ru su:List Ru}{re gU se:List Re}{b13 b14 b15:Nat}{Ya Yc Za Zc Va Vc:Option Addr}{ya yc za zc va vc:Nat}{w':World}(h:LQ w0 w lo hi lo2 hi2 ru su re gU se b13 b14 b15 Ya Yc Za Zc Va Vc ya yc za zc va vc)(hb:Below w.heap.size w w'):LQ w0 w' lo hi lo2 hi2 ru su re gU se b13 b14 b15 Ya Yc Za Zc Va Vc ya yc za zc va vc:=
 ⟨h.below.trans (hb.mono h.below.size),h.m13.below hb,h.m14.below hb,h.m15.below hb,h.i13.below hb,h.i14.below hb,h.i15.below hb⟩
set_option maxRecDepth 100000 in
set_option maxHeartbeats 40000000 in
theorem adX{w0 w:World}{lo hi lo2 hi2:Int}{ru su:List Ru}{re gU se:List Re}{b13 b14 b15:Nat}{Ya Yc Za Zc Va Vc:Option Addr}{ya yc za zc va vc:Nat}(day:Int)(a:Act)(ha:a={tmps:=Rn (.int .i64 day) (a.tmps.getD 3 undef) (a.tmps.getD 4 undef) (a.tmps.getD 5 undef) (a.tmps.getD 9 undef) (a.tmps.getD 11 undef) (.pointer (some ⟨b13,0,none⟩)) (.pointer (some ⟨b14,0,none⟩)) (.pointer (some ⟨b15,0,none⟩)) (λi=>a.tmps.getD i undef),defers:=[]})(L:LQ w0 w lo hi lo2 hi2 ru su re gU se b13 b14 b15 Ya Yc Za Zc Va Vc ya yc za zc va vc)(T:wD (⟨⟨lo,hi⟩,ru,re⟩:fe) (⟨⟨lo,hi⟩,ru,gU⟩:fe)):Code.wp Tryz.prog (kI 7) (rC w0) a w:=by
 obtain⟨⟨q1,e1⟩,h1⟩:∃x,fe.mM (⟨⟨lo,hi⟩,ru,re⟩:fe)=x:=⟨_,rfl⟩
 obtain⟨⟨q2,e2⟩,h2⟩:∃x,fe.on (⟨⟨lo,hi⟩,ru,re⟩:fe) day=x:=⟨_,rfl⟩
 obtain⟨⟨q3,e3⟩,h3⟩:∃x,fe.leave (⟨⟨lo,hi⟩,ru,re⟩:fe)=x:=⟨_,rfl⟩
 obtain⟨⟨q3',e3'⟩,h3'⟩:∃x,fe.leave (⟨⟨lo,hi⟩,ru,gU⟩:fe)=x:=⟨_,rfl⟩
 obtain⟨⟨q4,e4⟩,h4⟩:∃x,Xb (fe.bU (⟨⟨lo,hi⟩,ru,re⟩:fe)) (fe.bU (⟨⟨lo2,hi2⟩,su,se⟩:fe))=x:=⟨_,rfl⟩
 obtain⟨⟨q5,e5⟩,h5⟩:∃x,Ur (q4,e4)=x:=⟨_,rfl⟩
 obtain⟨e0,h0⟩:∃x,fe.fault (⟨⟨lo,hi⟩,ru,re⟩:fe)=x:=⟨_,rfl⟩
 obtain⟨pb,hp⟩:∃x,zg (⟨⟨lo,hi⟩,ru,re⟩:fe) day=x:=⟨_,rfl⟩
 have hl:=T.leave
 rw[h3,h3'] at hl
 obtain⟨hl1,hl2⟩:=hl
 replace hl1:e3=e3':=hl1
 replace hl2:q3.length=q3'.length:=hl2
 subst hl1
 have HB1:=aa.mk h1
 have HB2:=aa.mk (T.mM▸h1:fe.mM (⟨⟨lo,hi⟩,ru,gU⟩:fe)=(q1,e1))
 have DD:=aa.mk h2
 have LU:=aa.mk (T.on day▸h2:fe.on (⟨⟨lo,hi⟩,ru,gU⟩:fe) day=(q2,e2))
 have Xo:=aa.mk h3
 have Xn:=aa.mk h3'
 have HVL:=aa.mk hl2
 have HS1:=aa.mk h4
 have HS2:=aa.mk (T.bU▸h4:Xb (fe.bU (⟨⟨lo,hi⟩,ru,gU⟩:fe)) (fe.bU (⟨⟨lo2,hi2⟩,su,se⟩:fe))=(q4,e4))
 have HT:=aa.mk h5
 have HF1:=aa.mk h0
 have qO:=aa.mk (T.fault▸h0:fe.fault (⟨⟨lo,hi⟩,ru,gU⟩:fe)=e0)
 have HP1:=aa.mk hp
 have HP2:=aa.mk (show zg (⟨⟨lo,hi⟩,ru,gU⟩:fe) day=pb by unfold zg at hp ⊢;rw[<- T.bU];exact hp)
 obtain⟨b4,hb4⟩:∃b,(!q4.isEmpty)=b:=⟨_,rfl⟩
 have pY:=aa.mk hb4
 have L0:=aa.mk L
 clear L T h1 h2 h3 h3' h4 h5 h0 hp hl2 hb4
 obtain⟨u,hu⟩:∃u:Nat->Value,a={tmps:=Rn (.int .i64 day) (u 3) (u 4) (u 5) (u 9) (u 11) (.pointer (some ⟨b13,0,none⟩)) (.pointer (some ⟨b14,0,none⟩)) (.pointer (some ⟨b15,0,none⟩)) u,defers:=[]}:=⟨λi=>a.tmps.getD i undef,ha⟩
 clear ha
 subst hu
 unfold Rn
 refine fw 7 (by kernel_rfl) (λK7 hK7=>?_)
 unfold kI
 conv=>arg 2;whnf
 unfold rC
 have kR:=L0.out.m13.cell 0
 have kQ:=L0.out.m13.cell 1
 have kP:=L0.out.m13.cell 2
 have kN:=L0.out.m13.cell 3
 simp only[dZ,dY] at kR kQ kP kN
 go_wp2_with fail
 refine(uj lo hi _ L0.out.i13).mono ?_
 rintro e w1 ⟨v_,rfl,hR,hbx⟩
 rw[HB1.out] at hR ⊢
 dsimp only at hR ⊢
 obtain⟨A1_,c1_,rfl,YK,Y5⟩:=Kd.dB hR
 have L1:=aa.mk (L0.out.later hbx)
 have C1:=aa.mk Y5
 have D1:=aa.mk YK
 clear Y5 YK
 clear hbx L0 kR kQ kP kN hR
 go_wp2_with fail
 refine fw 8 (by kernel_rfl) (λK8 hK8=>?_)
 unfold kI
 conv=>arg 2;whnf
 unfold rC
 have kM:=L1.out.m14.cell 0
 have kL:=L1.out.m14.cell 1
 have kK:=L1.out.m14.cell 2
 have kJ:=L1.out.m14.cell 3
 simp only[dZ,dY] at kM kL kK kJ
 go_wp2_with fail
 refine(uj lo hi _ L1.out.i14).mono ?_
 rintro e w2 ⟨v_,rfl,hR,hbx⟩
 rw[HB2.out] at hR ⊢
 dsimp only at hR ⊢
 obtain⟨A2_,c2_,rfl,YJ,Y4⟩:=Kd.dB hR
 have L2:=aa.mk (L1.out.later hbx)
 replace C1:=aa.mk (Kd.aC C1.out hbx)
 have C2:=aa.mk Y4
 have D2:=aa.mk YJ
 clear Y4 YJ
 clear hbx L1 kM kL kK kJ hR
 go_wp2_with fail
 refine fw 9 (by kernel_rfl) (λK9 YV=>?_)
 unfold kI
 conv=>arg 2;whnf
 unfold rC
 have kR:=L2.out.m13.cell 0
 have kQ:=L2.out.m13.cell 1
 have kP:=L2.out.m13.cell 2
 have kN:=L2.out.m13.cell 3
 simp only[dZ,dY] at kR kQ kP kN
 go_wp2_with fail
 refine(FE lo hi day _ L2.out.i13).mono ?_
 rintro e w3 ⟨v_,rfl,hR,hbx⟩
 rw[DD.out] at hR ⊢
 dsimp only at hR ⊢
 obtain⟨A3_,c3_,rfl,YI,Y3⟩:=Kd.dB hR
 have L3:=aa.mk (L2.out.later hbx)
 replace C1:=aa.mk (Kd.aC C1.out hbx)
 replace C2:=aa.mk (Kd.aC C2.out hbx)
 have C3:=aa.mk Y3
 have D3:=aa.mk YI
 clear Y3 YI
 clear hbx L2 kR kQ kP kN hR
 go_wp2_with fail
 refine fw 10 (by kernel_rfl) (λK10 ali=>?_)
 unfold kI
 conv=>arg 2;whnf
 unfold rC
 have kM:=L3.out.m14.cell 0
 have kL:=L3.out.m14.cell 1
 have kK:=L3.out.m14.cell 2
 have kJ:=L3.out.m14.cell 3
 simp only[dZ,dY] at kM kL kK kJ
 go_wp2_with fail
 refine(FE lo hi day _ L3.out.i14).mono ?_
 rintro e w4 ⟨v_,rfl,hR,hbx⟩
 rw[LU.out] at hR ⊢
 dsimp only at hR ⊢
 obtain⟨A4_,c4_,rfl,YH,Y2⟩:=Kd.dB hR
 have L4:=aa.mk (L3.out.later hbx)
 replace C1:=aa.mk (Kd.aC C1.out hbx)
 replace C2:=aa.mk (Kd.aC C2.out hbx)
 replace C3:=aa.mk (Kd.aC C3.out hbx)
 have C4:=aa.mk Y2
 have D4:=aa.mk YH
 clear Y2 YH
 clear hbx L3 kM kL kK kJ hR
 go_wp2_with fail
 refine fw 11 (by kernel_rfl) (λK11 alh=>?_)
 unfold kI
 conv=>arg 2;whnf
 unfold rC
 have kR:=L4.out.m13.cell 0
 have kQ:=L4.out.m13.cell 1
 have kP:=L4.out.m13.cell 2
 have kN:=L4.out.m13.cell 3
 simp only[dZ,dY] at kR kQ kP kN
 go_wp2_with fail
 refine(xV lo hi _ L4.out.i13).mono ?_
 rintro e w5 ⟨v_,rfl,hR,hbx⟩
 rw[Xo.out] at hR ⊢
 dsimp only at hR ⊢
 obtain⟨A8_,c8_,rfl⟩:=Kd.di hR
 have L5:=aa.mk (L4.out.later hbx)
 replace C1:=aa.mk (Kd.aC C1.out hbx)
 replace C2:=aa.mk (Kd.aC C2.out hbx)
 replace C3:=aa.mk (Kd.aC C3.out hbx)
 replace C4:=aa.mk (Kd.aC C4.out hbx)
 clear hbx L4 kR kQ kP kN hR
 go_wp2_with fail
 refine fw 12 (by kernel_rfl) (λK12 alg=>?_)
 unfold kI
 conv=>arg 2;whnf
 unfold rC
 have kM:=L5.out.m14.cell 0
 have kL:=L5.out.m14.cell 1
 have kK:=L5.out.m14.cell 2
 have kJ:=L5.out.m14.cell 3
 simp only[dZ,dY] at kM kL kK kJ
 go_wp2_with fail
 refine(xV lo hi _ L5.out.i14).mono ?_
 rintro e w6 ⟨v_,rfl,hR,hbx⟩
 rw[Xn.out] at hR ⊢
 dsimp only at hR ⊢
 obtain⟨A9_,c9_,rfl⟩:=Kd.di hR
 have L6:=aa.mk (L5.out.later hbx)
 replace C1:=aa.mk (Kd.aC C1.out hbx)
 replace C2:=aa.mk (Kd.aC C2.out hbx)
 replace C3:=aa.mk (Kd.aC C3.out hbx)
 replace C4:=aa.mk (Kd.aC C4.out hbx)
 clear hbx L5 kM kL kK kJ hR
 go_wp2_with fail
 refine fw 13 (by kernel_rfl) (λK13 alf=>?_)
 unfold kI
 conv=>arg 2;whnf
 unfold rC
 have kR:=L6.out.m13.cell 0
 have kQ:=L6.out.m13.cell 1
 have kP:=L6.out.m13.cell 2
 have kN:=L6.out.m13.cell 3
 have nG:=L6.out.m15.cell 0
 have nE:=L6.out.m15.cell 1
 have nD:=L6.out.m15.cell 2
 have nC:=L6.out.m15.cell 3
 simp only[dZ,dY] at kR kQ kP kN nG nE nD nC
 go_wp2_with fail
 refine(zW q4 e4 lo hi lo2 hi2 _ L6.out.i13 L6.out.i15 HS1.out).mono ?_
 rintro e w7 ⟨rfl,hbx⟩
 rw[pY.out]
 have L7:=aa.mk (L6.out.later hbx)
 replace C1:=aa.mk (Kd.aC C1.out hbx)
 replace C2:=aa.mk (Kd.aC C2.out hbx)
 replace C3:=aa.mk (Kd.aC C3.out hbx)
 replace C4:=aa.mk (Kd.aC C4.out hbx)
 clear hbx L6 kR kQ kP kN nG nE nD nC
 go_wp2_with fail
 refine fw 14 (by kernel_rfl) (λK14 ale=>?_)
 unfold kI
 conv=>arg 2;whnf
 unfold rC
 have kM:=L7.out.m14.cell 0
 have kL:=L7.out.m14.cell 1
 have kK:=L7.out.m14.cell 2
 have kJ:=L7.out.m14.cell 3
 have nG:=L7.out.m15.cell 0
 have nE:=L7.out.m15.cell 1
 have nD:=L7.out.m15.cell 2
 have nC:=L7.out.m15.cell 3
 simp only[dZ,dY] at kM kL kK kJ nG nE nD nC
 go_wp2_with fail
 refine(zW q4 e4 lo hi lo2 hi2 _ L7.out.i14 L7.out.i15 HS2.out).mono ?_
 rintro e w8 ⟨rfl,hbx⟩
 rw[pY.out]
 have L8:=aa.mk (L7.out.later hbx)
 replace C1:=aa.mk (Kd.aC C1.out hbx)
 replace C2:=aa.mk (Kd.aC C2.out hbx)
 replace C3:=aa.mk (Kd.aC C3.out hbx)
 replace C4:=aa.mk (Kd.aC C4.out hbx)
 clear hbx L7 kM kL kK kJ nG nE nD nC
 go_wp2_with fail
 refine fw 15 (by kernel_rfl) (λK15 ald=>?_)
 unfold kI
 conv=>arg 2;whnf
 unfold rC
 have kR:=L8.out.m13.cell 0
 have kQ:=L8.out.m13.cell 1
 have kP:=L8.out.m13.cell 2
 have kN:=L8.out.m13.cell 3
 have nG:=L8.out.m15.cell 0
 have nE:=L8.out.m15.cell 1
 have nD:=L8.out.m15.cell 2
 have nC:=L8.out.m15.cell 3
 simp only[dZ,dY] at kR kQ kP kN nG nE nD nC
 go_wp2_with fail
 refine(rT q4 e4 lo hi lo2 hi2 _ L8.out.i13 L8.out.i15 HS1.out).mono ?_
 rintro e w9 ⟨v_,rfl,hR,hbx⟩
 rw[HT.out] at hR ⊢
 dsimp only at hR ⊢
 obtain⟨A5_,c5_,rfl,YG,Y1⟩:=Kd.dB hR
 have L9:=aa.mk (L8.out.later hbx)
 replace C1:=aa.mk (Kd.aC C1.out hbx)
 replace C2:=aa.mk (Kd.aC C2.out hbx)
 replace C3:=aa.mk (Kd.aC C3.out hbx)
 replace C4:=aa.mk (Kd.aC C4.out hbx)
 have C5:=aa.mk Y1
 have D5:=aa.mk YG
 clear Y1 YG
 clear hbx L8 kR kQ kP kN nG nE nD nC hR
 go_wp2_with fail
 refine fw 16 (by kernel_rfl) (λK16 alc=>?_)
 unfold kI
 conv=>arg 2;whnf
 unfold rC
 have kM:=L9.out.m14.cell 0
 have kL:=L9.out.m14.cell 1
 have kK:=L9.out.m14.cell 2
 have kJ:=L9.out.m14.cell 3
 have nG:=L9.out.m15.cell 0
 have nE:=L9.out.m15.cell 1
 have nD:=L9.out.m15.cell 2
 have nC:=L9.out.m15.cell 3
 simp only[dZ,dY] at kM kL kK kJ nG nE nD nC
 go_wp2_with fail
 refine(rT q4 e4 lo hi lo2 hi2 _ L9.out.i14 L9.out.i15 HS2.out).mono ?_
 rintro e w10 ⟨v_,rfl,hR,hbx⟩
 rw[HT.out] at hR ⊢
 dsimp only at hR ⊢
 obtain⟨A6_,c6_,rfl,YF,Y0⟩:=Kd.dB hR
 have PY:=aa.mk (L9.out.later hbx)
 replace C1:=aa.mk (Kd.aC C1.out hbx)
 replace C2:=aa.mk (Kd.aC C2.out hbx)
 replace C3:=aa.mk (Kd.aC C3.out hbx)
 replace C4:=aa.mk (Kd.aC C4.out hbx)
 replace C5:=aa.mk (Kd.aC C5.out hbx)
 have C6:=aa.mk Y0
 have D6:=aa.mk YF
 clear Y0 YF
 clear hbx L9 kM kL kK kJ nG nE nD nC hR
 go_wp2_with fail
 refine fw 17 (by kernel_rfl) (λK17 afe=>?_)
 unfold kI
 conv=>arg 2;whnf
 unfold rC
 rw[show q3'.length=q3.length from HVL.out.symm]
 refine fF (n:=70) (S:=λw'=>w'.cell? ⟨b13,0,none⟩=some (.int .i64 lo)/\w'.cell? ⟨b13,1,none⟩=some (.int .i64 hi)/\w'.cell? ⟨b13,2,none⟩=some (.slice Ya ru.length ya)/\w'.cell? ⟨b13,3,none⟩=some (.slice Yc re.length yc)/\w'.cell? ⟨b14,0,none⟩=some (.int .i64 lo)/\w'.cell? ⟨b14,1,none⟩=some (.int .i64 hi)/\w'.cell? ⟨b14,2,none⟩=some (.slice Za ru.length za)/\w'.cell? ⟨b14,3,none⟩=some (.slice Zc gU.length zc)) (ds:=[63,67]) #[O,O,O,O,O,O,O,O,O,O,O,O,O,O,O,O,O,O,O,O,O,O,O,O,O,O,O,O,O,O,O,O,O,O,O,O,O,O,O,O,O,O,O,O,O,O,O,O,O,O,O,O,O,O,O,O,O,O,O,O,O,O,O,O,O,O,O,O,O,O] (by kernel_rfl) rfl rfl ⟨(by simpa using (PY.out).m13.cell 0),(by simpa using (PY.out).m13.cell 1),(by simpa using (PY.out).m13.cell 2),(by simpa using (PY.out).m13.cell 3),(by simpa using (PY.out).m14.cell 0),(by simpa using (PY.out).m14.cell 1),(by simpa using (PY.out).m14.cell 2),(by simpa using (PY.out).m14.cell 3)⟩ (λhHeld=>?_);refine bG la.XP la.Wj (λau cz=>?_)
 have Ld:=aa.mk (PY.out.later (aN (Below.refl _ _)))
 replace C1:=aa.mk (Kd.aC C1.out (aN (Below.refl _ _)))
 replace C2:=aa.mk (Kd.aC C2.out (aN (Below.refl _ _)))
 replace C3:=aa.mk (Kd.aC C3.out (aN (Below.refl _ _)))
 replace C4:=aa.mk (Kd.aC C4.out (aN (Below.refl _ _)))
 replace C5:=aa.mk (Kd.aC C5.out (aN (Below.refl _ _)))
 replace C6:=aa.mk (Kd.aC C6.out (aN (Below.refl _ _)))
 clear PY
 generalize w10.drew=wd at Ld hHeld C1 C2 C3 C4 C5 C6 ⊢
 refine fJ 0 136 #[I,O,O,O,O,O,O,O,O,O,O,O,O,O,O,O,O,O,O,O,O,O,O,O,O,O,O,O,O,O,O,O,O,O,O,O,O,O,O,O,O,O,O,O,O,O,O,O,O,O,O,O,O,O,O,O,O,O,O,O,O,O,O,O,O,O,O,O,O,O] au cz hHeld (hy:=by(rintro w' ⟨s0,s1,s2,s3,s4,s5,s6,s7⟩;go_simp;with_reducible rfl)) (h:=?_)
 refine fJ 2 138 #[I,O,I,O,O,O,O,O,O,O,O,O,O,O,O,O,O,O,O,O,O,O,O,O,O,O,O,O,O,O,O,O,O,O,O,O,O,O,O,O,O,O,O,O,O,O,O,O,O,O,O,O,O,O,O,O,O,O,O,O,O,O,O,O,O,O,O,O,O,O] au cz hHeld (hy:=by(rintro w' ⟨s0,s1,s2,s3,s4,s5,s6,s7⟩;go_simp;with_reducible rfl)) (h:=?_)
 refine gB (i:=1) (N:=some 137) #[I,I,I,O,O,O,O,O,O,O,O,O,O,O,O,O,O,O,O,O,O,O,O,O,O,O,O,O,O,O,O,O,O,O,O,O,O,O,O,O,O,O,O,O,O,O,O,O,O,O,O,O,O,O,O,O,O,O,O,O,O,O,O,O,O,O,O,O,O,O] rfl rfl (aM au.out (by kernel_rfl)) (by decide) (λK hK=>?_)
 refine bT Tryz.func27 (by kernel_rfl) rfl #[.agg #[.int .i64 lo,.int .i64 hi,.slice Ya ru.length ya,.slice Yc re.length yc]] (by rfl) rfl rfl (by(try simp only[List.map_toArray,List.map_cons,List.map_nil]);rfl) ?_
 refine(jl lo hi _ Ld.out.i13).mono ?_
 rintro e_ w_ ⟨rfl,hbx⟩
 rw[HF1.out]
 have e_:=Ld.out.later hbx
 refine⟨_,rfl,hK.out _ _ ⟨(by simpa using e_.m13.cell 0),(by simpa using e_.m13.cell 1),(by simpa using e_.m13.cell 2),(by simpa using e_.m13.cell 3),(by simpa using e_.m14.cell 0),(by simpa using e_.m14.cell 1),(by simpa using e_.m14.cell 2),(by simpa using e_.m14.cell 3)⟩ (λhHeld=>?_)⟩
 have L11:=aa.mk (Ld.out.later hbx)
 replace C1:=aa.mk (Kd.aC C1.out hbx)
 replace C2:=aa.mk (Kd.aC C2.out hbx)
 replace C3:=aa.mk (Kd.aC C3.out hbx)
 replace C4:=aa.mk (Kd.aC C4.out hbx)
 replace C5:=aa.mk (Kd.aC C5.out hbx)
 replace C6:=aa.mk (Kd.aC C6.out hbx)
 clear hK K hbx Ld
 refine j4 ?_
 refine gB (i:=3) (N:=some 139) #[I,I,I,I,O,O,O,O,O,O,O,O,O,O,O,O,O,O,O,O,O,O,O,O,O,O,O,O,O,O,O,O,O,O,O,O,O,O,O,O,O,O,O,O,O,O,O,O,O,O,O,O,O,O,O,O,O,O,O,O,O,O,O,O,O,O,O,O,O,O] rfl rfl (aM au.out (by kernel_rfl)) (by decide) (λK hK=>?_)
 refine bT Tryz.func27 (by kernel_rfl) rfl #[.agg #[.int .i64 lo,.int .i64 hi,.slice Za ru.length za,.slice Zc gU.length zc]] (by rfl) rfl rfl (by(try simp only[List.map_toArray,List.map_cons,List.map_nil]);rfl) ?_
 refine(jl lo hi _ L11.out.i14).mono ?_
 rintro e_ w_ ⟨rfl,hbx⟩
 rw[qO.out]
 have e_:=L11.out.later hbx
 refine⟨_,rfl,hK.out _ _ ⟨(by simpa using e_.m13.cell 0),(by simpa using e_.m13.cell 1),(by simpa using e_.m13.cell 2),(by simpa using e_.m13.cell 3),(by simpa using e_.m14.cell 0),(by simpa using e_.m14.cell 1),(by simpa using e_.m14.cell 2),(by simpa using e_.m14.cell 3)⟩ (λhHeld=>?_)⟩
 have L12:=aa.mk (L11.out.later hbx)
 replace C1:=aa.mk (Kd.aC C1.out hbx)
 replace C2:=aa.mk (Kd.aC C2.out hbx)
 replace C3:=aa.mk (Kd.aC C3.out hbx)
 replace C4:=aa.mk (Kd.aC C4.out hbx)
 replace C5:=aa.mk (Kd.aC C5.out hbx)
 replace C6:=aa.mk (Kd.aC C6.out hbx)
 clear hK K hbx L11
 refine j4 ?_
 refine bq 4 140 #[I,I,I,I,I,O,O,O,O,O,O,O,O,O,O,O,O,O,O,O,O,O,O,O,O,O,O,O,O,O,O,O,O,O,O,O,O,O,O,O,O,O,O,O,O,O,O,O,O,O,O,O,O,O,O,O,O,O,O,O,O,O,O,O,O,O,O,O,O,O] au (h:=?_)
 refine bq 5 141 #[I,I,I,I,I,I,O,O,O,O,O,O,O,O,O,O,O,O,O,O,O,O,O,O,O,O,O,O,O,O,O,O,O,O,O,O,O,O,O,O,O,O,O,O,O,O,O,O,O,O,O,O,O,O,O,O,O,O,O,O,O,O,O,O,O,O,O,O,O,O] au (h:=?_)
 refine bq 6 142 #[I,I,I,I,I,I,I,O,O,O,O,O,O,O,O,O,O,O,O,O,O,O,O,O,O,O,O,O,O,O,O,O,O,O,O,O,O,O,O,O,O,O,O,O,O,O,O,O,O,O,O,O,O,O,O,O,O,O,O,O,O,O,O,O,O,O,O,O,O,O] au (h:=?_)
 refine bq 7 143 #[I,I,I,I,I,I,I,I,O,O,O,O,O,O,O,O,O,O,O,O,O,O,O,O,O,O,O,O,O,O,O,O,O,O,O,O,O,O,O,O,O,O,O,O,O,O,O,O,O,O,O,O,O,O,O,O,O,O,O,O,O,O,O,O,O,O,O,O,O,O] au (h:=?_)
 refine bq 8 144 #[I,I,I,I,I,I,I,I,I,O,O,O,O,O,O,O,O,O,O,O,O,O,O,O,O,O,O,O,O,O,O,O,O,O,O,O,O,O,O,O,O,O,O,O,O,O,O,O,O,O,O,O,O,O,O,O,O,O,O,O,O,O,O,O,O,O,O,O,O,O] au (h:=?_)
 refine bq 9 145 #[I,I,I,I,I,I,I,I,I,I,O,O,O,O,O,O,O,O,O,O,O,O,O,O,O,O,O,O,O,O,O,O,O,O,O,O,O,O,O,O,O,O,O,O,O,O,O,O,O,O,O,O,O,O,O,O,O,O,O,O,O,O,O,O,O,O,O,O,O,O] au (h:=?_)
 refine bq 10 146 #[I,I,I,I,I,I,I,I,I,I,I,O,O,O,O,O,O,O,O,O,O,O,O,O,O,O,O,O,O,O,O,O,O,O,O,O,O,O,O,O,O,O,O,O,O,O,O,O,O,O,O,O,O,O,O,O,O,O,O,O,O,O,O,O,O,O,O,O,O,O] au (h:=?_)
 refine bq 11 147 #[I,I,I,I,I,I,I,I,I,I,I,I,O,O,O,O,O,O,O,O,O,O,O,O,O,O,O,O,O,O,O,O,O,O,O,O,O,O,O,O,O,O,O,O,O,O,O,O,O,O,O,O,O,O,O,O,O,O,O,O,O,O,O,O,O,O,O,O,O,O] au (h:=?_)
 refine bq 12 148 #[I,I,I,I,I,I,I,I,I,I,I,I,I,O,O,O,O,O,O,O,O,O,O,O,O,O,O,O,O,O,O,O,O,O,O,O,O,O,O,O,O,O,O,O,O,O,O,O,O,O,O,O,O,O,O,O,O,O,O,O,O,O,O,O,O,O,O,O,O,O] au (h:=?_)
 refine gB (i:=13) (N:=some 149) #[I,I,I,I,I,I,I,I,I,I,I,I,I,I,O,O,O,O,O,O,O,O,O,O,O,O,O,O,O,O,O,O,O,O,O,O,O,O,O,O,O,O,O,O,O,O,O,O,O,O,O,O,O,O,O,O,O,O,O,O,O,O,O,O,O,O,O,O,O,O] rfl rfl (aM au.out (by kernel_rfl)) (by decide) (λK hK=>?_)
 refine bT Tryz.func28 (by kernel_rfl) rfl #[.slice A1_ q1.length c1_,.slice A2_ q1.length c2_] (by rfl) rfl rfl (by(try simp only[List.map_toArray,List.map_cons,List.map_nil]);rfl) ?_
 refine(bW.calls (q1.length+1) _ _ q1 _ _ q1 true _ C1.out D1.out C2.out D2.out (oN q1 (Kd.Ck C1.out))).mono ?_
 rintro e_ w_ ⟨rfl,EX⟩
 have hbx:=EX.below
 clear EX
 have e_:=L12.out.later hbx
 refine⟨_,rfl,hK.out _ _ ⟨(by simpa using e_.m13.cell 0),(by simpa using e_.m13.cell 1),(by simpa using e_.m13.cell 2),(by simpa using e_.m13.cell 3),(by simpa using e_.m14.cell 0),(by simpa using e_.m14.cell 1),(by simpa using e_.m14.cell 2),(by simpa using e_.m14.cell 3)⟩ (λhHeld=>?_)⟩
 have L13:=aa.mk (L12.out.later hbx)
 replace C3:=aa.mk (Kd.aC C3.out hbx)
 replace C4:=aa.mk (Kd.aC C4.out hbx)
 replace C5:=aa.mk (Kd.aC C5.out hbx)
 replace C6:=aa.mk (Kd.aC C6.out hbx)
 clear hK K hbx L12
 refine j4 ?_
 refine bq 14 150 #[I,I,I,I,I,I,I,I,I,I,I,I,I,I,I,O,O,O,O,O,O,O,O,O,O,O,O,O,O,O,O,O,O,O,O,O,O,O,O,O,O,O,O,O,O,O,O,O,O,O,O,O,O,O,O,O,O,O,O,O,O,O,O,O,O,O,O,O,O,O] au (h:=?_)
 refine bq 15 151 #[I,I,I,I,I,I,I,I,I,I,I,I,I,I,I,I,O,O,O,O,O,O,O,O,O,O,O,O,O,O,O,O,O,O,O,O,O,O,O,O,O,O,O,O,O,O,O,O,O,O,O,O,O,O,O,O,O,O,O,O,O,O,O,O,O,O,O,O,O,O] au (h:=?_)
 refine bq 16 152 #[I,I,I,I,I,I,I,I,I,I,I,I,I,I,I,I,I,O,O,O,O,O,O,O,O,O,O,O,O,O,O,O,O,O,O,O,O,O,O,O,O,O,O,O,O,O,O,O,O,O,O,O,O,O,O,O,O,O,O,O,O,O,O,O,O,O,O,O,O,O] au (h:=?_)
 refine bq 17 153 #[I,I,I,I,I,I,I,I,I,I,I,I,I,I,I,I,I,I,O,O,O,O,O,O,O,O,O,O,O,O,O,O,O,O,O,O,O,O,O,O,O,O,O,O,O,O,O,O,O,O,O,O,O,O,O,O,O,O,O,O,O,O,O,O,O,O,O,O,O,O] au (h:=?_)
 refine bq 18 154 #[I,I,I,I,I,I,I,I,I,I,I,I,I,I,I,I,I,I,I,O,O,O,O,O,O,O,O,O,O,O,O,O,O,O,O,O,O,O,O,O,O,O,O,O,O,O,O,O,O,O,O,O,O,O,O,O,O,O,O,O,O,O,O,O,O,O,O,O,O,O] au (h:=?_)
 refine bq 19 155 #[I,I,I,I,I,I,I,I,I,I,I,I,I,I,I,I,I,I,I,I,O,O,O,O,O,O,O,O,O,O,O,O,O,O,O,O,O,O,O,O,O,O,O,O,O,O,O,O,O,O,O,O,O,O,O,O,O,O,O,O,O,O,O,O,O,O,O,O,O,O] au (h:=?_)
 refine bq 20 156 #[I,I,I,I,I,I,I,I,I,I,I,I,I,I,I,I,I,I,I,I,I,O,O,O,O,O,O,O,O,O,O,O,O,O,O,O,O,O,O,O,O,O,O,O,O,O,O,O,O,O,O,O,O,O,O,O,O,O,O,O,O,O,O,O,O,O,O,O,O,O] au (h:=?_)
 refine bq 21 157 #[I,I,I,I,I,I,I,I,I,I,I,I,I,I,I,I,I,I,I,I,I,I,O,O,O,O,O,O,O,O,O,O,O,O,O,O,O,O,O,O,O,O,O,O,O,O,O,O,O,O,O,O,O,O,O,O,O,O,O,O,O,O,O,O,O,O,O,O,O,O] au (h:=?_)
 refine bq 22 158 #[I,I,I,I,I,I,I,I,I,I,I,I,I,I,I,I,I,I,I,I,I,I,I,O,O,O,O,O,O,O,O,O,O,O,O,O,O,O,O,O,O,O,O,O,O,O,O,O,O,O,O,O,O,O,O,O,O,O,O,O,O,O,O,O,O,O,O,O,O,O] au (h:=?_)
 refine gB (i:=23) (N:=some 159) #[I,I,I,I,I,I,I,I,I,I,I,I,I,I,I,I,I,I,I,I,I,I,I,I,O,O,O,O,O,O,O,O,O,O,O,O,O,O,O,O,O,O,O,O,O,O,O,O,O,O,O,O,O,O,O,O,O,O,O,O,O,O,O,O,O,O,O,O,O,O] rfl rfl (aM au.out (by kernel_rfl)) (by decide) (λK hK=>?_)
 refine bT Tryz.func28 (by kernel_rfl) rfl #[.slice A3_ q2.length c3_,.slice A4_ q2.length c4_] (by rfl) rfl rfl (by(try simp only[List.map_toArray,List.map_cons,List.map_nil]);rfl) ?_
 refine(bW.calls (q2.length+1) _ _ q2 _ _ q2 true _ C3.out D3.out C4.out D4.out (oN q2 (Kd.Ck C3.out))).mono ?_
 rintro e_ w_ ⟨rfl,EX⟩
 have hbx:=EX.below
 clear EX
 have e_:=L13.out.later hbx
 refine⟨_,rfl,hK.out _ _ ⟨(by simpa using e_.m13.cell 0),(by simpa using e_.m13.cell 1),(by simpa using e_.m13.cell 2),(by simpa using e_.m13.cell 3),(by simpa using e_.m14.cell 0),(by simpa using e_.m14.cell 1),(by simpa using e_.m14.cell 2),(by simpa using e_.m14.cell 3)⟩ (λhHeld=>?_)⟩
 have L14:=aa.mk (L13.out.later hbx)
 replace C5:=aa.mk (Kd.aC C5.out hbx)
 replace C6:=aa.mk (Kd.aC C6.out hbx)
 clear hK K hbx L13
 refine j4 ?_
 refine bq 24 160 #[I,I,I,I,I,I,I,I,I,I,I,I,I,I,I,I,I,I,I,I,I,I,I,I,I,O,O,O,O,O,O,O,O,O,O,O,O,O,O,O,O,O,O,O,O,O,O,O,O,O,O,O,O,O,O,O,O,O,O,O,O,O,O,O,O,O,O,O,O,O] au (h:=?_)
 refine bq 25 161 #[I,I,I,I,I,I,I,I,I,I,I,I,I,I,I,I,I,I,I,I,I,I,I,I,I,I,O,O,O,O,O,O,O,O,O,O,O,O,O,O,O,O,O,O,O,O,O,O,O,O,O,O,O,O,O,O,O,O,O,O,O,O,O,O,O,O,O,O,O,O] au (h:=?_)
 refine bq 26 162 #[I,I,I,I,I,I,I,I,I,I,I,I,I,I,I,I,I,I,I,I,I,I,I,I,I,I,I,O,O,O,O,O,O,O,O,O,O,O,O,O,O,O,O,O,O,O,O,O,O,O,O,O,O,O,O,O,O,O,O,O,O,O,O,O,O,O,O,O,O,O] au (h:=?_)
 refine bq 27 163 #[I,I,I,I,I,I,I,I,I,I,I,I,I,I,I,I,I,I,I,I,I,I,I,I,I,I,I,I,O,O,O,O,O,O,O,O,O,O,O,O,O,O,O,O,O,O,O,O,O,O,O,O,O,O,O,O,O,O,O,O,O,O,O,O,O,O,O,O,O,O] au (h:=?_)
 refine bq 28 164 #[I,I,I,I,I,I,I,I,I,I,I,I,I,I,I,I,I,I,I,I,I,I,I,I,I,I,I,I,I,O,O,O,O,O,O,O,O,O,O,O,O,O,O,O,O,O,O,O,O,O,O,O,O,O,O,O,O,O,O,O,O,O,O,O,O,O,O,O,O,O] au (h:=?_)
 refine bq 29 165 #[I,I,I,I,I,I,I,I,I,I,I,I,I,I,I,I,I,I,I,I,I,I,I,I,I,I,I,I,I,I,O,O,O,O,O,O,O,O,O,O,O,O,O,O,O,O,O,O,O,O,O,O,O,O,O,O,O,O,O,O,O,O,O,O,O,O,O,O,O,O] au (h:=?_)
 refine bq 30 166 #[I,I,I,I,I,I,I,I,I,I,I,I,I,I,I,I,I,I,I,I,I,I,I,I,I,I,I,I,I,I,I,O,O,O,O,O,O,O,O,O,O,O,O,O,O,O,O,O,O,O,O,O,O,O,O,O,O,O,O,O,O,O,O,O,O,O,O,O,O,O] au (h:=?_)
 refine bq 31 167 #[I,I,I,I,I,I,I,I,I,I,I,I,I,I,I,I,I,I,I,I,I,I,I,I,I,I,I,I,I,I,I,I,O,O,O,O,O,O,O,O,O,O,O,O,O,O,O,O,O,O,O,O,O,O,O,O,O,O,O,O,O,O,O,O,O,O,O,O,O,O] au (h:=?_)
 refine bq 32 168 #[I,I,I,I,I,I,I,I,I,I,I,I,I,I,I,I,I,I,I,I,I,I,I,I,I,I,I,I,I,I,I,I,I,O,O,O,O,O,O,O,O,O,O,O,O,O,O,O,O,O,O,O,O,O,O,O,O,O,O,O,O,O,O,O,O,O,O,O,O,O] au (h:=?_)
 refine bq 33 169 #[I,I,I,I,I,I,I,I,I,I,I,I,I,I,I,I,I,I,I,I,I,I,I,I,I,I,I,I,I,I,I,I,I,I,O,O,O,O,O,O,O,O,O,O,O,O,O,O,O,O,O,O,O,O,O,O,O,O,O,O,O,O,O,O,O,O,O,O,O,O] au (h:=?_)
 refine bq 34 170 #[I,I,I,I,I,I,I,I,I,I,I,I,I,I,I,I,I,I,I,I,I,I,I,I,I,I,I,I,I,I,I,I,I,I,I,O,O,O,O,O,O,O,O,O,O,O,O,O,O,O,O,O,O,O,O,O,O,O,O,O,O,O,O,O,O,O,O,O,O,O] au (h:=?_)
 refine bq 35 171 #[I,I,I,I,I,I,I,I,I,I,I,I,I,I,I,I,I,I,I,I,I,I,I,I,I,I,I,I,I,I,I,I,I,I,I,I,O,O,O,O,O,O,O,O,O,O,O,O,O,O,O,O,O,O,O,O,O,O,O,O,O,O,O,O,O,O,O,O,O,O] au (h:=?_)
 refine bq 36 172 #[I,I,I,I,I,I,I,I,I,I,I,I,I,I,I,I,I,I,I,I,I,I,I,I,I,I,I,I,I,I,I,I,I,I,I,I,I,O,O,O,O,O,O,O,O,O,O,O,O,O,O,O,O,O,O,O,O,O,O,O,O,O,O,O,O,O,O,O,O,O] au (h:=?_)
 refine bq 37 173 #[I,I,I,I,I,I,I,I,I,I,I,I,I,I,I,I,I,I,I,I,I,I,I,I,I,I,I,I,I,I,I,I,I,I,I,I,I,I,O,O,O,O,O,O,O,O,O,O,O,O,O,O,O,O,O,O,O,O,O,O,O,O,O,O,O,O,O,O,O,O] au (h:=?_)
 refine bq 38 174 #[I,I,I,I,I,I,I,I,I,I,I,I,I,I,I,I,I,I,I,I,I,I,I,I,I,I,I,I,I,I,I,I,I,I,I,I,I,I,I,O,O,O,O,O,O,O,O,O,O,O,O,O,O,O,O,O,O,O,O,O,O,O,O,O,O,O,O,O,O,O] au (h:=?_)
 refine bq 39 175 #[I,I,I,I,I,I,I,I,I,I,I,I,I,I,I,I,I,I,I,I,I,I,I,I,I,I,I,I,I,I,I,I,I,I,I,I,I,I,I,I,O,O,O,O,O,O,O,O,O,O,O,O,O,O,O,O,O,O,O,O,O,O,O,O,O,O,O,O,O,O] au (h:=?_)
 refine bq 40 176 #[I,I,I,I,I,I,I,I,I,I,I,I,I,I,I,I,I,I,I,I,I,I,I,I,I,I,I,I,I,I,I,I,I,I,I,I,I,I,I,I,I,O,O,O,O,O,O,O,O,O,O,O,O,O,O,O,O,O,O,O,O,O,O,O,O,O,O,O,O,O] au (h:=?_)
 refine bq 41 177 #[I,I,I,I,I,I,I,I,I,I,I,I,I,I,I,I,I,I,I,I,I,I,I,I,I,I,I,I,I,I,I,I,I,I,I,I,I,I,I,I,I,I,O,O,O,O,O,O,O,O,O,O,O,O,O,O,O,O,O,O,O,O,O,O,O,O,O,O,O,O] au (h:=?_)
 refine bq 42 178 #[I,I,I,I,I,I,I,I,I,I,I,I,I,I,I,I,I,I,I,I,I,I,I,I,I,I,I,I,I,I,I,I,I,I,I,I,I,I,I,I,I,I,I,O,O,O,O,O,O,O,O,O,O,O,O,O,O,O,O,O,O,O,O,O,O,O,O,O,O,O] au (h:=?_)
 refine bq 43 179 #[I,I,I,I,I,I,I,I,I,I,I,I,I,I,I,I,I,I,I,I,I,I,I,I,I,I,I,I,I,I,I,I,I,I,I,I,I,I,I,I,I,I,I,I,O,O,O,O,O,O,O,O,O,O,O,O,O,O,O,O,O,O,O,O,O,O,O,O,O,O] au (h:=?_)
 refine bq 44 180 #[I,I,I,I,I,I,I,I,I,I,I,I,I,I,I,I,I,I,I,I,I,I,I,I,I,I,I,I,I,I,I,I,I,I,I,I,I,I,I,I,I,I,I,I,I,O,O,O,O,O,O,O,O,O,O,O,O,O,O,O,O,O,O,O,O,O,O,O,O,O] au (h:=?_)
 refine bq 45 181 #[I,I,I,I,I,I,I,I,I,I,I,I,I,I,I,I,I,I,I,I,I,I,I,I,I,I,I,I,I,I,I,I,I,I,I,I,I,I,I,I,I,I,I,I,I,I,O,O,O,O,O,O,O,O,O,O,O,O,O,O,O,O,O,O,O,O,O,O,O,O] au (h:=?_)
 refine bq 46 182 #[I,I,I,I,I,I,I,I,I,I,I,I,I,I,I,I,I,I,I,I,I,I,I,I,I,I,I,I,I,I,I,I,I,I,I,I,I,I,I,I,I,I,I,I,I,I,I,O,O,O,O,O,O,O,O,O,O,O,O,O,O,O,O,O,O,O,O,O,O,O] au (h:=?_)
 refine bq 47 183 #[I,I,I,I,I,I,I,I,I,I,I,I,I,I,I,I,I,I,I,I,I,I,I,I,I,I,I,I,I,I,I,I,I,I,I,I,I,I,I,I,I,I,I,I,I,I,I,I,O,O,O,O,O,O,O,O,O,O,O,O,O,O,O,O,O,O,O,O,O,O] au (h:=?_)
 refine bq 48 184 #[I,I,I,I,I,I,I,I,I,I,I,I,I,I,I,I,I,I,I,I,I,I,I,I,I,I,I,I,I,I,I,I,I,I,I,I,I,I,I,I,I,I,I,I,I,I,I,I,I,O,O,O,O,O,O,O,O,O,O,O,O,O,O,O,O,O,O,O,O,O] au (h:=?_)
 refine bq 49 185 #[I,I,I,I,I,I,I,I,I,I,I,I,I,I,I,I,I,I,I,I,I,I,I,I,I,I,I,I,I,I,I,I,I,I,I,I,I,I,I,I,I,I,I,I,I,I,I,I,I,I,O,O,O,O,O,O,O,O,O,O,O,O,O,O,O,O,O,O,O,O] au (h:=?_)
 refine bq 50 186 #[I,I,I,I,I,I,I,I,I,I,I,I,I,I,I,I,I,I,I,I,I,I,I,I,I,I,I,I,I,I,I,I,I,I,I,I,I,I,I,I,I,I,I,I,I,I,I,I,I,I,I,O,O,O,O,O,O,O,O,O,O,O,O,O,O,O,O,O,O,O] au (h:=?_)
 refine bq 51 187 #[I,I,I,I,I,I,I,I,I,I,I,I,I,I,I,I,I,I,I,I,I,I,I,I,I,I,I,I,I,I,I,I,I,I,I,I,I,I,I,I,I,I,I,I,I,I,I,I,I,I,I,I,O,O,O,O,O,O,O,O,O,O,O,O,O,O,O,O,O,O] au (h:=?_)
 refine bq 52 188 #[I,I,I,I,I,I,I,I,I,I,I,I,I,I,I,I,I,I,I,I,I,I,I,I,I,I,I,I,I,I,I,I,I,I,I,I,I,I,I,I,I,I,I,I,I,I,I,I,I,I,I,I,I,O,O,O,O,O,O,O,O,O,O,O,O,O,O,O,O,O] au (h:=?_)
 refine bq 53 189 #[I,I,I,I,I,I,I,I,I,I,I,I,I,I,I,I,I,I,I,I,I,I,I,I,I,I,I,I,I,I,I,I,I,I,I,I,I,I,I,I,I,I,I,I,I,I,I,I,I,I,I,I,I,I,O,O,O,O,O,O,O,O,O,O,O,O,O,O,O,O] au (h:=?_)
 refine bq 54 190 #[I,I,I,I,I,I,I,I,I,I,I,I,I,I,I,I,I,I,I,I,I,I,I,I,I,I,I,I,I,I,I,I,I,I,I,I,I,I,I,I,I,I,I,I,I,I,I,I,I,I,I,I,I,I,I,O,O,O,O,O,O,O,O,O,O,O,O,O,O,O] au (h:=?_)
 refine gB (i:=55) (N:=some 191) #[I,I,I,I,I,I,I,I,I,I,I,I,I,I,I,I,I,I,I,I,I,I,I,I,I,I,I,I,I,I,I,I,I,I,I,I,I,I,I,I,I,I,I,I,I,I,I,I,I,I,I,I,I,I,I,I,O,O,O,O,O,O,O,O,O,O,O,O,O,O] rfl rfl (aM au.out (by kernel_rfl)) (by decide) (λK hK=>?_)
 refine bT Tryz.func28 (by kernel_rfl) rfl #[.slice A5_ q5.length c5_,.slice A6_ q5.length c6_] (by rfl) rfl rfl (by(try simp only[List.map_toArray,List.map_cons,List.map_nil]);rfl) ?_
 refine(bW.calls (q5.length+1) _ _ q5 _ _ q5 true _ C5.out D5.out C6.out D6.out (oN q5 (Kd.Ck C5.out))).mono ?_
 rintro e_ w_ ⟨rfl,EX⟩
 have hbx:=EX.below
 clear EX
 have e_:=L14.out.later hbx
 refine⟨_,rfl,hK.out _ _ ⟨(by simpa using e_.m13.cell 0),(by simpa using e_.m13.cell 1),(by simpa using e_.m13.cell 2),(by simpa using e_.m13.cell 3),(by simpa using e_.m14.cell 0),(by simpa using e_.m14.cell 1),(by simpa using e_.m14.cell 2),(by simpa using e_.m14.cell 3)⟩ (λhHeld=>?_)⟩
 have L15:=aa.mk (L14.out.later hbx)
 clear hK K hbx L14
 refine j4 ?_
 refine bq 56 192 #[I,I,I,I,I,I,I,I,I,I,I,I,I,I,I,I,I,I,I,I,I,I,I,I,I,I,I,I,I,I,I,I,I,I,I,I,I,I,I,I,I,I,I,I,I,I,I,I,I,I,I,I,I,I,I,I,I,O,O,O,O,O,O,O,O,O,O,O,O,O] au (h:=?_)
 refine bq 57 193 #[I,I,I,I,I,I,I,I,I,I,I,I,I,I,I,I,I,I,I,I,I,I,I,I,I,I,I,I,I,I,I,I,I,I,I,I,I,I,I,I,I,I,I,I,I,I,I,I,I,I,I,I,I,I,I,I,I,I,O,O,O,O,O,O,O,O,O,O,O,O] au (h:=?_)
 refine fJ 58 194 #[I,I,I,I,I,I,I,I,I,I,I,I,I,I,I,I,I,I,I,I,I,I,I,I,I,I,I,I,I,I,I,I,I,I,I,I,I,I,I,I,I,I,I,I,I,I,I,I,I,I,I,I,I,I,I,I,I,I,I,O,O,O,O,O,O,O,O,O,O,O] au cz hHeld (hy:=by(rintro w' ⟨s0,s1,s2,s3,s4,s5,s6,s7⟩;go_simp;with_reducible rfl)) (h:=?_)
 refine bq 59 195 #[I,I,I,I,I,I,I,I,I,I,I,I,I,I,I,I,I,I,I,I,I,I,I,I,I,I,I,I,I,I,I,I,I,I,I,I,I,I,I,I,I,I,I,I,I,I,I,I,I,I,I,I,I,I,I,I,I,I,I,I,O,O,O,O,O,O,O,O,O,O] au (h:=?_)
 refine fJ 61 197 #[I,I,I,I,I,I,I,I,I,I,I,I,I,I,I,I,I,I,I,I,I,I,I,I,I,I,I,I,I,I,I,I,I,I,I,I,I,I,I,I,I,I,I,I,I,I,I,I,I,I,I,I,I,I,I,I,I,I,I,I,O,I,O,O,O,O,O,O,O,O] au cz hHeld (hy:=by(rintro w' ⟨s0,s1,s2,s3,s4,s5,s6,s7⟩;go_simp;with_reducible rfl)) (h:=?_)
 refine bq 62 198 #[I,I,I,I,I,I,I,I,I,I,I,I,I,I,I,I,I,I,I,I,I,I,I,I,I,I,I,I,I,I,I,I,I,I,I,I,I,I,I,I,I,I,I,I,I,I,I,I,I,I,I,I,I,I,I,I,I,I,I,I,O,I,I,O,O,O,O,O,O,O] au (h:=?_)
 refine gB (i:=60) (N:=some 196) #[I,I,I,I,I,I,I,I,I,I,I,I,I,I,I,I,I,I,I,I,I,I,I,I,I,I,I,I,I,I,I,I,I,I,I,I,I,I,I,I,I,I,I,I,I,I,I,I,I,I,I,I,I,I,I,I,I,I,I,I,I,I,I,O,O,O,O,O,O,O] rfl rfl (aM au.out (by kernel_rfl)) (by decide) (λK hK=>?_)
 refine bT Tryz.func29 (by kernel_rfl) rfl #[.agg #[.int .i64 lo,.int .i64 hi,.slice Ya ru.length ya,.slice Yc re.length yc],.int .i64 day] (by rfl) rfl rfl (by(try simp only[List.map_toArray,List.map_cons,List.map_nil]);rfl) ?_
 refine(pU lo hi day _ L15.out.i13).mono ?_
 rintro e_ w_ ⟨rfl,hbx⟩
 rw[HP1.out]
 have e_:=L15.out.later hbx
 refine⟨_,rfl,hK.out _ _ ⟨(by simpa using e_.m13.cell 0),(by simpa using e_.m13.cell 1),(by simpa using e_.m13.cell 2),(by simpa using e_.m13.cell 3),(by simpa using e_.m14.cell 0),(by simpa using e_.m14.cell 1),(by simpa using e_.m14.cell 2),(by simpa using e_.m14.cell 3)⟩ (λhHeld=>?_)⟩
 have L16:=aa.mk (L15.out.later hbx)
 clear hK K hbx L15
 refine j4 ?_
 refine fB (i:=63) (N:=some 199) #[I,I,I,I,I,I,I,I,I,I,I,I,I,I,I,I,I,I,I,I,I,I,I,I,I,I,I,I,I,I,I,I,I,I,I,I,I,I,I,I,I,I,I,I,I,I,I,I,I,I,I,I,I,I,I,I,I,I,I,I,I,I,I,I,O,O,O,O,O,O] rfl rfl (aM au.out (by kernel_rfl)) (by decide) (λK hK=>?_)
 refine bT Tryz.func29 (by kernel_rfl) rfl #[.agg #[.int .i64 lo,.int .i64 hi,.slice Za ru.length za,.slice Zc gU.length zc],.int .i64 day] (by rfl) rfl rfl (by(try simp only[List.map_toArray,List.map_cons,List.map_nil]);rfl) ?_
 refine(pU lo hi day _ L16.out.i14).mono ?_
 rintro e_ w_ ⟨rfl,hbx⟩
 rw[HP2.out]
 refine⟨_,rfl,hK.out _ _ ?_⟩
 have L17:=aa.mk (L16.out.later hbx)
 clear hK K hbx L16
 refine j4 ?_
 refine bq 64 200 #[I,I,I,I,I,I,I,I,I,I,I,I,I,I,I,I,I,I,I,I,I,I,I,I,I,I,I,I,I,I,I,I,I,I,I,I,I,I,I,I,I,I,I,I,I,I,I,I,I,I,I,I,I,I,I,I,I,I,I,I,I,I,I,I,I,O,O,O,O,O] au (h:=?_)
 refine bq 65 201 #[I,I,I,I,I,I,I,I,I,I,I,I,I,I,I,I,I,I,I,I,I,I,I,I,I,I,I,I,I,I,I,I,I,I,I,I,I,I,I,I,I,I,I,I,I,I,I,I,I,I,I,I,I,I,I,I,I,I,I,I,I,I,I,I,I,I,O,O,O,O] au (h:=?_)
 refine bq 66 202 #[I,I,I,I,I,I,I,I,I,I,I,I,I,I,I,I,I,I,I,I,I,I,I,I,I,I,I,I,I,I,I,I,I,I,I,I,I,I,I,I,I,I,I,I,I,I,I,I,I,I,I,I,I,I,I,I,I,I,I,I,I,I,I,I,I,I,I,O,O,O] au (h:=?_)
 refine fB (i:=67) (N:=some 203) #[I,I,I,I,I,I,I,I,I,I,I,I,I,I,I,I,I,I,I,I,I,I,I,I,I,I,I,I,I,I,I,I,I,I,I,I,I,I,I,I,I,I,I,I,I,I,I,I,I,I,I,I,I,I,I,I,I,I,I,I,I,I,I,I,I,I,I,I,O,O] rfl rfl (aM au.out (by kernel_rfl)) (by decide) (λK hK=>?_)
 refine bT Tryz.func9 (by kernel_rfl) rfl #[] (by rfl) rfl rfl (by simp) ?_
 refine(mX _).mono ?_
 rintro e_ w_ ⟨rfl,hbx⟩
 refine⟨_,rfl,hK.out _ _ ?_⟩
 have L18:=aa.mk (L17.out.later hbx)
 clear hK K hbx L17
 refine j4 ?_
 refine bq 68 204 #[I,I,I,I,I,I,I,I,I,I,I,I,I,I,I,I,I,I,I,I,I,I,I,I,I,I,I,I,I,I,I,I,I,I,I,I,I,I,I,I,I,I,I,I,I,I,I,I,I,I,I,I,I,I,I,I,I,I,I,I,I,I,I,I,I,I,I,I,I,O] au (h:=?_)
 refine bq 69 8 #[I,I,I,I,I,I,I,I,I,I,I,I,I,I,I,I,I,I,I,I,I,I,I,I,I,I,I,I,I,I,I,I,I,I,I,I,I,I,I,I,I,I,I,I,I,I,I,I,I,I,I,I,I,I,I,I,I,I,I,I,I,I,I,I,I,I,I,I,I,I] au (h:=?_)
 refine fM (bP au.out (by kernel_rfl)) ?_
 refine afe _ _ ?_
 unfold kI rC
 conv=>arg 2;whnf
 go_wp2_with fail
 go_ret
 exact⟨rfl,L18.out.below⟩
end Ag
end Go.Proofs.YtdekaocdmjndaaaGreat
