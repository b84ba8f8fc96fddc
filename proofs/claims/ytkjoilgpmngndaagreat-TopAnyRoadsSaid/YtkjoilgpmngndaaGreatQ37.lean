import Derived.Test.YtkjoilgpmngndaaGreatQ36
set_option linter.all false
namespace Go.Proofs.YtkjoilgpmngndaaGreat.Wk
open Go.RowKit Go.Shelf au YtkjoilgpmngndaaGreatW.aj YtkjoilgpmngndaaGreatW.aJ YtkjoilgpmngndaaGreatW.ek
def lg.T16:Bool×List (List Nat×List Nat):=(true,[([],[]),([],[]),([],[]),([2],[2]),([3],[3]),([0,1,4,4],[0,1,4]),([5],[5]),([6],[6]),([6],[6]),([7,5,0,1,2,3,4,5,6,7],[7]),([8,9,0,1,2,3,4,5,6,7,8,9],[8])])
def lg.B16:List Nat:=[0,0,0,4,12,31,63,127,127,255,1023]
theorem lg.aa2:dW .any (opsOf Tryz.f4 16)=lg.T16:=by kernel_rfl
theorem lg.Zu:bJ lg.T16.2 lg.B16=true:=by kernel_rfl
def lg.T17:Bool×List (List Nat×List Nat):=(true,[([],[]),([],[]),([],[]),([2],[2]),([0,1,3,3],[0,1,3]),([4],[4]),([5],[5]),([5],[5]),([6,4,0,1,2,3,4,5,6],[6]),([7,8,0,1,2,3,4,5,6,7,8],[7])])
def lg.B17:List Nat:=[0,0,0,4,15,31,63,63,127,511]
theorem lg.V4:dW .any (opsOf Tryz.f4 17)=lg.T17:=by kernel_rfl
theorem lg.RP:bJ lg.T17.2 lg.B17=true:=by kernel_rfl
def lg.T24:Bool×List (List Nat×List Nat):=(true,[([],[]),([0],[0]),([],[]),([2,1],[2]),([1,3],[1,3]),([4,3],[4]),([5],[5]),([5],[5]),([6,7,5],[5,6,7]),([5,8],[5,8]),([9,5],[9]),([10],[10]),([10],[10]),([11,12,10],[10,11,12]),([10,13],[10,13]),([14,10],[14]),([15],[15]),([15],[15]),([16,17,15],[15,16,17]),([15,18],[15,18]),([19,15],[19]),([20],[20]),([20],[20]),([21,22,20],[20,21,22]),([20,23],[20,23]),([24,20],[24]),([25],[25]),([25],[25]),([26,27,25],[25,26,27]),([25,28],[25,28]),([29,25],[29]),([30],[30]),([30],[30]),([31,32,30],[30,31,32]),([30,33],[30,33]),([34,30],[34]),([35],[35]),([35],[35]),([36,37,35],[35,36,37]),([35,38],[35,38]),([39,35],[39]),([40],[40]),([40],[40]),([41,42,40],[40,41,42]),([40,43],[40,43])])
def lg.zV:List Nat:=[0,1,0,7,15,31,63,63,255,511,1023,2047,2047,8191,16383,32767,65535,65535,262143,524287,1048575,2097151,2097151,8388607,16777215,33554431,67108863,67108863,268435455,536870911,1073741823,2147483647,2147483647,8589934591,17179869183,34359738367,68719476735,68719476735,274877906943,549755813887,1099511627775,2199023255551,2199023255551,8796093022207,17592186044415]
theorem lg.aa0:dW .any (opsOf Tryz.f4 24)=lg.T24:=by kernel_rfl
theorem lg.Zr:bJ lg.T24.2 lg.zV=true:=by kernel_rfl
set_option maxRecDepth 100000 in
set_option maxHeartbeats 40000000 in
theorem agH{w0 w:World}{l0:List vC}{l1:List pO}{W:List dP}{R R2:List aV}{rt cs tw tr kg ps:List Int}{pl:List S64}{PL:List qI}{fr jH limit many:Int}{b8 b11 b12 b13:Nat}{A0 A1 A2 A3 A4 A5 A6 A7 Y0 Y1 Z0 Z1 V0 V1 T1 Pp:Option Addr}{c0 c1 c2 c3 c4 c5 c6 c7 y0 y1 z0 z1 v0 v1 t1 pp:Nat}(a:Act)(ha:a={tmps:=DF (a.tmps.getD 1 undef) (.pointer (some ⟨w0.heap.size,0,none⟩)) (a.tmps.getD 5 undef) (a.tmps.getD 7 undef) (.pointer (some ⟨b8,0,none⟩)) (.pointer (some ⟨b11,0,none⟩)) (.pointer (some ⟨b12,0,none⟩)) (.pointer (some ⟨b13,0,none⟩)) (.slice Pp PL.length pp) (λi=>a.tmps.getD i undef),defers:=[]})(L:LQ w0 w l0 l1 W R R2 rt cs tw tr kg ps pl PL fr jH limit many b8 b11 b12 b13 A0 A1 A2 A3 A4 A5 A6 A7 Y0 Y1 Z0 Z1 V0 V1 T1 Pp c0 c1 c2 c3 c4 c5 c6 c7 y0 y1 z0 z1 v0 v1 t1 pp)(hpl:PL.length<1000000)(hs:sO PL)(hpr:nT W R2 PL limit many=nT W R PL limit many)
  (hfa:dX W R2 PL limit=dX W R PL limit) (hre:j3 W R2 limit=j3 W R limit) (hfe:tJ W R2 limit=tJ W R limit) (hle:kU W R2 many=kU W R many)
  (hv0:rt.length<=v0) (hv1:cs.length<=v1) (hrt:rt.length<=1000) (hcs:cs.length<=1000) (ug:tw.length<=1000) (htr:tr.length<=1000) (OP:kg.length<=1000) (Gg:ps.length<=c7) (hps:ps.length<=1000)
  (hti:pR W R2 rt cs tw kg=pR W R rt cs tw tr) (hbo:gz W R2 rt cs=gz W R rt cs) (hwa:wY W R2 fr jH=wY W R fr jH) (hto:nW W R2 ps=nW W R ps) (hch:bD W R2=bD W R):Code.wp Tryz.prog (jK 7) (lL w0) a w:=by
 have HPR:=aa.mk hpr
 have HS:=aa.mk hs
 have HFA:=aa.mk hfa
 have HRE:=aa.mk hre
 have HFE:=aa.mk hfe
 have VA:=aa.mk hle
 obtain⟨⟨n1,e1⟩,ht⟩:∃x,pR W R rt cs tw tr=x:=⟨_,rfl⟩
 obtain⟨⟨lo,hi,e2⟩,hb⟩:∃x,gz W R rt cs=x:=⟨_,rfl⟩
 obtain⟨⟨d3,e3⟩,hw⟩:∃x,wY W R fr jH=x:=⟨_,rfl⟩
 obtain⟨⟨d4,e4⟩,hq⟩:∃x,nW W R ps=x:=⟨_,rfl⟩
 obtain⟨e0,hc⟩:∃x,bD W R=x:=⟨_,rfl⟩
 rw[ht] at hti
 rw[hb] at hbo
 rw[hw] at hwa
 rw[hq] at hto
 rw[hc] at hch
 have HT1:=aa.mk ht
 have HT2:=aa.mk hti
 have HB1:=aa.mk hb
 have HB2:=aa.mk hbo
 have HW1:=aa.mk hw
 have HW2:=aa.mk hwa
 have HQ1:=aa.mk hq
 have HQ2:=aa.mk hto
 have PK:=aa.mk hc
 have HC2:=aa.mk hch
 have L0:=aa.mk L
 clear hpr hs hfa hre hfe hle ht hti hb hbo hw hwa hq hto hc hch L
 obtain⟨u,hu⟩:∃u:Nat->Value,a={tmps:=DF (u 1) (.pointer (some ⟨w0.heap.size,0,none⟩)) (u 5) (u 7) (.pointer (some ⟨b8,0,none⟩)) (.pointer (some ⟨b11,0,none⟩)) (.pointer (some ⟨b12,0,none⟩)) (.pointer (some ⟨b13,0,none⟩)) (.slice Pp PL.length pp) u,defers:=[]}:=⟨λi=>a.tmps.getD i undef,ha⟩
 clear ha
 subst hu
 unfold DF
 refine dR 7 (by kernel_rfl) (λK7 hK7=>?_)
 unfold jK
 conv=>arg 2;whnf
 unfold lL
 refine dB (n:=11) (S:=λw'=>w'.cell? ⟨b11,0,none⟩=some (.slice Y0 W.length y0)/\w'.cell? ⟨b11,1,none⟩=some (.slice Y1 R.length y1)/\w'.cell? ⟨b13,0,none⟩=some (.slice V0 rt.length v0)/\w'.cell? ⟨b13,1,none⟩=some (.slice V1 cs.length v1)/\w'.cell? ⟨w0.heap.size,4,none⟩=some (.slice A4 tw.length c4)/\w'.cell? ⟨w0.heap.size,5,none⟩=some (.slice A5 tr.length c5)) (ds:=[5]) #[O,O,O,O,O,O,O,O,O,O,O] (by kernel_rfl) rfl rfl ⟨(by simpa using (L0.out).m11.cell 0),(by simpa using (L0.out).m11.cell 1),(by simpa using (L0.out).m13.cell 0),(by simpa using (L0.out).m13.cell 1),(by simpa using (L0.out).bx.cell 4),(by simpa using (L0.out).bx.cell 5)⟩ (λhHeld=>?_);refine bu lg.aa2 lg.Zu (λak bN=>?_)
 have L0d:=aa.mk (L0.out.later (aM (Below.refl _ _)))
 clear L0
 generalize w.drew=wd at L0d hHeld ⊢
 refine dG 0 174 #[I,O,O,O,O,O,O,O,O,O,O] ak bN hHeld (hy:=by(rintro w' ⟨s0,s1,s2,s3,s4,s5⟩;go_simp;with_reducible rfl)) (h:=?_)
 refine dG 1 175 #[I,I,O,O,O,O,O,O,O,O,O] ak bN hHeld (hy:=by(rintro w' ⟨s0,s1,s2,s3,s4,s5⟩;go_simp;with_reducible rfl)) (h:=?_)
 refine aZ 2 176 #[I,I,I,O,O,O,O,O,O,O,O] ak (h:=?_)
 refine dG 3 177 #[I,I,I,I,O,O,O,O,O,O,O] ak bN hHeld (hy:=by(rintro w' ⟨s0,s1,s2,s3,s4,s5⟩;go_simp;with_reducible rfl)) (h:=?_)
 refine dO (i:=4) (N:=some 178) #[I,I,I,I,I,O,O,O,O,O,O] rfl rfl (aI ak.out (by kernel_rfl)) (by decide) (λK hK=>?_)
 refine bW Tryz.func25 (by kernel_rfl) rfl #[.agg #[.slice A4 tw.length c4,.slice A5 tr.length c5]] (by rfl) rfl rfl (by(try simp only[List.map_toArray,List.map_cons,List.map_nil]);rfl) ?_
 refine(vD tw tr _ L0d.out.kw L0d.out.kt ug htr).mono ?_
 rintro e_ w_ ⟨⟨vA,vB,rfl,MQ,MP⟩,hbx⟩
 have e_:=L0d.out.later hbx
 refine⟨_,rfl,hK.out _ _ ⟨(by simpa using e_.m11.cell 0),(by simpa using e_.m11.cell 1),(by simpa using e_.m13.cell 0),(by simpa using e_.m13.cell 1),(by simpa using e_.bx.cell 4),(by simpa using e_.bx.cell 5)⟩ (λhHeld=>?_)⟩
 have L0e:=aa.mk (L0d.out.later hbx)
 obtain⟨Aw_,cw_,rfl,hcw,MR⟩:=Kd.cB MQ
 obtain⟨Ar_,cr_,rfl,hcr,MS⟩:=Kd.cB MP
 have Xm:=aa.mk MR
 have Xn:=aa.mk MS
 clear hK K hbx MQ MP MR MS L0d
 refine iY ?_
 refine dE (i:=5) (N:=some 179) #[I,I,I,I,I,I,O,O,O,O,O] rfl rfl (aI ak.out (by kernel_rfl)) (by decide) (λK hK=>?_)
 refine bW Tryz.func24 (by kernel_rfl) rfl #[.agg #[.slice Y0 W.length y0,.slice Y1 R.length y1],.agg #[.slice V0 rt.length v0,.slice V1 cs.length v1],.agg #[.slice Aw_ tw.length cw_,.slice Ar_ tr.length cr_]] (by rfl) rfl rfl (by(try simp only[List.map_toArray,List.map_cons,List.map_nil]);rfl) ?_
 refine(Cw L0e.out.i11 rt cs L0e.out.kr hv0 (by omega) L0e.out.kc hv1 (by omega) tw tr Xm.out hcw ug Xn.out hcr htr).mono ?_
 rintro e_ w_ ⟨rfl,hbx⟩
 rw[HT1.out]
 refine⟨_,rfl,hK.out _ _ ?_⟩
 have L1:=aa.mk (L0e.out.later hbx)
 clear hK K hbx Xm Xn hcw hcr L0e
 refine iY ?_
 refine aZ 6 173 #[I,I,I,I,I,I,I,O,O,O,O] ak (h:=?_)
 refine aZ 7 180 #[I,I,I,I,I,I,I,I,O,O,O] ak (h:=?_)
 refine aZ 8 181 #[I,I,I,I,I,I,I,I,I,O,O] ak (h:=?_)
 refine aZ 9 15 #[I,I,I,I,I,I,I,I,I,I,O] ak (h:=?_)
 refine aZ 10 16 #[I,I,I,I,I,I,I,I,I,I,I] ak (h:=?_)
 refine dK (bG ak.out (by kernel_rfl)) ?_
 clear ak bN
 go_wp2_with fail
 refine dR 8 (by kernel_rfl) (λK8 YY=>?_)
 unfold jK
 conv=>arg 2;whnf
 unfold lL
 generalize w_=w1 at L1 ⊢
 refine dB (n:=10) (S:=λw'=>w'.cell? ⟨b12,0,none⟩=some (.slice Z0 W.length z0)/\w'.cell? ⟨b12,1,none⟩=some (.slice Z1 R2.length z1)/\w'.cell? ⟨b13,0,none⟩=some (.slice V0 rt.length v0)/\w'.cell? ⟨b13,1,none⟩=some (.slice V1 cs.length v1)/\w'.cell? ⟨b8,0,none⟩=some (.slice A4 tw.length c4)/\w'.cell? ⟨b8,1,none⟩=some (.slice T1 kg.length t1)) (ds:=[4]) #[O,O,O,O,O,O,O,O,O,O] (by kernel_rfl) rfl rfl ⟨(by simpa using (L1.out).m12.cell 0),(by simpa using (L1.out).m12.cell 1),(by simpa using (L1.out).m13.cell 0),(by simpa using (L1.out).m13.cell 1),(by simpa using (L1.out).m8.cell 0),(by simpa using (L1.out).m8.cell 1)⟩ (λhHeld=>?_);refine bu lg.V4 lg.RP (λak bN=>?_)
 have L1d:=aa.mk (L1.out.later (aM (Below.refl _ _)))
 clear L1
 generalize w1.drew=wd at L1d hHeld ⊢
 refine dG 0 183 #[I,O,O,O,O,O,O,O,O,O] ak bN hHeld (hy:=by(rintro w' ⟨s0,s1,s2,s3,s4,s5⟩;go_simp;with_reducible rfl)) (h:=?_)
 refine dG 1 184 #[I,I,O,O,O,O,O,O,O,O] ak bN hHeld (hy:=by(rintro w' ⟨s0,s1,s2,s3,s4,s5⟩;go_simp;with_reducible rfl)) (h:=?_)
 refine dG 2 185 #[I,I,I,O,O,O,O,O,O,O] ak bN hHeld (hy:=by(rintro w' ⟨s0,s1,s2,s3,s4,s5⟩;go_simp;with_reducible rfl)) (h:=?_)
 refine dO (i:=3) (N:=some 186) #[I,I,I,I,O,O,O,O,O,O] rfl rfl (aI ak.out (by kernel_rfl)) (by decide) (λK hK=>?_)
 refine bW Tryz.func25 (by kernel_rfl) rfl #[.agg #[.slice A4 tw.length c4,.slice T1 kg.length t1]] (by rfl) rfl rfl (by(try simp only[List.map_toArray,List.map_cons,List.map_nil]);rfl) ?_
 refine(vD tw kg _ L1d.out.kw L1d.out.ku ug OP).mono ?_
 rintro e_ w_ ⟨⟨vA,vB,rfl,MQ,MP⟩,hbx⟩
 have e_:=L1d.out.later hbx
 refine⟨_,rfl,hK.out _ _ ⟨(by simpa using e_.m12.cell 0),(by simpa using e_.m12.cell 1),(by simpa using e_.m13.cell 0),(by simpa using e_.m13.cell 1),(by simpa using e_.m8.cell 0),(by simpa using e_.m8.cell 1)⟩ (λhHeld=>?_)⟩
 have L1e:=aa.mk (L1d.out.later hbx)
 obtain⟨Aw_,cw_,rfl,hcw,MR⟩:=Kd.cB MQ
 obtain⟨Ar_,cr_,rfl,hcr,MS⟩:=Kd.cB MP
 have Xm:=aa.mk MR
 have Xn:=aa.mk MS
 clear hK K hbx MQ MP MR MS L1d
 refine iY ?_
 refine dE (i:=4) (N:=some 187) #[I,I,I,I,I,O,O,O,O,O] rfl rfl (aI ak.out (by kernel_rfl)) (by decide) (λK hK=>?_)
 refine bW Tryz.func24 (by kernel_rfl) rfl #[.agg #[.slice Z0 W.length z0,.slice Z1 R2.length z1],.agg #[.slice V0 rt.length v0,.slice V1 cs.length v1],.agg #[.slice Aw_ tw.length cw_,.slice Ar_ kg.length cr_]] (by rfl) rfl rfl (by(try simp only[List.map_toArray,List.map_cons,List.map_nil]);rfl) ?_
 refine(Cw L1e.out.i12 rt cs L1e.out.kr hv0 (by omega) L1e.out.kc hv1 (by omega) tw kg Xm.out hcw ug Xn.out hcr OP).mono ?_
 rintro e_ w_ ⟨rfl,hbx⟩
 rw[HT2.out]
 refine⟨_,rfl,hK.out _ _ ?_⟩
 have L2:=aa.mk (L1e.out.later hbx)
 clear hK K hbx Xm Xn hcw hcr L1e
 refine iY ?_
 refine aZ 5 182 #[I,I,I,I,I,I,O,O,O,O] ak (h:=?_)
 refine aZ 6 188 #[I,I,I,I,I,I,I,O,O,O] ak (h:=?_)
 refine aZ 7 189 #[I,I,I,I,I,I,I,I,O,O] ak (h:=?_)
 refine aZ 8 17 #[I,I,I,I,I,I,I,I,I,O] ak (h:=?_)
 refine aZ 9 18 #[I,I,I,I,I,I,I,I,I,I] ak (h:=?_)
 refine dK (bG ak.out (by kernel_rfl)) ?_
 clear ak bN
 go_wp2_with fail
 refine dR 9 (by kernel_rfl) (λK9 hK9=>?_)
 unfold jK
 conv=>arg 2;whnf
 unfold lL
 generalize w_=w2 at L2 ⊢
 have hm0:=L2.out.m11.cell 0
 have hm1:=L2.out.m11.cell 1
 have hx0:=L2.out.m13.cell 0
 have hx1:=L2.out.m13.cell 1
 simp only[eP,eO] at hm0 hm1 hx0 hx1
 go_wp2_with fail
 refine(sS L2.out.i11 rt cs L2.out.kr hv0 (by omega) L2.out.kc hv1 (by omega)).mono ?_
 rintro e w3 ⟨rfl,hbx⟩
 rw[HB1.out]
 have L3:=aa.mk (L2.out.later hbx)
 clear hbx L2 hm0 hm1 hx0 hx1
 go_wp2_with fail
 refine dR 10 (by kernel_rfl) (λK10 aoU=>?_)
 unfold jK
 conv=>arg 2;whnf
 unfold lL
 have Ej:=ae (Below.refl w3.heap.size w3) (.cells #[.int .i64 lo,.int .i64 hi] 88)
 have zU:=aa.mk (aR.new w3 [.int .i64 lo,.int .i64 hi] 88)
 replace L3:=aa.mk (L3.out.later Ej)
 clear Ej
 generalize w3.alloc (.cells #[.int .i64 lo,.int .i64 hi] 88)=wa3 at L3 zU ⊢
 generalize w3.heap.size=g19 at zU ⊢
 have hm0:=L3.out.m12.cell 0
 have hm1:=L3.out.m12.cell 1
 have hx0:=L3.out.m13.cell 0
 have hx1:=L3.out.m13.cell 1
 simp only[eP,eO] at hm0 hm1 hx0 hx1
 go_wp2_with fail
 refine(sS L3.out.i12 rt cs L3.out.kr hv0 (by omega) L3.out.kc hv1 (by omega)).mono ?_
 rintro e w4 ⟨rfl,hbx⟩
 rw[HB2.out]
 have L4:=aa.mk (L3.out.later hbx)
 replace zU:=aa.mk (zU.out.below hbx)
 clear hbx L3 hm0 hm1 hx0 hx1
 go_wp2_with fail
 refine dR 11 (by kernel_rfl) (λK11 aoT=>?_)
 unfold jK
 conv=>arg 2;whnf
 unfold lL
 have Ej:=ae (Below.refl w4.heap.size w4) (.cells #[.int .i64 lo,.int .i64 hi] 88)
 have Ez:=aa.mk (aR.new w4 [.int .i64 lo,.int .i64 hi] 88)
 replace L4:=aa.mk (L4.out.later Ej)
 replace zU:=aa.mk (zU.out.below Ej)
 clear Ej
 generalize w4.alloc (.cells #[.int .i64 lo,.int .i64 hi] 88)=wa4 at L4 Ez zU ⊢
 generalize w4.heap.size=g21 at Ez ⊢
 have hm0:=L4.out.m11.cell 0
 have hm1:=L4.out.m11.cell 1
 have hx8:=L4.out.bx.cell 8
 have IY:=L4.out.bx.cell 9
 simp only[eP,eO] at hm0 hm1 hx8 IY
 go_wp2_with fail
 refine(Eu fr jH L4.out.i11).mono ?_
 rintro e w5 ⟨⟨Aq,nq,cq,rfl⟩,hbx⟩
 rw[HW1.out]
 have L5:=aa.mk (L4.out.later hbx)
 replace zU:=aa.mk (zU.out.below hbx)
 replace Ez:=aa.mk (Ez.out.below hbx)
 clear hbx L4 hm0 hm1 hx8 IY
 go_wp2_with fail
 refine dR 12 (by kernel_rfl) (λK12 aoS=>?_)
 unfold jK
 conv=>arg 2;whnf
 unfold lL
 have hm0:=L5.out.m12.cell 0
 have hm1:=L5.out.m12.cell 1
 have hx8:=L5.out.bx.cell 8
 have IY:=L5.out.bx.cell 9
 simp only[eP,eO] at hm0 hm1 hx8 IY
 go_wp2_with fail
 refine(Eu fr jH L5.out.i12).mono ?_
 rintro e w6 ⟨⟨Aq2,nq2,cq2,rfl⟩,hbx⟩
 rw[HW2.out]
 have L6:=aa.mk (L5.out.later hbx)
 replace zU:=aa.mk (zU.out.below hbx)
 replace Ez:=aa.mk (Ez.out.below hbx)
 clear hbx L5 hm0 hm1 hx8 IY
 go_wp2_with fail
 refine dR 13 (by kernel_rfl) (λK13 aoR=>?_)
 unfold jK
 conv=>arg 2;whnf
 unfold lL
 have hm0:=L6.out.m11.cell 0
 have hm1:=L6.out.m11.cell 1
 have hx7:=L6.out.bx.cell 7
 simp only[eP,eO] at hm0 hm1 hx7
 go_wp2_with fail
 refine(wM ps L6.out.ks Gg (by omega) L6.out.i11).mono ?_
 rintro e w7 ⟨⟨a1_,m1_,d1_,a2_,m2_,d2_,rfl,hx_⟩,hbx⟩
 rw[HQ1.out]
 have L7:=aa.mk (L6.out.later hbx)
 replace zU:=aa.mk (zU.out.below hbx)
 replace Ez:=aa.mk (Ez.out.below hbx)
 clear hbx L6 hm0 hm1 hx7
 go_wp2_with fail
 refine dR 14 (by kernel_rfl) (λK14 aoQ=>?_)
 unfold jK
 conv=>arg 2;whnf
 unfold lL
 have Ej:=ae (Below.refl w7.heap.size w7) (.cells #[.slice a1_ m1_ d1_,.slice a2_ m2_ d2_] 80)
 replace L7:=aa.mk (L7.out.later Ej)
 replace zU:=aa.mk (zU.out.below Ej)
 replace Ez:=aa.mk (Ez.out.below Ej)
 clear Ej
 generalize w7.alloc (.cells #[.slice a1_ m1_ d1_,.slice a2_ m2_ d2_] 80)=wa7 at L7 zU Ez ⊢
 have hm0:=L7.out.m12.cell 0
 have hm1:=L7.out.m12.cell 1
 have hx7:=L7.out.bx.cell 7
 simp only[eP,eO] at hm0 hm1 hx7
 go_wp2_with fail
 refine(wM ps L7.out.ks Gg (by omega) L7.out.i12).mono ?_
 rintro e w8 ⟨⟨a3_,m3_,d3_,a4_,m4_,d4_,rfl,hy_⟩,hbx⟩
 rw[HQ2.out]
 have L8:=aa.mk (L7.out.later hbx)
 replace zU:=aa.mk (zU.out.below hbx)
 replace Ez:=aa.mk (Ez.out.below hbx)
 clear hbx L7 hm0 hm1 hx7
 go_wp2_with fail
 refine dR 15 (by kernel_rfl) (λK15 aoP=>?_)
 unfold jK
 conv=>arg 2;whnf
 unfold lL
 have Ej:=ae (Below.refl w8.heap.size w8) (.cells #[.slice a3_ m3_ d3_,.slice a4_ m4_ d4_] 80)
 replace L8:=aa.mk (L8.out.later Ej)
 replace zU:=aa.mk (zU.out.below Ej)
 replace Ez:=aa.mk (Ez.out.below Ej)
 clear Ej
 generalize w8.alloc (.cells #[.slice a3_ m3_ d3_,.slice a4_ m4_ d4_] 80)=wa8 at L8 zU Ez ⊢
 go_upto_region 24 with(fail)
 refine dB (n:=45) (S:=λw'=>w'.cell? ⟨b11,0,none⟩=some (.slice Y0 W.length y0)/\w'.cell? ⟨b11,1,none⟩=some (.slice Y1 R.length y1)/\w'.cell? ⟨b12,0,none⟩=some (.slice Z0 W.length z0)/\w'.cell? ⟨b12,1,none⟩=some (.slice Z1 R2.length z1)/\w'.cell? ⟨g19,0,none⟩=some (.int .i64 lo)/\w'.cell? ⟨g19,1,none⟩=some (.int .i64 hi)/\w'.cell? ⟨g21,0,none⟩=some (.int .i64 lo)/\w'.cell? ⟨g21,1,none⟩=some (.int .i64 hi)) (ds:=[]) #[O,O,O,O,O,O,O,O,O,O,O,O,O,O,O,O,O,O,O,O,O,O,O,O,O,O,O,O,O,O,O,O,O,O,O,O,O,O,O,O,O,O,O,O,O] (by kernel_rfl) rfl rfl ⟨(by simpa using (L8.out).m11.cell 0),(by simpa using (L8.out).m11.cell 1),(by simpa using (L8.out).m12.cell 0),(by simpa using (L8.out).m12.cell 1),(by simpa using (zU.out).cell 0),(by simpa using (zU.out).cell 1),(by simpa using (Ez.out).cell 0),(by simpa using (Ez.out).cell 1)⟩ (λhHeld=>?_);refine bu lg.aa0 lg.Zr (λak bN=>?_)
 have Lx:=aa.mk (L8.out.later (aM (Below.refl _ _)))
 have Gx:=aa.mk (zU.out.below (aM (Below.refl _ _)))
 have Hx:=aa.mk (Ez.out.below (aM (Below.refl _ _)))
 clear L8 zU Ez hx_ hy_
 generalize wa8.drew=wd at Lx Gx Hx hHeld ⊢
 refine dG 0 238 #[I,O,O,O,O,O,O,O,O,O,O,O,O,O,O,O,O,O,O,O,O,O,O,O,O,O,O,O,O,O,O,O,O,O,O,O,O,O,O,O,O,O,O,O,O] ak bN hHeld (hy:=by(rintro w' ⟨s0,s1,s2,s3,s4,s5,s6,s7⟩;go_simp;with_reducible rfl)) (h:=?_)
 refine dG 2 240 #[I,O,I,O,O,O,O,O,O,O,O,O,O,O,O,O,O,O,O,O,O,O,O,O,O,O,O,O,O,O,O,O,O,O,O,O,O,O,O,O,O,O,O,O,O] ak bN hHeld (hy:=by(rintro w' ⟨s0,s1,s2,s3,s4,s5,s6,s7⟩;go_simp;with_reducible rfl)) (h:=?_)
 refine dO (i:=1) (N:=some 239) #[I,I,I,O,O,O,O,O,O,O,O,O,O,O,O,O,O,O,O,O,O,O,O,O,O,O,O,O,O,O,O,O,O,O,O,O,O,O,O,O,O,O,O,O,O] rfl rfl (aI ak.out (by kernel_rfl)) (by decide) (λK hK=>?_)
 refine bW Tryz.func29 (by kernel_rfl) rfl #[.agg #[.slice Y0 W.length y0,.slice Y1 R.length y1]] (by rfl) rfl rfl (by(try simp only[List.map_toArray,List.map_cons,List.map_nil]);rfl) ?_
 refine(dM Lx.out.i11).mono ?_
 rintro e_ w_ ⟨rfl,hbx⟩
 rw[PK.out]
 have e_:=Lx.out.later hbx
 refine⟨_,rfl,hK.out _ _ ⟨(by simpa using e_.m11.cell 0),(by simpa using e_.m11.cell 1),(by simpa using e_.m12.cell 0),(by simpa using e_.m12.cell 1),(by simpa using (Gx.out.below hbx).cell 0),(by simpa using (Gx.out.below hbx).cell 1),(by simpa using (Hx.out.below hbx).cell 0),(by simpa using (Hx.out.below hbx).cell 1)⟩ (λhHeld=>?_)⟩
 have Ly:=aa.mk (Lx.out.later hbx)
 have Gy:=aa.mk (Gx.out.below hbx)
 have Hy:=aa.mk (Hx.out.below hbx)
 clear hK K hbx Lx Gx Hx
 refine iY ?_
 refine dO (i:=3) (N:=some 241) #[I,I,I,I,O,O,O,O,O,O,O,O,O,O,O,O,O,O,O,O,O,O,O,O,O,O,O,O,O,O,O,O,O,O,O,O,O,O,O,O,O,O,O,O,O] rfl rfl (aI ak.out (by kernel_rfl)) (by decide) (λK hK=>?_)
 refine bW Tryz.func29 (by kernel_rfl) rfl #[.agg #[.slice Z0 W.length z0,.slice Z1 R2.length z1]] (by rfl) rfl rfl (by(try simp only[List.map_toArray,List.map_cons,List.map_nil]);rfl) ?_
 refine(dM Ly.out.i12).mono ?_
 rintro e_ w_ ⟨rfl,hbx⟩
 rw[HC2.out]
 have e_:=Ly.out.later hbx
 refine⟨_,rfl,hK.out _ _ ⟨(by simpa using e_.m11.cell 0),(by simpa using e_.m11.cell 1),(by simpa using e_.m12.cell 0),(by simpa using e_.m12.cell 1),(by simpa using (Gy.out.below hbx).cell 0),(by simpa using (Gy.out.below hbx).cell 1),(by simpa using (Hy.out.below hbx).cell 0),(by simpa using (Hy.out.below hbx).cell 1)⟩ (λhHeld=>?_)⟩
 have Lz:=aa.mk (Ly.out.later hbx)
 have Gz:=aa.mk (Gy.out.below hbx)
 have Hz:=aa.mk (Hy.out.below hbx)
 clear hK K hbx Ly Gy Hy
 refine iY ?_
 refine aZ 4 242 #[I,I,I,I,I,O,O,O,O,O,O,O,O,O,O,O,O,O,O,O,O,O,O,O,O,O,O,O,O,O,O,O,O,O,O,O,O,O,O,O,O,O,O,O,O] ak (h:=?_)
 refine aZ 5 243 #[I,I,I,I,I,I,O,O,O,O,O,O,O,O,O,O,O,O,O,O,O,O,O,O,O,O,O,O,O,O,O,O,O,O,O,O,O,O,O,O,O,O,O,O,O] ak (h:=?_)
 refine aZ 6 244 #[I,I,I,I,I,I,I,O,O,O,O,O,O,O,O,O,O,O,O,O,O,O,O,O,O,O,O,O,O,O,O,O,O,O,O,O,O,O,O,O,O,O,O,O,O] ak (h:=?_)
 refine aZ 7 245 #[I,I,I,I,I,I,I,I,O,O,O,O,O,O,O,O,O,O,O,O,O,O,O,O,O,O,O,O,O,O,O,O,O,O,O,O,O,O,O,O,O,O,O,O,O] ak (h:=?_)
 refine aZ 8 246 #[I,I,I,I,I,I,I,I,I,O,O,O,O,O,O,O,O,O,O,O,O,O,O,O,O,O,O,O,O,O,O,O,O,O,O,O,O,O,O,O,O,O,O,O,O] ak (h:=?_)
 refine aZ 9 247 #[I,I,I,I,I,I,I,I,I,I,O,O,O,O,O,O,O,O,O,O,O,O,O,O,O,O,O,O,O,O,O,O,O,O,O,O,O,O,O,O,O,O,O,O,O] ak (h:=?_)
 refine aZ 10 248 #[I,I,I,I,I,I,I,I,I,I,I,O,O,O,O,O,O,O,O,O,O,O,O,O,O,O,O,O,O,O,O,O,O,O,O,O,O,O,O,O,O,O,O,O,O] ak (h:=?_)
 refine aZ 11 249 #[I,I,I,I,I,I,I,I,I,I,I,I,O,O,O,O,O,O,O,O,O,O,O,O,O,O,O,O,O,O,O,O,O,O,O,O,O,O,O,O,O,O,O,O,O] ak (h:=?_)
 refine aZ 12 250 #[I,I,I,I,I,I,I,I,I,I,I,I,I,O,O,O,O,O,O,O,O,O,O,O,O,O,O,O,O,O,O,O,O,O,O,O,O,O,O,O,O,O,O,O,O] ak (h:=?_)
 refine aZ 13 251 #[I,I,I,I,I,I,I,I,I,I,I,I,I,I,O,O,O,O,O,O,O,O,O,O,O,O,O,O,O,O,O,O,O,O,O,O,O,O,O,O,O,O,O,O,O] ak (h:=?_)
 refine aZ 14 252 #[I,I,I,I,I,I,I,I,I,I,I,I,I,I,I,O,O,O,O,O,O,O,O,O,O,O,O,O,O,O,O,O,O,O,O,O,O,O,O,O,O,O,O,O,O] ak (h:=?_)
 refine aZ 15 253 #[I,I,I,I,I,I,I,I,I,I,I,I,I,I,I,I,O,O,O,O,O,O,O,O,O,O,O,O,O,O,O,O,O,O,O,O,O,O,O,O,O,O,O,O,O] ak (h:=?_)
 refine aZ 16 254 #[I,I,I,I,I,I,I,I,I,I,I,I,I,I,I,I,I,O,O,O,O,O,O,O,O,O,O,O,O,O,O,O,O,O,O,O,O,O,O,O,O,O,O,O,O] ak (h:=?_)
 refine aZ 17 255 #[I,I,I,I,I,I,I,I,I,I,I,I,I,I,I,I,I,I,O,O,O,O,O,O,O,O,O,O,O,O,O,O,O,O,O,O,O,O,O,O,O,O,O,O,O] ak (h:=?_)
 refine aZ 18 256 #[I,I,I,I,I,I,I,I,I,I,I,I,I,I,I,I,I,I,I,O,O,O,O,O,O,O,O,O,O,O,O,O,O,O,O,O,O,O,O,O,O,O,O,O,O] ak (h:=?_)
 refine aZ 19 257 #[I,I,I,I,I,I,I,I,I,I,I,I,I,I,I,I,I,I,I,I,O,O,O,O,O,O,O,O,O,O,O,O,O,O,O,O,O,O,O,O,O,O,O,O,O] ak (h:=?_)
 refine aZ 20 258 #[I,I,I,I,I,I,I,I,I,I,I,I,I,I,I,I,I,I,I,I,I,O,O,O,O,O,O,O,O,O,O,O,O,O,O,O,O,O,O,O,O,O,O,O,O] ak (h:=?_)
 refine dG 21 259 #[I,I,I,I,I,I,I,I,I,I,I,I,I,I,I,I,I,I,I,I,I,I,O,O,O,O,O,O,O,O,O,O,O,O,O,O,O,O,O,O,O,O,O,O,O] ak bN hHeld (hy:=by(rintro w' ⟨s0,s1,s2,s3,s4,s5,s6,s7⟩;go_simp;with_reducible rfl)) (h:=?_)
 refine dG 22 260 #[I,I,I,I,I,I,I,I,I,I,I,I,I,I,I,I,I,I,I,I,I,I,I,O,O,O,O,O,O,O,O,O,O,O,O,O,O,O,O,O,O,O,O,O,O] ak bN hHeld (hy:=by(rintro w' ⟨s0,s1,s2,s3,s4,s5,s6,s7⟩;go_simp;with_reducible rfl)) (h:=?_)
 refine aZ 23 261 #[I,I,I,I,I,I,I,I,I,I,I,I,I,I,I,I,I,I,I,I,I,I,I,I,O,O,O,O,O,O,O,O,O,O,O,O,O,O,O,O,O,O,O,O,O] ak (h:=?_)
 refine aZ 24 262 #[I,I,I,I,I,I,I,I,I,I,I,I,I,I,I,I,I,I,I,I,I,I,I,I,I,O,O,O,O,O,O,O,O,O,O,O,O,O,O,O,O,O,O,O,O] ak (h:=?_)
 refine aZ 25 263 #[I,I,I,I,I,I,I,I,I,I,I,I,I,I,I,I,I,I,I,I,I,I,I,I,I,I,O,O,O,O,O,O,O,O,O,O,O,O,O,O,O,O,O,O,O] ak (h:=?_)
 refine aZ 26 264 #[I,I,I,I,I,I,I,I,I,I,I,I,I,I,I,I,I,I,I,I,I,I,I,I,I,I,I,O,O,O,O,O,O,O,O,O,O,O,O,O,O,O,O,O,O] ak (h:=?_)
 refine aZ 27 265 #[I,I,I,I,I,I,I,I,I,I,I,I,I,I,I,I,I,I,I,I,I,I,I,I,I,I,I,I,O,O,O,O,O,O,O,O,O,O,O,O,O,O,O,O,O] ak (h:=?_)
 refine aZ 28 266 #[I,I,I,I,I,I,I,I,I,I,I,I,I,I,I,I,I,I,I,I,I,I,I,I,I,I,I,I,I,O,O,O,O,O,O,O,O,O,O,O,O,O,O,O,O] ak (h:=?_)
 refine aZ 29 267 #[I,I,I,I,I,I,I,I,I,I,I,I,I,I,I,I,I,I,I,I,I,I,I,I,I,I,I,I,I,I,O,O,O,O,O,O,O,O,O,O,O,O,O,O,O] ak (h:=?_)
 refine aZ 30 268 #[I,I,I,I,I,I,I,I,I,I,I,I,I,I,I,I,I,I,I,I,I,I,I,I,I,I,I,I,I,I,I,O,O,O,O,O,O,O,O,O,O,O,O,O,O] ak (h:=?_)
 refine aZ 31 269 #[I,I,I,I,I,I,I,I,I,I,I,I,I,I,I,I,I,I,I,I,I,I,I,I,I,I,I,I,I,I,I,I,O,O,O,O,O,O,O,O,O,O,O,O,O] ak (h:=?_)
 refine aZ 32 270 #[I,I,I,I,I,I,I,I,I,I,I,I,I,I,I,I,I,I,I,I,I,I,I,I,I,I,I,I,I,I,I,I,I,O,O,O,O,O,O,O,O,O,O,O,O] ak (h:=?_)
 refine aZ 33 271 #[I,I,I,I,I,I,I,I,I,I,I,I,I,I,I,I,I,I,I,I,I,I,I,I,I,I,I,I,I,I,I,I,I,I,O,O,O,O,O,O,O,O,O,O,O] ak (h:=?_)
 refine aZ 34 272 #[I,I,I,I,I,I,I,I,I,I,I,I,I,I,I,I,I,I,I,I,I,I,I,I,I,I,I,I,I,I,I,I,I,I,I,O,O,O,O,O,O,O,O,O,O] ak (h:=?_)
 refine aZ 35 273 #[I,I,I,I,I,I,I,I,I,I,I,I,I,I,I,I,I,I,I,I,I,I,I,I,I,I,I,I,I,I,I,I,I,I,I,I,O,O,O,O,O,O,O,O,O] ak (h:=?_)
 refine aZ 36 274 #[I,I,I,I,I,I,I,I,I,I,I,I,I,I,I,I,I,I,I,I,I,I,I,I,I,I,I,I,I,I,I,I,I,I,I,I,I,O,O,O,O,O,O,O,O] ak (h:=?_)
 refine aZ 37 275 #[I,I,I,I,I,I,I,I,I,I,I,I,I,I,I,I,I,I,I,I,I,I,I,I,I,I,I,I,I,I,I,I,I,I,I,I,I,I,O,O,O,O,O,O,O] ak (h:=?_)
 refine aZ 38 276 #[I,I,I,I,I,I,I,I,I,I,I,I,I,I,I,I,I,I,I,I,I,I,I,I,I,I,I,I,I,I,I,I,I,I,I,I,I,I,I,O,O,O,O,O,O] ak (h:=?_)
 refine aZ 39 277 #[I,I,I,I,I,I,I,I,I,I,I,I,I,I,I,I,I,I,I,I,I,I,I,I,I,I,I,I,I,I,I,I,I,I,I,I,I,I,I,I,O,O,O,O,O] ak (h:=?_)
 refine aZ 40 278 #[I,I,I,I,I,I,I,I,I,I,I,I,I,I,I,I,I,I,I,I,I,I,I,I,I,I,I,I,I,I,I,I,I,I,I,I,I,I,I,I,I,O,O,O,O] ak (h:=?_)
 refine aZ 41 279 #[I,I,I,I,I,I,I,I,I,I,I,I,I,I,I,I,I,I,I,I,I,I,I,I,I,I,I,I,I,I,I,I,I,I,I,I,I,I,I,I,I,I,O,O,O] ak (h:=?_)
 refine aZ 42 280 #[I,I,I,I,I,I,I,I,I,I,I,I,I,I,I,I,I,I,I,I,I,I,I,I,I,I,I,I,I,I,I,I,I,I,I,I,I,I,I,I,I,I,I,O,O] ak (h:=?_)
 refine aZ 43 281 #[I,I,I,I,I,I,I,I,I,I,I,I,I,I,I,I,I,I,I,I,I,I,I,I,I,I,I,I,I,I,I,I,I,I,I,I,I,I,I,I,I,I,I,I,O] ak (h:=?_)
 refine aZ 44 282 #[I,I,I,I,I,I,I,I,I,I,I,I,I,I,I,I,I,I,I,I,I,I,I,I,I,I,I,I,I,I,I,I,I,I,I,I,I,I,I,I,I,I,I,I,I] ak (h:=?_)
 refine dK (bG ak.out (by kernel_rfl)) ?_
 go_wp2_with fail
 refine abo _ ?_ Lz.out hpl HS.out HPR.out HFA.out HRE.out HFE.out VA.out
 rfl
end Go.Proofs.YtkjoilgpmngndaaGreat.Wk
