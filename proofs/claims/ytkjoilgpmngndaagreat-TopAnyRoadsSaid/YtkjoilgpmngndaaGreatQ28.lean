import Derived.Test.YtkjoilgpmngndaaGreatQ27
set_option maxHeartbeats 40000000
set_option maxRecDepth 100000
set_option linter.all false
namespace Go.Proofs.YtkjoilgpmngndaaGreat
open Go.RowKit Go.Shelf au YtkjoilgpmngndaaGreatW.aj YtkjoilgpmngndaaGreatW.aJ YtkjoilgpmngndaaGreatW.ek
def cy.T4:Bool×List (List Nat×List Nat):=(true,[([],[]),([0],[0]),([],[]),([2,1],[2]),([1,3,0,1],[1]),([3,4,0,1,2,3,4],[3]),([5,0,1,2,3,4,5],[])])
def cy.B4:List Nat:=[0,1,0,7,15,31,63]
theorem cy.yI:dW .any (opsOf Tryz.f36 4)=cy.T4:=by kernel_rfl
theorem cy.rC:bJ cy.T4.2 cy.B4=true:=by kernel_rfl
def sU(ss:List dQ)(nn:Nat)(L:List Int):Nat->List Int
 |0=>List.replicate nn 0
 |k+1=>(sU ss nn L k).set (aN ss k).f1.toNat ((sU ss nn L k).getD (aN ss k).f1.toNat 0+L.getD k 0)
def Nc(ss:List dQ)(nn:Nat)(L:List Int):Prop:=∀k,k<ss.length->0<=(sU ss nn L k).getD (aN ss k).f1.toNat 0+L.getD k 0/\(sU ss nn L k).getD (aN ss k).f1.toNat 0+L.getD k 0<1000000
theorem EH{A0:Option Addr}{c0:Nat}{old:List Int}{nw:Int}{A2:Option Addr}{c2:Nat}{ss:List dQ}{A3:Option Addr}{c3:Nat}{js:List jO}{w:World}(h:Nr w A0 c0 old A2 c2 ss A3 c3 js)(hss:ss.length<=8)(hs0:0<ss.length)(Wu:old.length<=4)(hst:∀s ∈ ss,kH old.length nw s)(P:Nat->Int×Int)(hP:Nb old ss P)(nn:Nat)(hnn:nw=(nn:Int))(hn0:0<nn)(hn4:nn<=4)(hsum:Nc ss nn (kG ss P old.length)):
  Calls Tryz.prog 81 #[.agg #[.slice A0 old.length c0,.int .i64 nw,.slice A2 ss.length c2,.slice A3 js.length c3]] w λe w'=>(∃v,e= .returned v/\(Kd.int .i64).R 3 w' w.heap.size (λ_=>True) v (sU ss nn (kG ss P old.length) ss.length))/\Below w.heap.size w w':=by
 subst hnn
 have H:=aa.mk h
 have HP:=aa.mk hP
 have HST:=aa.mk hst
 have CE:=aa.mk hsum
 have SH:=aa.mk (zb ss P old.length)
 obtain⟨L,hL⟩:∃L,kG ss P old.length=L:=⟨_,rfl⟩
 rw[hL] at CE SH ⊢
 have HL:=aa.mk hL
 clear h hP hst hsum hL
 go_enter Tryz.func81,Tryz.ntmps81
 have HB0:=aa.mk (ae (Below.refl w.heap.size w) (.cells #[.slice A0 old.length c0,.int .i64 (nn:Int),.slice A2 ss.length c2,.slice A3 js.length c3] 43))
 have B10:=aa.mk (aR.new w [.slice A0 old.length c0,.int .i64 (nn:Int),.slice A2 ss.length c2,.slice A3 js.length c3] 43)
 have hsz0:w.heap.size<(w.alloc (.cells #[.slice A0 old.length c0,.int .i64 (nn:Int),.slice A2 ss.length c2,.slice A3 js.length c3] 43)).heap.size:=by simp
 go_wp2_with ((with_reducible refine cZ (N:=8) rfl ?_);refine Kd.La (Kd.int .i64) (w0:=w) w.heap.size 3 rfl rfl 22 (.tmp 7) (.tmp 7) rfl (nn:Int) rfl rfl Tryz.underlying22 (.int .i64 0) 8 info3 rfl (by decide) (by decide) (0:Int) (ok:=λ_=>True) (okp:=λ_=>False) rfl (λ_ h=>h.elim) trivial (by omega) (by simp only[Int.toNat_natCast];omega) HB0.out (by omega) ?_;intro vo w1 hon hbn hgn fP;simp only[Int.toNat_natCast] at hon;have Lp:=aa.mk hon;have HB1:=aa.mk hbn;have B11:=aa.mk (B10.out.move (hgn.block _ (by omega) (λe=>by cases e)));have h10:=B11.out.cell 0;have h11:=B11.out.cell 1;have h12:=B11.out.cell 2;have sI:=B11.out.cell 3;simp only[eP,eO] at h10 h11 h12 sI;obtain⟨go,co,rfl,_⟩:=qB Lp.out 0 (by simp only[List.length_replicate];omega);clear hon hbn hgn fP)
 have hgo:=(Kd.bE Lp.out).1 go (by simp[Value.ownBlock])
 have OT:=hgo.2.2.1
 have abW:w.heap.size<=go:=hgo.2.1
 have aos:go≠w.heap.size:=λe=>by
  subst e
  obtain⟨_,_,_,q,hq,cells,hk⟩:=hgo
  rw[show w1.heap[w.heap.size]?=_ from B11.out] at hk
  have hq':q=3:=by simpa[show(Kd.int IntKind.i64).E=[] from rfl] using hq
  subst hq'
  cases hk
 have HO:=aa.mk (show(Kd.int .i64).R 3 w1 w.heap.size (λk=>some k=some go) (.slice (some ⟨go,0,none⟩) nn co) (sU ss nn L 0) by
  have hx:=Kd.ym rfl Lp.out
  simp only[List.length_replicate,Value.ownBlock] at hx
  exact hx)
 clear HB0 B10 hsz0 Lp hgo
 refine(vN (H.out.below HB1.out) hss hs0 Wu HST.out P HP.out).mono ?_
 rintro e w2 ⟨⟨v10,rfl,hR⟩,hb⟩
 rw[HL.out] at hR
 have hll:=SH.out
 obtain⟨b10,c10,rfl,_⟩:=qB hR 0 (by rw[hll];exact hs0)
 have Kv:=(Kd.bE hR).1 b10 (by simp[Value.ownBlock])
 have acd:=Kv.2.1
 have WE:=Kv.2.2.1
 have HR:=aa.mk hR
 have HB2:=aa.mk (HB1.out.trans (hb.mono HB1.out.size))
 have EB:=aa.mk (B11.out.below hb)
 have Vy:=aa.mk (Kd.bV HO.out hb)
 have hs2:=hb.size
 clear hR hb Kv HB1 B11 HO h10 h11 h12 sI hll
 have HR':=aa.mk (show(Kd.int .i64).R 3 w2 w1.heap.size (λ_=>True) (.slice (some ⟨b10,0,none⟩) ss.length c10) L by have:=HR.out;rw[SH.out] at this;exact this)
 have hle:=SH.out
 rw[hle]
 clear hle HR
 go_wp2_with fail
 go_loopw [12] (λv12 wr=>∃k:Nat,k<=ss.length/\v12= .int .i64 k/\w2.heap.size<=wr.heap.size/\aa (bq w2.heap.size (λb=>b=go) w2 wr)/\aa ((Kd.int .i64).R 3 wr w.heap.size (λk=>some k=some go) (.slice (some ⟨go,0,none⟩) nn co) (sU ss nn L k))) (λv12 _=>ss.length-(intOf v12).toNat)
 case atStart=>exact⟨0,Nat.zero_le _,rfl,Nat.le_refl _,⟨bq.refl _ _ _⟩,Vy⟩
 case round=>
  clear Vy
  obtain⟨k,hk,rfl,yT,HK,HO⟩:=hrel
  have h12:=(HK.out.cell (p:=⟨w.heap.size,2,none⟩) EB.out.lt (by simp only;omega)).trans (EB.out.cell 2)
  simp only[eP,eO] at h12
  have F8:=aa.mk (show Below w.heap.size w wr from⟨HK.out.os.trans HB2.out.os,HK.out.tape.trans HB2.out.tape,HK.out.output.trans HB2.out.output,Nat.le_trans HB2.out.size HK.out.size,λk hk=>(HK.out.block k (by have:=HB2.out.size;omega) (by omega)).trans (HB2.out.block k hk)⟩)
  by_cases hkl:k<ss.length
  .have h10:=(HK.out.cell (p:=⟨b10,k,none⟩) WE (by simp only;omega)).trans (Kd.jE (0:Int) HR'.out (k:Int) (by omega) (by omega)).1
   simp only[Od,Int.toNat_natCast] at h10
   obtain⟨ad,e,_,hq1,_⟩:=yh (H.out.below F8.out).PV (k:Int) (by omega) (by omega)
   cases e
   simp only[Int.toNat_natCast] at hq1
   have hok:=HST.out _ (oO ss k hkl)
   have hSU:=CE.out k hkl
   have HSS:=aa.mk (show sU ss nn L (k+1)=(sU ss nn L k).set (aN ss k).f1.toNat ((sU ss nn L k).getD (aN ss k).f1.toNat 0+L.getD k 0) from rfl)
   have ahq:=hok.n0
   have hn1':=hok.n1
   rw[show iX ss (k:Int)=aN ss k from rfl] at hq1
   obtain⟨D,hD⟩:∃D:Nat,(aN ss k).f1=D:=⟨(aN ss k).f1.toNat,by omega⟩
   rw[hD] at hq1 hn1'
   rw[hD,Int.toNat_natCast] at hSU HSS
   have hDn:D<nn:=by omega
   have WL:=(Kd.jE (0:Int) HO.out (D:Int) (by omega) (by omega))
   simp only[Od,Int.toNat_natCast] at WL
   obtain⟨YX,ach⟩:=WL
   obtain⟨sv,hsv⟩:∃x,(sU ss nn L k).getD D 0=x:=⟨_,rfl⟩
   obtain⟨lv,hlv⟩:∃x,L.getD k 0=x:=⟨_,rfl⟩
   rw[hsv,hlv] at hSU HSS
   rw[hsv] at YX
   rw[hlv] at h10
   have hwr:wrap64 (sv+lv)=sv+lv:=IntWalk.wrap64_in _ (by omega)
   have Xi:=aa.mk (Kd.uy HO.out (D:Int) (sv+lv))
   simp only[Int.toNat_natCast] at Xi
   have HKn:=aa.mk (HK.out.setCell (p:=⟨go,D,none⟩) (.inl rfl) (.int .i64 (sv+lv)))
   have hsn:w2.heap.size<=(wr.setCell ⟨go,D,none⟩ (.int .i64 (sv+lv))).heap.size:=by rw[size_set];exact yT
   clear hok hSU ahq hD hsv hlv
   go_wp2_with fail
   exact⟨⟨k+1,by omega,by go_num,hsn,HKn,⟨by rw[HSS.out];exact Xi.out⟩⟩,by simp[intOf];omega⟩
  .obtain rfl:k=ss.length:=by omega
   go_wp2_with fail
   go_ret
   exact⟨⟨_,rfl,Kd.bB HO.out (λ_ _=>trivial)⟩,F8.out⟩
theorem IQ{A0:Option Addr}{c0:Nat}{old:List Int}{nw:Int}{A2:Option Addr}{c2:Nat}{ss:List dQ}{A3:Option Addr}{c3:Nat}{js:List jO}{w:World}(h:Nr w A0 c0 old A2 c2 ss A3 c3 js)(hc:lY old nw ss js=0)(P:Nat->Int×Int)(hP:Nb old ss P)(hsum:Nc ss nw.toNat (kG ss P old.length)):
  Calls Tryz.prog 36 #[.agg #[.slice A0 old.length c0,.int .i64 nw,.slice A2 ss.length c2,.slice A3 js.length c3]] w λe w'=>(∃v1 v2,e= .returned (.tuple #[v1,v2,.int .i64 0])/\(Kd.int .i64).R 3 w' w.heap.size (λ_=>True) v1 (kG ss P old.length)/\(Kd.int .i64).R 3 w' w.heap.size (λ_=>True) v2 (sU ss nw.toNat (kG ss P old.length) ss.length))/\Below w.heap.size w w':=by
 obtain⟨ho0,Wu,hs0,hs8,hj,hol,hn1,hn4,hst,hwe,hjo⟩:=Ae hc
 have H:=aa.mk h
 have HP:=aa.mk hP
 have HST:=aa.mk hst
 have CE:=aa.mk hsum
 have HC:=aa.mk hc
 clear h hP hst hsum hc hol hwe hjo hj ho0
 go_enter Tryz.func36,Tryz.ntmps36
 go_wp2_with fail
 have hb0:=ae (Below.refl w.heap.size w) (.cells #[.slice A0 old.length c0,.int .i64 nw,.slice A2 ss.length c2,.slice A3 js.length c3] 43)
 have B0:=aR.new w [.slice A0 old.length c0,.int .i64 nw,.slice A2 ss.length c2,.slice A3 js.length c3] 43
 refine(dM (H.out.below hb0)).mono ?_
 rintro e w1 ⟨rfl,hb1⟩
 rw[HC.out]
 have B1:=aa.mk (B0.below hb1)
 have HB1:=aa.mk (hb0.trans (hb1.mono (by simp)))
 have h10:=B1.out.cell 0
 have h11:=B1.out.cell 1
 have h12:=B1.out.cell 2
 have sI:=B1.out.cell 3
 simp only[eP,eO] at h10 h11 h12 sI
 clear hb0 hb1 B0
 go_wp2_with fail
 refine dB (n:=7) (S:=λw'=>w'.cell? ⟨w.heap.size,0,none⟩=some (.slice A0 old.length c0)/\w'.cell? ⟨w.heap.size,1,none⟩=some (.int .i64 nw)/\w'.cell? ⟨w.heap.size,2,none⟩=some (.slice A2 ss.length c2)/\w'.cell? ⟨w.heap.size,3,none⟩=some (.slice A3 js.length c3)) (ds:=[3]) #[O,O,O,O,O,O,O] (by kernel_rfl) rfl rfl ⟨h10,h11,h12,sI⟩ (λhHeld=>?_);refine bu cy.yI cy.rC (λak bN=>?_)
 have Da:=aa.mk (aM HB1.out)
 have B1d:=aa.mk (B1.out.move rfl:aR w1.drew _ _ _)
 clear HB1 B1 h10 h11 h12 sI
 generalize w1.drew=wd at Da B1d hHeld ⊢
 refine dG 0 11 #[I,O,O,O,O,O,O] ak bN hHeld (hy:=by(rintro w' ⟨s0,s1,s2,s3⟩;go_simp;with_reducible rfl)) (h:=?_)
 refine dG 2 13 #[I,O,I,O,O,O,O] ak bN hHeld (hy:=by(rintro w' ⟨s0,s1,s2,s3⟩;go_simp;with_reducible rfl)) (h:=?_)
 refine dO (i:=1) (N:=some 12) #[I,I,I,O,O,O,O] rfl rfl (aI ak.out (by kernel_rfl)) (by decide) (λK hK=>?_)
 refine bW Tryz.func80 (by kernel_rfl) rfl #[.agg #[.slice A0 old.length c0,.int .i64 nw,.slice A2 ss.length c2,.slice A3 js.length c3]] (by rfl) rfl rfl (by(try simp only[List.map_toArray,List.map_cons,List.map_nil]);rfl) ?_
 refine(vN (nw:=nw) (js:=js) (H.out.below Da.out) hs8 hs0 Wu HST.out P HP.out).mono ?_
 rintro e_ w_ ⟨⟨vc,rfl,hRc⟩,hbx⟩
 have e_:=B1d.out.below hbx
 refine⟨_,rfl,hK.out _ _ ⟨(by simpa using e_.cell 0),(by simpa using e_.cell 1),(by simpa using e_.cell 2),(by simpa using e_.cell 3)⟩ (λhHeld=>?_)⟩
 clear hK K
 have adH:=aa.mk (Kd.ed hRc Da.out.size)
 have HB2:=aa.mk (Da.out.trans (hbx.mono Da.out.size))
 clear hbx hRc Da B1d
 refine iY ?_
 refine dE (i:=3) (N:=some 14) #[I,I,I,I,O,O,O] rfl rfl (aI ak.out (by kernel_rfl)) (by decide) (λK hK=>?_)
 refine bW Tryz.func81 (by kernel_rfl) rfl #[.agg #[.slice A0 old.length c0,.int .i64 nw,.slice A2 ss.length c2,.slice A3 js.length c3]] (by rfl) rfl rfl (by(try simp only[List.map_toArray,List.map_cons,List.map_nil]);rfl) ?_
 refine(EH (nw:=nw) (js:=js) (H.out.below HB2.out) hs8 hs0 Wu HST.out P HP.out nw.toNat (by omega) (by omega) (by omega) CE.out).mono ?_
 rintro e_ w_ ⟨⟨vs,rfl,hRs⟩,hbx⟩
 refine⟨_,rfl,hK.out _ _ ?_⟩
 clear hK K
 have HRc:=aa.mk (Kd.bV adH.out hbx)
 have HRs:=aa.mk (Kd.ed hRs HB2.out.size)
 have HB3:=aa.mk (HB2.out.trans (hbx.mono HB2.out.size))
 clear hbx hRs HB2 adH
 refine iY ?_
 refine aZ 4 2 #[I,I,I,I,I,O,O] ak (h:=?_)
 refine aZ 5 3 #[I,I,I,I,I,I,O] ak (h:=?_)
 refine aZ 6 4 #[I,I,I,I,I,I,I] ak (h:=?_)
 refine dK (bG ak.out (by kernel_rfl)) ?_
 go_wp2_with fail
 go_ret3
 exact⟨⟨_,_,rfl,HRc.out,HRs.out⟩,HB3.out⟩
open Go.RowKit Go.Shelf au YtkjoilgpmngndaaGreatW.aj YtkjoilgpmngndaaGreatW.aJ
section
variable {P:Program} {ops:Array Oper} {Q:Exit->Act->World->Prop} {md:Region.Mode} {S:World->Prop} {ds:List Nat} {n:Nat}
def iL(n:Nat)(P:Program)(md:Region.Mode)(ops:Array Oper)(Q:Exit->Act->World->Prop)(S:World->Prop)(ds:List Nat):Nat->Array Bool->Act->World->Prop
 |0,listed,a,w=>Region.ready md ops listed=[]/\Q .normal a w
 |fuel+1,listed,a,w=>
  (Region.ready md ops listed=[]->Q .normal a w) /\
  ∀i ∈ Region.ready md ops listed,wpOpIn Fence.wide n P ops Q i (λa' w'=>(i ∉ ds->S w->S w')/\iL n P md ops Q S ds fuel (listed.setIfInBounds i true) a' w') a w
theorem wU:∀(fuel:Nat) (listed:Array Bool) (a:Act) (w:World),iL n P md ops Q S ds fuel listed a w->wpAnyIn Fence.wide n P md ops Q fuel listed a w
 |0,_,_,_,h=>h
 |fuel+1,_,_,_,h=>⟨h.1,λi hi=>wpOpIn_mono (λa' w' h'=>wU fuel _ a' w' h'.2) (h.2 i hi)⟩
theorem YieldsIf.Mf{i:Nat}{o:Oper}{v:Value}{a:Act}(hi:ops[i]?=some o)(hy:YieldsIf P ops S o v a){K:Act->World->Prop}{w:World}(hS:S w)(h:K (a.put o.dst v) w):wpOpIn Fence.wide n P ops Q i K a w:=by
 unfold Go.wpOpIn
 simp only[hi]
 have hab:∀f,o.about P w a.eval=some f->Fence.wide.fn f:=λf _=>trivial
 rcases hy with⟨hw,hv⟩|⟨hw,rfl⟩
 .simp only[hw,if_true,Oper.wpIn,show Fence.wide.round=none from rfl,Oper.semAt_none,hv w hS,Oper.uponIn];exact⟨hab,h⟩
 .simp only[hw,Bool.false_eq_true,if_false];exact⟨hab,h⟩
theorem zl{j:Nat}{oi oj:Oper}{v:Value}(hj:ops[j]?=some oj)(hap:oi.apart ops oj=true)
  (hsi:∀cs b,oi.op≠ .select cs b) (hsj:∀cs b,oj.op≠ .select cs b)
  (hQ:∀c a w,Q (.panic c) (a.put oi.dst v) w->Q (.panic c) a w) {K:Act->World->Prop} {a:Act} {w:World}
  (hy:YieldsIf P ops S oi v a) (h:wpOpIn Fence.wide n P ops Q j K (a.put oi.dst v) w):
  wpOpIn Fence.wide n P ops Q j (λa' w'=>YieldsIf P ops S oi v a'/\K (a'.put oi.dst v) w') a w:=by
 obtain⟨h1,h2,h3⟩:=Oper.apart_spec hap
 have keep:∀(a:Act),YieldsIf P ops S oi v a->∀u,YieldsIf P ops S oi v (a.put oj.dst u):=λa hy u=>
  hy.of_same (execOp_put oi hsi a oj.dst u h3) (wanted_put oi a oj.dst u h3)
 have keepD:∀d,YieldsIf P ops S oi v {a with defers:=d::a.defers}:=λd=>hy.of_same rfl rfl
 unfold wpOpIn at *
 simp only[hj] at *
 rw[wanted_put oj a oi.dst v h1] at h
 split
 .rename_i hw
  simp only[hw,if_true] at h
  unfold Oper.wpIn at *
  refine⟨λf _=>trivial,?_⟩
  have h:=h.2
  rw[show Fence.wide.round=none from rfl,Oper.semAt_none,execOp_put oj hsj a oi.dst v h1] at h
  rw[show Fence.wide.round=none from rfl,Oper.semAt_none]
  generalize(execOp a.eval oj).run P w=r at *
  cases r with
  |ok x w'=>
   cases x<;>simp only[Oper.uponIn] at h ⊢
   case value u=>exact⟨keep a hy u,by rw[<- Act.put_comm a v u h2];exact h⟩
   case skip=>exact⟨keep a hy _,by rw[<- Act.put_comm a v undef h2];exact h⟩
   case defer d=>
    refine⟨keep _ (keepD d) _,?_⟩
    rw[<- Act.put_comm _ v undef h2,<- Act.put_defers]
    exact h
   case enter f args=>
    refine⟨h.1,CallsIn.mono h.2 λe w'' he=>?_⟩
    cases e with
    |returned u=>exact⟨keep a hy u,by rw[<- Act.put_comm a v u h2];exact he⟩
    |panicked c=>exact hQ _ _ _ he
    |outgrown=>exact he
   case row row args=>exact⟨h.1,RowsIn.mono h.2 λu w'' he=>⟨keep a hy u,by rw[<- Act.put_comm a v u h2];exact he⟩⟩
   case round l f tmps assign body=>
    refine⟨h.1,RoundIn.mono h.2 λe w'' he=>?_⟩
    cases e with
    |returned u=>exact⟨keep a hy u,by rw[<- Act.put_comm a v u h2];exact he⟩
    |panicked c=>exact hQ _ _ _ he
    |outgrown=>exact he
  |halt x w'=>
   cases x<;>simp only[Oper.uponIn] at h ⊢
   case panic u=>exact hQ _ _ _ h
 .rename_i hw
  simp only[hw] at h
  exact⟨λf _=>trivial,keep a hy _,by rw[<- Act.put_comm a v undef h2];exact h.2⟩
theorem ED{i:Nat}{oi:Oper}{v:Value}(hi:ops[i]?=some oi)(hsel:∀(j:Nat) (o:Oper) cs b,ops[j]?=some o->o.op≠ .select cs b)
  (hQ:∀c a w,Q (.panic c) (a.put oi.dst v) w->Q (.panic c) a w) (m:Nat):
  ∀(fuel:Nat) (listed:Array Bool) (a:Act) (w:World),
   (∀j oj,ops[j]?=some oj->j≠i->listed.getD j true=false->(∀e ∈ oj.after,Region.binds md e=true->e.on≠i)->oi.apart ops oj=true) ->
   jm md ops listed->(∀d ∈ ds,listed.getD d true=false->Region.mg md ops i m d=true) ->
   i ∈ Region.ready md ops listed->YieldsIf P ops S oi v a->S w ->
   iL n P md ops Q S ds fuel (listed.setIfInBounds i true) (a.put oi.dst v) w->iL n P md ops Q S ds (fuel+1) listed a w:=by
 intro fuel
 induction fuel with
 |zero=>
  intro listed a w _ _ _ hr hy hS H
  refine⟨λh=>(by rw[h] at hr;cases hr),λj hj=>?_⟩
  by_cases hji:j=i
  .subst hji;exact YieldsIf.Mf hi hy hS ⟨λ_ h=>h,H⟩
  .have:=ready_mono hj hji
   rw[H.1] at this
   cases this
 |succ fuel ih=>
  intro listed a w hfree hc hd hr hy hS H
  refine⟨λh=>(by rw[h] at hr;cases hr),λj hj=>?_⟩
  by_cases hji:j=i
  .subst hji;exact YieldsIf.Mf hi hy hS ⟨λ_ h=>h,H⟩
  .have h1:=H.2 j (ready_mono hj hji)
   obtain⟨hjun,oj,hoj,hall⟩:=mem_ready.1 hj
   have yV:=(mem_ready.1 hr).1
   have hnot:∀e ∈ oj.after,Region.binds md e=true->e.on≠i:=λe he hb heq=>by
    have h1:=hall e he hb
    rw[heq] at h1
    rcases Nat.lt_or_ge i listed.size with h'|h'
    .simp[h'] at yV h1;rw[yV] at h1;cases h1
    .simp[Array.getElem?_eq_none h'] at h1
   have hjd:j ∉ ds:=λhm=>Region.sV hc (hd j hm hjun) yV hj
   have h2:=zl hoj (hfree j oj hoj hji hjun hnot) (λcs b=>hsel i oi cs b hi) (λcs b=>hsel j oj cs b hoj) hQ hy h1
   have hfree':∀k ok,ops[k]?=some ok->k≠i->(listed.setIfInBounds j true).getD k true=false ->
     (∀e ∈ ok.after,Region.binds md e=true->e.on≠i)->oi.apart ops ok=true:=λk ok hk hki hun hno=>by
    refine hfree k ok hk hki ?_ hno
    by_cases hjk:j=k
    .subst hjk;exact hjun
    .rw[getD_set_ne true hjk] at hun;exact hun
   have hd':∀d ∈ ds,(listed.setIfInBounds j true).getD d true=false->Region.mg md ops i m d=true:=λd hm hun=>by
    refine hd d hm ?_
    by_cases hjk:j=d
    .subst hjk;exact hjun
    .rw[getD_set_ne true hjk] at hun;exact hun
   refine wpOpIn_mono (λa' w' h3=>⟨h3.2.1,ih (listed.setIfInBounds j true) a' w' hfree' (hc.set hj) hd' (ready_mono hr (Ne.symm hji)) h3.1 (h3.2.1 hjd hS) ?_⟩) h2
   rw[Array.setIfInBounds_comm _ _ hji]
   exact h3.2.2
theorem Jd{i:Nat}{oi:Oper}{v:Value}(hi:ops[i]?=some oi)(hsel:∀(j:Nat) (o:Oper) cs b,ops[j]?=some o->o.op≠ .select cs b)
  (hQ:∀c a w,Q (.panic c) (a.put oi.dst v) w->Q (.panic c) a w):
  ∀(fuel:Nat) (listed:Array Bool) (a:Act) (w:World),
   (∀j oj,ops[j]?=some oj->j≠i->listed.getD j true=false->(∀e ∈ oj.after,Region.binds md e=true->e.on≠i)->oi.apart ops oj=true) ->
   i ∈ Region.ready md ops listed->Yields P ops oi v a ->
   iL n P md ops Q S ds fuel (listed.setIfInBounds i true) (a.put oi.dst v) w->iL n P md ops Q S ds (fuel+1) listed a w:=by
 intro fuel
 induction fuel with
 |zero=>
  intro listed a w _ hr hy H
  refine⟨λh=>(by rw[h] at hr;cases hr),λj hj=>?_⟩
  by_cases hji:j=i
  .subst hji;exact YieldsIf.Mf hi (hy.yieldsIf (S:=λ_=>True)) trivial ⟨λ_ h=>h,H⟩
  .have:=ready_mono hj hji
   rw[H.1] at this
   cases this
 |succ fuel ih=>
  intro listed a w hfree hr hy H
  refine⟨λh=>(by rw[h] at hr;cases hr),λj hj=>?_⟩
  by_cases hji:j=i
  .subst hji;exact YieldsIf.Mf hi (hy.yieldsIf (S:=λ_=>True)) trivial ⟨λ_ h=>h,H⟩
  .have h1:=H.2 j (ready_mono hj hji)
   obtain⟨hjun,oj,hoj,hall⟩:=mem_ready.1 hj
   have yV:=(mem_ready.1 hr).1
   have hnot:∀e ∈ oj.after,Region.binds md e=true->e.on≠i:=λe he hb heq=>by
    have h1:=hall e he hb
    rw[heq] at h1
    rcases Nat.lt_or_ge i listed.size with h'|h'
    .simp[h'] at yV h1;rw[yV] at h1;cases h1
    .simp[Array.getElem?_eq_none h'] at h1
   have h2:=zl (S:=λ_=>True) hoj (hfree j oj hoj hji hjun hnot) (λcs b=>hsel i oi cs b hi) (λcs b=>hsel j oj cs b hoj) hQ hy.yieldsIf h1
   have hfree':∀k ok,ops[k]?=some ok->k≠i->(listed.setIfInBounds j true).getD k true=false ->
     (∀e ∈ ok.after,Region.binds md e=true->e.on≠i)->oi.apart ops ok=true:=λk ok hk hki hun hno=>by
    refine hfree k ok hk hki ?_ hno
    by_cases hjk:j=k
    .subst hjk;exact hjun
    .rw[getD_set_ne true hjk] at hun;exact hun
   refine wpOpIn_mono (λa' w' h3=>⟨h3.2.1,ih (listed.setIfInBounds j true) a' w' hfree' (ready_mono hr (Ne.symm hji)) (h3.1.imp (λ⟨x,y⟩=>⟨x,λw=>y w trivial⟩) id) ?_⟩) h2
   rw[Array.setIfInBounds_comm _ _ hji]
   exact h3.2.2
theorem uE{id m:Nat}{a:Act}{w:World}(l:Array Bool)(hm:P.follows .mixedOrders=true)(hn:ops.size=m)(hl:Array.replicate m false=l)(hS:S w.drew)
  (h:S w.drew->iL n P .any ops Q S ds m l a w.drew):(Code.region id ops true).wpIn Fence.wide n P Q a w:=by
 subst hn
 subst hl
 exact wpIn_region_any hm (wU _ _ _ _ (h hS))
theorem XG{i:Nat}{N:Option Tmp}{oi:Oper}{v:Value}{fuel:Nat}{l:Array Bool}{a:Act}{w:World}(l':Array Bool)(hi:ops[i]?=some oi)(hN:oi.dst=N)(hc:takeB md ops ds l l' i=true)
  (hQ:∀c a w,Q (.panic c) (a.put oi.dst v) w->Q (.panic c) a w) (hy:YieldsIf P ops S oi v a) (hS:S w) {a':Act} (ha:a.put N v=a')
  (h:iL n P md ops Q S ds fuel l' a' w):iL n P md ops Q S ds (fuel+1) l a w:=by
 subst ha
 subst hN
 simp only[takeB,Bool.and_eq_true,beq_iff_eq] at hc
 obtain⟨⟨⟨⟨⟨h1,h2⟩,h3⟩,h4⟩,h5⟩,h6⟩:=hc
 subst h6
 exact ED hi (Region.noSelect_spec h1) hQ ops.size fuel l a w (Region.free_spec hi h2) (Region.xY h4)
  (λd hm hun=>by have:=List.all_eq_true.1 h5 d hm;rw[hun] at this;simpa using this) (by simpa using h3) hy hS h
theorem iU{i:Nat}{N:Option Tmp}{oi:Oper}{v:Value}{fuel:Nat}{l:Array Bool}{a:Act}{w:World}(l':Array Bool)(hi:ops[i]?=some oi)(hN:oi.dst=N)(hc:Pt md ops l l' i=true)
  (hQ:∀c a w,Q (.panic c) (a.put oi.dst v) w->Q (.panic c) a w) (hy:Yields P ops oi v a) {a':Act} (ha:a.put N v=a')
  (h:iL n P md ops Q S ds fuel l' a' w):iL n P md ops Q S ds (fuel+1) l a w:=by
 subst ha
 subst hN
 simp only[Pt,Bool.and_eq_true,beq_iff_eq] at hc
 obtain⟨⟨⟨h1,h2⟩,h3⟩,h6⟩:=hc
 subst h6
 exact Jd hi (Region.noSelect_spec h1) hQ fuel l a w (Region.free_spec hi h2) (by simpa using h3) hy h
def rD(n:Nat)(P:Program)(ops:Array Oper)(Q:Exit->Act->World->Prop)(oi:Oper)(N:Option Tmp)(a:Act)(w:World)(K:Act->World->Prop):Prop:=
 if Region.wanted oi (yielded ops a.tmps)=true then Oper.wpIn Fence.wide n P oi a w K Q else K (a.put N undef) w
theorem mO{i:Nat}{N:Option Tmp}{oi:Oper}{fuel:Nat}{l:Array Bool}{a:Act}{w:World}(l':Array Bool)(hi:ops[i]?=some oi)(hN:oi.dst=N)(hc:qy md ops l l' i=true)(hd:i ∉ ds)
  (h:∀K:Act->World->Prop,Shut (∀a' w',S w'->(S w'->iL n P md ops Q S ds fuel l' a' w')->K a' w')->rD n P ops Q oi N a w K):
  iL n P md ops Q S ds (fuel+1) l a w:=by
 subst hN
 simp only[qy,Bool.and_eq_true,beq_iff_eq] at hc
 obtain⟨h1,h2⟩:=hc
 subst h2
 refine⟨λh0=>(by rw[h1] at h0;cases h0),?_⟩
 rw[h1]
 intro j hj
 obtain rfl:=List.mem_singleton.1 hj
 refine wpOpIn_step hi λK' hK'=>?_
 have h3:=h K' (λa' w' hS hW=>hK' _ _ ⟨λ_ _=>hS,hW hS⟩)
 unfold rD at h3
 split<;>rename_i hw
 .rw[if_pos hw] at h3;exact h3
 .rw[if_neg hw] at h3;exact⟨λf _=>trivial,h3⟩
theorem yQ{i:Nat}{N:Option Tmp}{oi:Oper}{fuel:Nat}{l:Array Bool}{a:Act}{w:World}(l':Array Bool)(hi:ops[i]?=some oi)(hN:oi.dst=N)(hc:qy md ops l l' i=true)(hd:i ∈ ds)
  (h:∀K:Act->World->Prop,Shut (∀a' w',iL n P md ops Q S ds fuel l' a' w'->K a' w')->rD n P ops Q oi N a w K):
  iL n P md ops Q S ds (fuel+1) l a w:=by
 subst hN
 simp only[qy,Bool.and_eq_true,beq_iff_eq] at hc
 obtain⟨h1,h2⟩:=hc
 subst h2
 refine⟨λh0=>(by rw[h1] at h0;cases h0),?_⟩
 rw[h1]
 intro j hj
 obtain rfl:=List.mem_singleton.1 hj
 refine wpOpIn_step hi λK' hK'=>?_
 have h3:=h K' (λa' w' hW=>hK' _ _ ⟨λhn=>absurd hd hn,hW⟩)
 unfold rD at h3
 split<;>rename_i hw
 .rw[if_pos hw] at h3;exact h3
 .rw[if_neg hw] at h3;exact⟨λf _=>trivial,h3⟩
theorem y9{l:Array Bool}{a:Act}{w:World}{m:Nat}(hr:(Region.ready md ops l==[])=true)(h:Q .normal a w):iL n P md ops Q S ds m l a w:=by
 have hr:Region.ready md ops l=[]:=by simpa using hr
 cases m with
 |zero=>exact⟨hr,h⟩
 |succ m=>exact⟨λ_=>h,by rw[hr];simp⟩
theorem iN{fuel:Nat}{l:Array Bool}{a a':Act}{w:World}(ha:a=a')(h:iL n P md ops Q S ds fuel l a' w):iL n P md ops Q S ds fuel l a w:=by
 subst ha
 exact h
theorem mR{m:Nat}{l:Array Bool}{a:Act}{w:World}{T:Bool×List (List Nat×List Nat)}{B:List Nat}(hT:dW md ops=T)(hB:bJ T.2 B=true)(h:aa (dW md ops=T)->aa (bJ T.2 B=true)->iL n P md ops Q S ds m l a w):iL n P md ops Q S ds m l a w:=h ⟨hT⟩ ⟨hB⟩
theorem RD{oi:Oper}{N:Option Tmp}{a:Act}{w:World}{K:Act->World->Prop}(f:FuncId)(args:Array Value)(hw:Region.wanted oi (yielded ops a.tmps)=true)(hN:oi.dst=N)(hrun:(execOp a.eval oi).run P w= .ok (.enter f args) w)
  (h:Calls P f args w λe w'=>∃v,e= .returned v/\K (a.put N v) w'):rD n P ops Q oi N a w K:=by
 unfold rD
 rw[if_pos hw]
 subst hN
 refine⟨λf _=>trivial,?_⟩
 rw[show Fence.wide.round=none from rfl,Oper.semAt_none,hrun,Oper.uponIn_enter]
 refine⟨λh=>(by cases h),?_⟩
 refine callsIn_wide.2 (h.mono λe w'' hh=>?_)
 obtain⟨v,rfl,hk⟩:=hh
 exact hk
theorem mo {oi:Oper} {N:Option Tmp} {a:Act} {w:World} {K:Act->World->Prop} {f:FuncId} {fn:Func} {os:Array Operand} {ts:Array TypeId} (hf:P.funcs[f]?=some fn) (hname:(fn.name== "runtime.NumGoroutine")=false) (hb:fn.body.isSome=true) (args:Array Value)
  (hw:Region.wanted oi (yielded ops a.tmps)=true) (hN:oi.dst=N) (hop:oi.op= .call {callee:= .value (.func f),args:=os,argTypes:=ts}) (hargs:os.map a.eval=args)
  (h:Calls P f args w λe w'=>∃v,e= .returned v/\K (a.put N v) w'):rD n P ops Q oi N a w K:=by
 refine RD f args hw hN ?_ h
 have he:=uU hf hname hb args w
 unfold execOp
 simp[hop,resolve,Deferred.ofValue,invoke,Act.eval,hargs,he]
theorem zY{oi:Oper}{N:Option Tmp}{a:Act}{w w1:World}{v:Value}{K:Act->World->Prop}(hw:Region.wanted oi (yielded ops a.tmps)=true)(hN:oi.dst=N)(hrun:(execOp a.eval oi).run P w= .ok (.value v) w1)
  (h:K (a.put N v) w1):rD n P ops Q oi N a w K:=by
 unfold rD
 rw[if_pos hw]
 subst hN
 refine⟨λf _=>trivial,?_⟩
 rw[show Fence.wide.round=none from rfl,Oper.semAt_none,hrun]
 exact h
theorem Jo(k:Nat):Fence.wide.room k:=λd h=>by cases h
theorem YieldAt.any{m m':Nat}{l:Nat}{args:Array Value}{W:World}{R:Ending->World->Prop}(h:YieldAt Fence.wide m P l args W R):YieldAt Fence.wide m' P l args W R:=by
 obtain⟨fn,tmps,assign,body,hy,hR⟩:=h
 exact⟨fn,tmps,assign,body,hy,hR.1,λc cs _=>hR.2 c cs (Jo _)⟩
theorem TL{oi:Oper}{N:Option Tmp}{a:Act}{w:World}{K:Act->World->Prop}{l:Nat}{x:Operand}{os:Array Operand}{ts:Array TypeId}(args:Array Value)
  (hw:Region.wanted oi (yielded ops a.tmps)=true) (hN:oi.dst=N) (hop:oi.op= .call {callee:= .value x,args:=os,argTypes:=ts}) (hx:a.eval x= .func (.yield l) #[] #[]) (hargs:os.map a.eval=args) {m:Nat}
  (h:YieldAt Fence.wide m P l args w λe w'=>∃v,e= .returned v/\K (a.put N v) w'):rD n P ops Q oi N a w K:=by
 obtain⟨fn,tmps,assign,body,hy,hR⟩:=YieldAt.any (m':=n-1) h
 unfold rD
 rw[if_pos hw]
 subst hN
 refine⟨λf _=>trivial,?_⟩
 have hrun:(execOp a.eval oi).run P w= .ok (.round l fn tmps assign body) w:=by
  unfold execOp
  simp only[hop,resolve,hargs,hx]
  simp[Deferred.ofValue,invoke,hy,go_sem]
 rw[show Fence.wide.round=none from rfl,Oper.semAt_none,hrun,Oper.uponIn_round]
 refine⟨λh=>(by cases h),?_⟩
 refine hR.mono λe w'' hh=>?_
 obtain⟨v,rfl,hk⟩:=hh
 exact hk
theorem FD {oi:Oper} {N:Option Tmp} {a:Act} {w:World} {K:Act->World->Prop} {f:FuncId} {fn:Func} {x:Operand} {os:Array Operand} {ts:Array TypeId} {cap:Array Value} (hf:P.funcs[f]?=some fn) (hname:(fn.name== "runtime.NumGoroutine")=false) (hb:fn.body.isSome=true) (args:Array Value)
  (hw:Region.wanted oi (yielded ops a.tmps)=true) (hN:oi.dst=N) (hop:oi.op= .call {callee:= .value x,args:=os,argTypes:=ts}) (hx:a.eval x= .func (.func f) #[] cap) (hargs:os.map a.eval=args)
  (h:Calls P f (args++cap) w λe w'=>∃v,e= .returned v/\K (a.put N v) w'):rD n P ops Q oi N a w K:=by
 refine RD f (args++cap) hw hN ?_ h
 have he:=uU hf hname hb (args++cap) w
 unfold execOp
 simp only[hop,resolve,hargs,hx]
 simp[Deferred.ofValue,invoke,he,go_sem]
theorem Y6 {oi:Oper} {N:Option Tmp} {a:Act} {w:World} {K:Act->World->Prop} {f:FuncId} {fn:Func} {x:Operand} {os:Array Operand} {ts:Array TypeId} {cap:Array Value} (hf:P.funcs[f]?=some fn) (hname:(fn.name== "runtime.NumGoroutine")=false) (hb:fn.body.isSome=true) (args:Array Value)
  (hw:Region.wanted oi (yielded ops a.tmps)=true) (hN:oi.dst=N) (hop:oi.op= .call {callee:= .value x,args:=os,argTypes:=ts}) (hx:a.eval x= .func (.func f) #[] cap) (hargs:os.map a.eval=args)
  (h:Calls P f (args++cap) w λe w'=>∃v,e= .returned v/\K (a.put N v) w'):if Region.wanted oi (yielded ops a.tmps)=true then Oper.wp P oi a w K Q else K (a.put N undef) w:=by
 refine call_ f (args++cap) hw hN ?_ h
 have he:=uU hf hname hb (args++cap) w
 unfold execOp
 simp only[hop,resolve,hargs,hx]
 simp[Deferred.ofValue,invoke,he,go_sem]
theorem RY{oi:Oper}{N:Option Tmp}{a:Act}{w:World}{K:Act->World->Prop}(s x:Operand)(t:TypeId)(hw:Region.wanted oi (yielded ops a.tmps)=true)(hN:oi.dst=N)(hop:oi.op=Op.call {callee:=Callee.builtin Builtin.append,args:=#[s,x],argTypes:=#[t,t]})
  (e:TypeId) (h1:P.underlying t=some (.slice e)) (h2:(P.info? e).map (λi=>(i.zero,i.size,i.bytes))=some (some (.int .i64 0),1,8)) (b k cap:Nat) (hs:a.eval s= .slice (some ⟨b,0,none⟩) k cap)
  (ad:Addr) (y:Int) (hx:a.eval x= .slice (some ad) 1 1) (hc:w.cell? ad=some (.int .i64 y)) (hroom:k+1<=cap) (hsp:(w.cell? ⟨b,k,none⟩).isSome=true) (hfr:w.frozen? ⟨b,k,none⟩=false)
  (h:K (a.put N (.slice (some ⟨b,0,none⟩) (k+1) cap)) (w.setCell ⟨b,k,none⟩ (.int .i64 y))):rD n P ops Q oi N a w K:=by
 obtain⟨i,hi,hi2⟩:=Option.map_eq_some_iff.1 h2
 have hsz:i.size=1:=by simp only[Prod.mk.injEq] at hi2;exact hi2.2.1
 have hrun:=run_append_room_cells (P:=P) w t oi.type e i h1 hi b 0 k cap ad 1 1 [.int .i64 y] (by rw[hsz];rfl) (λj u hu=>by
  match j,hu with
  |0,hu=>cases hu;rw[show ad.add 0=ad by unfold Addr.add;split<;>simp_all];exact hc) (λu hu=>by rw[List.mem_singleton.1 hu];rfl) hroom (λj hj=>by
  obtain rfl:j=0:=by simpa using hj
  rw[hsz];simpa using hsp) (λj hj=>by
  obtain rfl:j=0:=by simpa using hj
  rw[hsz];simpa using hfr)
 refine zY hw hN (w1:=w.setCell ⟨b,k,none⟩ (.int .i64 y)) (v:= .slice (some ⟨b,0,none⟩) (k+1) cap) ?_ h
 have e2:w.setCells b (0+k*i.size) [.int .i64 y]=w.setCell ⟨b,k,none⟩ (.int .i64 y):=by rw[hsz];simp[World.setCells]
 rw[e2] at hrun
 simp[execOp,hop,resolve,invoke,builtin,hs,hx,hrun,Result.andThen]
end
def mP{β:Type}(lo hi:Nat)(I:β->World->Prop):Prop:=∀s W W' row,I s W->W.grownBy W' row->(∀r,row=some r->lo<=r/\r<hi)->I s W'
theorem mP.alloc{β:Type}{lo hi:Nat}{I:β->World->Prop}(h:mP lo hi I){s:β}{W:World}(o:Obj)(hs:I s W):I s (W.alloc o):=h s W _ none hs (World.grownBy_alloc W o none) (λr e=>by cases e)
theorem mP.putObj{β:Type}{lo hi:Nat}{I:β->World->Prop}(h:mP lo hi I){s:β}{W:World}{l:Nat}(o:Obj)(hs:I s W)(h1:lo<=l)(h2:l<hi):I s (W.putObj l o):=h s W _ (some l) hs (grownBy_putObj' W l o) (λr e=>by cases e;exact⟨h1,h2⟩)
theorem mP.setCell{β:Type}{lo hi:Nat}{I:β->World->Prop}(h:mP lo hi I){s:β}{W:World}{p:Addr}(u:Value)(hs:I s W)(h1:lo<=p.block)(h2:p.block<hi):I s (W.setCell p u):=
 h s W _ (some p.block) hs ⟨rfl,rfl,rfl,(KeepsWalks.setCell W p u).size,λk _ hk=>Below.heap_setCell W p u k (λe=>hk (by rw[e]))⟩ (λr e=>by cases e;exact⟨h1,h2⟩)
theorem mP.mono{β:Type}{lo hi lo' hi':Nat}{I:β->World->Prop}(h:mP lo hi I)(h1:lo<=lo')(h2:hi'<=hi):mP lo' hi' I:=λs W W' row hs hg hr=>h s W W' row hs hg (λr e=>by have:=hr r e;omega)
def Sg{α:Type}(P:Program)(g:Nat)(lb:Array Value)(k:Nat)(X:α->World->Prop)(encs:α->Array Value)(Kp:World->World->Prop)(S:List α->Prop)(N:Nat)(w:World):Prop:=
 ∀(l:Nat) (J:List α->World->Prop) (W:World),Below w.heap.size w W->W.heap.size=w.heap.size+2->mP W.heap.size (W.heap.size+k) J ->
  (∀pre x W1,J pre W1->X x W1->pre.length<N->YieldAt Fence.wide 0 P l (encs x) W1 λe W'=>e= .returned (.bool true)/\J (pre++[x]) W'/\Kp W1 W') ->
  J [] W ->
  Calls P g (#[.func (.yield l) #[] #[]]++lb) W λe W'=>(∃v,e= .returned v)/\∃xs,S xs/\J xs W'
def QG{α:Type}(Kp:World->World->Prop)(I:List α->World->Prop)(B:Nat)(xs:List α)(W:World):Exit->Act->World->Prop
 | .normal,_,W'=>KeepsFrom B W W'/\Kp W W'/\I xs W'
 |_,_,_=>False
theorem Oe{n k:Nat}{P:Program}{α:Type}{g:Operand}{ps:Array Tmp}{assign body:Code}{Q:Exit->Act->World->Prop}{a:Act}{w:World}
  (h1:1<=n) {gf:Nat} {lb:Array Value} (hg:a.eval g= .func (.func gf) #[] lb) (eg:∀args w,(callFunc gf args).run P w= .ok (.enter gf args) w)
  {X:α->World->Prop} {encs:α->Array Value} {Kp:World->World->Prop} {S:List α->Prop} {N:Nat} (hseq:Sg P gf lb k X encs Kp S N w)
  (hKt:∀{A B C:World},Kp A B->Kp B C->Kp A C) (hKb:∀(W:World) (l:Nat) (o':Obj),w.heap.size<=l->l<w.heap.size+2->l<W.heap.size->Kp W (W.putObj l o')) (hps:∀x,(encs x).size=ps.size)
  (hX:∀x,mP w.heap.size (w.heap.size+2) (λ(_:Unit) W=>X x W))
  (fz f:Array Value->α->Array Value) (hz:∀t x,(ps.zip (encs x)).foldl (λt (p,v)=>t.setIfInBounds p v) t=fz t x)
  (I:List α->World->Prop) (hI:mP w.heap.size (w.heap.size+2+k) I) (h0:I [] w)
  (hassign:∀(l:Nat) (x:α) (W:World) (K:Act->World->Prop),K {tmps:=f a.tmps x,defers:=[]} W ->
   assign.wpIn (Fence.wide.inRound l) (n-1-1) P (Exit.then K (λ_ _ _=>False)) {tmps:=fz a.tmps x,defers:=[]} W)
  (hbody:∀(l:Nat) (pre:List α) (x:α) (W:World),I pre W->X x W->pre.length<N->body.wpIn (Fence.wide.inRound l) (n-1-1) P (QG Kp I w.heap.size (pre++[x]) W) {tmps:=f a.tmps x,defers:=[]} W)
  (hdone:∀(D:Nat) (xs:List α) (W:World),D=w.heap.size->S xs->I xs W->W.heap[D]?=some (.deferred (some []))->Q .normal {a with defers:={target:= .collected D,args:=#[]}::a.defers} W):
  (Code.rangeFunc g ps assign body).wpIn Fence.wide n P Q a w:=by
 refine wpIn_rangeFunc ?_
 intro fn hfn
 rw[show Fence.wide.round=none from rfl]
 obtain⟨rec,hrec⟩:∃rec:LoopState->Option Code->Loop,rec=λst pe=>{state:=st,pending:=pe,fn,tmps:=a.tmps,params:=ps,assign,body,defers:=w.heap.size}:=⟨_,rfl⟩
 obtain⟨W1,hW1⟩:∃W1,(w.alloc (.deferred (some []))).alloc (.loop (rec .ready none))=W1:=⟨_,rfl⟩
 have hL1:W1.heap[w.heap.size+1]?=some (.loop (rec .ready none)):=by
  rw[<- hW1];have:=World.alloc_heap_new (w.alloc (.deferred (some []))) (.loop (rec .ready none));rwa [World.size_alloc] at this
 have hK1:W1.heap[w.heap.size]?=some (.deferred (some [])):=by
  rw[<- hW1];exact(Below.heap_alloc _ _ _ (by simp)).trans (World.alloc_heap_new w _)
 have hI1:I [] W1:=by rw[<- hW1];exact hI.alloc _ (hI.alloc _ h0)
 have hb1:Below w.heap.size w W1:=by
  rw[<- hW1];exact(((Below.refl _ w).alloc (Nat.le_refl _) _).alloc (by simp) _)
 have hs1:W1.heap.size=w.heap.size+2:=by rw[<- hW1];simp
 refine⟨w.heap.size+1,[{target:= .collected w.heap.size,args:=#[]}],W1,{target:= .fn (.func gf) lb,args:=#[.func (.yield (w.heap.size+1)) #[] #[]]},W1,gf,
  #[.func (.yield (w.heap.size+1)) #[] #[]]++lb,W1,?_,?_,?_,?_,λ_=>h1,?_⟩
 .rw[<- hW1,hrec];exact run_enterLoop_outer _ _ _ _ _
 .simp only[resolve,hg]
  simp[go_sem]
 .intro f' hf';trivial
 .simp[invoke,go_sem,eg]
 .refine callsIn_wide.2 ((hseq (w.heap.size+1)
   (λpre W=>I pre W/\W.heap[w.heap.size+1]?=some (.loop (rec .ready none))/\W.heap[w.heap.size]?=some (.deferred (some [])))
   W1 hb1 hs1
   (λs A B row hs hg' hr=>⟨hI s A B row hs.1 hg' (λr e=>by have:=hr r e;omega),?_,?_⟩)
   ?_ ⟨hI1,hL1,hK1⟩).mono ?_)
  .exact(hg'.block _ (Array.getElem?_eq_some_iff.1 hs.2.1).1 (λe=>by have:=hr _ e.symm;omega)).trans hs.2.1
  .exact(hg'.block _ (Array.getElem?_eq_some_iff.1 hs.2.2).1 (λe=>by have:=hr _ e.symm;omega)).trans hs.2.2
  .
   rintro pre x W ⟨hi,hl,hk⟩ hx hlen
   have hlt:w.heap.size+1<W.heap.size:=(Array.getElem?_eq_some_iff.1 hl).1
   have hy:=run_yield (P:=P) (args:=encs x) hl (by rw[hrec];exact hps x)
   rw[hrec] at hy
   refine YieldAt.any (m:=n-1-1) ⟨fn,_,assign,body,hy,roundIn_of_wpIn hfn ?_⟩
   rw[hz]
   refine hassign _ x W _ ?_
   clear hy
   refine⟨_,run_beginRound hl (by rw[hrec]),?_⟩
   have hl2:(W.putObj (w.heap.size+1) (.loop {rec .ready none with state:= .busy})).heap[w.heap.size+1]?=some (.loop {rec .ready none with state:= .busy}):=World.putObj_heap_same hlt
   have hk2:(W.putObj (w.heap.size+1) (.loop {rec .ready none with state:= .busy})).heap[w.heap.size]?=some (.deferred (some [])):=(World.putObj_heap_other (by omega)).trans hk
   have hw2:Kp W (W.putObj (w.heap.size+1) (.loop {rec .ready none with state:= .busy})):=hKb _ _ _ (by omega) (by omega) hlt
   refine wpIn_mono (hbody _ pre x _ (hI.putObj _ hi (by omega) (by omega)) ((hX x).putObj (s:=()) _ hx (by omega) (by omega)) hlen) ?_
   have fin:∀(jump:Option Code) (W3:World),KeepsFrom w.heap.size (W.putObj (w.heap.size+1) (.loop {rec .ready none with state:= .busy})) W3 ->
     (Instr.endRound (w.heap.size+1) jump).run P W3= .ok (.bool jump.isNone) (W3.putObj (w.heap.size+1) (.loop (rec (if jump.isNone then .ready else .done) jump))) /\
     W3.heap[w.heap.size+1]?=some (.loop {rec .ready none with state:= .busy}) /\
     (W3.putObj (w.heap.size+1) (.loop (rec (if jump.isNone then .ready else .done) jump))).heap[w.heap.size+1]?=some (.loop (rec (if jump.isNone then .ready else .done) jump)) /\
     (W3.putObj (w.heap.size+1) (.loop (rec (if jump.isNone then .ready else .done) jump))).heap[w.heap.size]?=some (.deferred (some [])):=λjump W3 hk3=>by
    have hl3:=hk3.same _ _ (by omega) hl2 rfl
    have:=run_endRound (P:=P) jump hl3
    rw[hrec] at this ⊢
    exact⟨this,by rw[hrec] at hl3;exact hl3,World.putObj_heap_same (Array.getElem?_eq_some_iff.1 hl3).1,(World.putObj_heap_other (by omega)).trans (hk3.same _ _ (Nat.le_refl _) hk2 rfl)⟩
   rintro e a3 W3 hp
   cases e with
   |normal=>
    obtain⟨hk3,hkp3,hi3⟩:=hp
    obtain⟨hr,hl3,hl4,hk4⟩:=fin none W3 hk3
    exact⟨_,_,hr,rfl,⟨hI.putObj _ hi3 (by omega) (by omega),hl4,hk4⟩,hKt (hKt hw2 hkp3) (hKb _ _ _ (by omega) (by omega) (Array.getElem?_eq_some_iff.1 hl3).1)⟩
   |_=>exact hp.elim
  .
   rintro e W2 ⟨⟨v,rfl⟩,xs,hS,hi,hl,hk⟩
   exact⟨none,_,by have:=run_endLoop (P:=P) hl (by rw[hrec];simp);rw[hrec] at this;exact this,hdone _ xs _ rfl hS (hI.putObj _ hi (by omega) (by omega)) ((World.putObj_heap_other (by omega)).trans hk)⟩
end Go.Proofs.YtkjoilgpmngndaaGreat
