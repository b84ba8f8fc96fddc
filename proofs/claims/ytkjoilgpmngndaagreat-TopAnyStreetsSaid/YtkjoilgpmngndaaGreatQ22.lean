import Derived.Test.YtkjoilgpmngndaaGreatQ21
set_option linter.all false
namespace Go.Proofs.YtkjoilgpmngndaaGreat
open Go.RowKit Go.Shelf Go.Proofs.YtkjoilgpmngndaaGreat.av Go.Proofs.YtkjoilgpmngndaaGreatW.aA Go.Proofs.YtkjoilgpmngndaaGreatW.aJ Go.Proofs.YtkjoilgpmngndaaGreatW.dn
def cy.T4:Bool×List (List Nat×List Nat):=(true,[([],[]),([0],[0]),([],[]),([2,1],[2]),([1,3,0,1],[1]),([3,4,0,1,2,3,4],[3]),([5,0,1,2,3,4,5],[])])
def cy.B4:List Nat:=[0,1,0,7,15,31,63]
theorem cy.Lv:eu .any (opsOf Tryz.f36 4)=cy.T4:=by kernel_rfl
theorem cy.Bi:bO cy.T4.2 cy.B4=true:=by kernel_rfl
def qW(ss:List bH)(nn:Nat)(L:List Int):Nat->List Int
 |0=>List.replicate nn 0
 |k+1=>(qW ss nn L k).set (aG ss k).f1.toNat ((qW ss nn L k).getD (aG ss k).f1.toNat 0+L.getD k 0)
def OU(ss:List bH)(nn:Nat)(L:List Int):Prop:=∀k,k<ss.length->0<=(qW ss nn L k).getD (aG ss k).f1.toNat 0+L.getD k 0/\(qW ss nn L k).getD (aG ss k).f1.toNat 0+L.getD k 0<1000000
set_option maxRecDepth 100000 in
set_option maxHeartbeats 40000000 in
theorem Dy{A0:Option Addr}{c0:Nat}{old:List Int}{nw:Int}{A2:Option Addr}{c2:Nat}{ss:List bH}{A3:Option Addr}{c3:Nat}{js:List bS}{w:World}(h:uX w A0 c0 old A2 c2 ss A3 c3 js)(hss:ss.length<=8)(hs0:0<ss.length)(IW:old.length<=4)(hst:∀s ∈ ss,iP old.length nw s)(P:Nat->Int×Int)(hP:OT old ss P)(nn:Nat)(hnn:nw=(nn:Int))(hn0:0<nn)(Kl:nn<=4)(hsum:OU ss nn (jW ss P old.length)):
  Calls Tryz.prog 81 #[.agg #[.slice A0 old.length c0,.int .i64 nw,.slice A2 ss.length c2,.slice A3 js.length c3]] w fun e w'=>(∃v,e= .returned v/\(Kd.int .i64).R 3 w' w.heap.size (fun _=>True) v (qW ss nn (jW ss P old.length) ss.length))/\Below w.heap.size w w':=by
 subst hnn
 have H:=aa.mk h
 have HP:=aa.mk hP
 have HST:=aa.mk hst
 have Bu:=aa.mk hsum
 have HLL:=aa.mk (yz ss P old.length)
 obtain⟨L,hL⟩:∃L,jW ss P old.length=L:=⟨_,rfl⟩
 rw[hL] at Bu HLL ⊢
 have HL:=aa.mk hL
 clear h hP hst hsum hL
 go_enter Tryz.func81,Tryz.ntmps81
 have HB0:=aa.mk (ae (Below.refl w.heap.size w) (.cells #[.slice A0 old.length c0,.int .i64 (nn:Int),.slice A2 ss.length c2,.slice A3 js.length c3] 43))
 have B10:=aa.mk (aR.new w [.slice A0 old.length c0,.int .i64 (nn:Int),.slice A2 ss.length c2,.slice A3 js.length c3] 43)
 have hsz0:w.heap.size<(w.alloc (.cells #[.slice A0 old.length c0,.int .i64 (nn:Int),.slice A2 ss.length c2,.slice A3 js.length c3] 43)).heap.size:=by simp
 go_wp2_with ((with_reducible refine bY (N:=8) rfl ?_);refine Kd.ND (Kd.int .i64) (w0:=w) w.heap.size 3 rfl rfl 22 (.tmp 7) (.tmp 7) rfl (nn:Int) rfl rfl Tryz.underlying22 (.int .i64 0) 8 info3 rfl (by decide) (by decide) (0:Int) (ok:=fun _=>True) (okp:=fun _=>False) rfl (fun _ h=>h.elim) trivial (by omega) (by simp only[Int.toNat_natCast];omega) HB0.out (by omega) ?_;intro vo w1 hon hbn hgn fP;simp only[Int.toNat_natCast] at hon;have IE:=aa.mk hon;have HB1:=aa.mk hbn;have B11:=aa.mk (B10.out.move (hgn.block _ (by omega) (fun e=>by cases e)));have h10:=B11.out.cell 0;have h11:=B11.out.cell 1;have h12:=B11.out.cell 2;have mg:=B11.out.cell 3;simp only[List.getElem?_cons_zero,List.getElem?_cons_succ] at h10 h11 h12 mg;obtain⟨go,co,rfl,_⟩:=pM IE.out 0 (by simp only[List.length_replicate];omega);clear hon hbn hgn fP)
 have hgo:=(Kd.dP IE.out).1 go (by simp[Value.ownBlock])
 have Qf:=hgo.2.2.1
 have adb:w.heap.size<=go:=hgo.2.1
 have aqb:go≠w.heap.size:=fun e=>by
  subst e
  obtain⟨_,_,_,q,hq,cells,hk⟩:=hgo
  rw[show w1.heap[w.heap.size]?=_ from B11.out] at hk
  have hq':q=3:=by simpa[show(Kd.int IntKind.i64).E=[] from rfl] using hq
  subst hq'
  cases hk
 have HO:=aa.mk (show(Kd.int .i64).R 3 w1 w.heap.size (fun k=>some k=some go) (.slice (some ⟨go,0,none⟩) nn co) (qW ss nn L 0) by
  have hx:=Kd.zC rfl IE.out
  simp only[List.length_replicate,Value.ownBlock] at hx
  exact hx)
 clear HB0 B10 hsz0 IE hgo
 refine(tT (H.out.below HB1.out) hss hs0 IW HST.out P HP.out).mono ?_
 rintro e w2 ⟨⟨v10,rfl,hR⟩,hb⟩
 rw[HL.out] at hR
 have hll:=HLL.out
 obtain⟨b10,c10,rfl,_⟩:=pM hR 0 (by rw[hll];exact hs0)
 have M4:=(Kd.dP hR).1 b10 (by simp[Value.ownBlock])
 have adI:=M4.2.1
 have X6:=M4.2.2.1
 have HR:=aa.mk hR
 have HB2:=aa.mk (HB1.out.trans (hb.mono HB1.out.size))
 have BP:=aa.mk (B11.out.below hb)
 have QK:=aa.mk (Kd.fC HO.out hb)
 have hs2:=hb.size
 clear hR hb M4 HB1 B11 HO h10 h11 h12 mg hll
 have HR':=aa.mk (show(Kd.int .i64).R 3 w2 w1.heap.size (fun _=>True) (.slice (some ⟨b10,0,none⟩) ss.length c10) L by have:=HR.out;rw[HLL.out] at this;exact this)
 have hle:=HLL.out
 rw[hle]
 clear hle HR
 go_wp2_with fail
 go_loopw [12] (fun v12 wr=>∃k:Nat,k<=ss.length/\v12= .int .i64 k/\w2.heap.size<=wr.heap.size/\aa (bq w2.heap.size (fun b=>b=go) w2 wr)/\aa ((Kd.int .i64).R 3 wr w.heap.size (fun k=>some k=some go) (.slice (some ⟨go,0,none⟩) nn co) (qW ss nn L k))) (fun v12 _=>ss.length-(intOf v12).toNat)
 case atStart=>exact⟨0,Nat.zero_le _,rfl,Nat.le_refl _,⟨bq.refl _ _ _⟩,QK⟩
 case round=>
  clear QK
  obtain⟨k,hk,rfl,oH,HK,HO⟩:=hrel
  have h12:=(HK.out.cell (p:=⟨w.heap.size,2,none⟩) BP.out.lt (by simp only;omega)).trans (BP.out.cell 2)
  simp only[List.getElem?_cons_zero,List.getElem?_cons_succ] at h12
  have BV:=aa.mk (show Below w.heap.size w wr from⟨HK.out.os.trans HB2.out.os,HK.out.tape.trans HB2.out.tape,HK.out.output.trans HB2.out.output,Nat.le_trans HB2.out.size HK.out.size,fun k hk=>(HK.out.block k (by have:=HB2.out.size;omega) (by omega)).trans (HB2.out.block k hk)⟩)
  by_cases hkl:k<ss.length
  .have h10:=(HK.out.cell (p:=⟨b10,k,none⟩) X6 (by simp only;omega)).trans (Kd.iR (0:Int) HR'.out (k:Int) (by omega) (by omega)).1
   simp only[DI,Int.toNat_natCast] at h10
   obtain⟨ad,e,_,hq1,_⟩:=qO (H.out.below BV.out).Lg (k:Int) (by omega) (by omega)
   cases e
   simp only[Int.toNat_natCast] at hq1
   have hok:=HST.out _ (kM ss k hkl)
   have hSU:=Bu.out k hkl
   have TW:=aa.mk (show qW ss nn L (k+1)=(qW ss nn L k).set (aG ss k).f1.toNat ((qW ss nn L k).getD (aG ss k).f1.toNat 0+L.getD k 0) from rfl)
   have ajo:=hok.n0
   have hn1':=hok.n1
   rw[show fI ss (k:Int)=aG ss k from rfl] at hq1
   obtain⟨D,hD⟩:∃D:Nat,(aG ss k).f1=D:=⟨(aG ss k).f1.toNat,by omega⟩
   rw[hD] at hq1 hn1'
   rw[hD,Int.toNat_natCast] at hSU TW
   have hDn:D<nn:=by omega
   have X9:=(Kd.iR (0:Int) HO.out (D:Int) (by omega) (by omega))
   simp only[DI,Int.toNat_natCast] at X9
   obtain⟨aau,adO⟩:=X9
   obtain⟨sv,hsv⟩:∃x,(qW ss nn L k).getD D 0=x:=⟨_,rfl⟩
   obtain⟨lv,hlv⟩:∃x,L.getD k 0=x:=⟨_,rfl⟩
   rw[hsv,hlv] at hSU TW
   rw[hsv] at aau
   rw[hlv] at h10
   have hwr:wrap64 (sv+lv)=sv+lv:=IntWalk.wrap64_in _ (by omega)
   have YH:=aa.mk (Kd.rX HO.out (D:Int) (sv+lv))
   simp only[Int.toNat_natCast] at YH
   have I7:=aa.mk (HK.out.setCell (p:=⟨go,D,none⟩) (.inl rfl) (.int .i64 (sv+lv)))
   have hsn:w2.heap.size<=(wr.setCell ⟨go,D,none⟩ (.int .i64 (sv+lv))).heap.size:=by rw[size_set];exact oH
   clear hok hSU ajo hD hsv hlv
   go_wp2_with fail
   exact⟨⟨k+1,by omega,by go_num,hsn,I7,⟨by rw[TW.out];exact YH.out⟩⟩,by simp[intOf];omega⟩
  .obtain rfl:k=ss.length:=by omega
   go_wp2_with fail
   go_ret
   exact⟨⟨_,rfl,Kd.cK HO.out (fun _ _=>trivial)⟩,BV.out⟩
set_option maxRecDepth 100000 in
set_option maxHeartbeats 40000000 in
theorem K9{A0:Option Addr}{c0:Nat}{old:List Int}{nw:Int}{A2:Option Addr}{c2:Nat}{ss:List bH}{A3:Option Addr}{c3:Nat}{js:List bS}{w:World}(h:uX w A0 c0 old A2 c2 ss A3 c3 js)(hc:gU old nw ss js=0)(P:Nat->Int×Int)(hP:OT old ss P)(hsum:OU ss nw.toNat (jW ss P old.length)):
  Calls Tryz.prog 36 #[.agg #[.slice A0 old.length c0,.int .i64 nw,.slice A2 ss.length c2,.slice A3 js.length c3]] w fun e w'=>(∃v1 v2,e= .returned (.tuple #[v1,v2,.int .i64 0])/\(Kd.int .i64).R 3 w' w.heap.size (fun _=>True) v1 (jW ss P old.length)/\(Kd.int .i64).R 3 w' w.heap.size (fun _=>True) v2 (qW ss nw.toNat (jW ss P old.length) ss.length))/\Below w.heap.size w w':=by
 obtain⟨ho0,IW,hs0,Dh,hj,hol,hn1,Kl,hst,Si,hjo⟩:=kI hc
 have H:=aa.mk h
 have HP:=aa.mk hP
 have HST:=aa.mk hst
 have Bu:=aa.mk hsum
 have HC:=aa.mk hc
 clear h hP hst hsum hc hol Si hjo hj ho0
 go_enter Tryz.func36,Tryz.ntmps36
 go_wp2_with fail
 have hb0:=ae (Below.refl w.heap.size w) (.cells #[.slice A0 old.length c0,.int .i64 nw,.slice A2 ss.length c2,.slice A3 js.length c3] 43)
 have B0:=aR.new w [.slice A0 old.length c0,.int .i64 nw,.slice A2 ss.length c2,.slice A3 js.length c3] 43
 refine(iH (H.out.below hb0)).mono ?_
 rintro e w1 ⟨rfl,hb1⟩
 rw[HC.out]
 have B1:=aa.mk (B0.below hb1)
 have HB1:=aa.mk (hb0.trans (hb1.mono (by simp)))
 have h10:=B1.out.cell 0
 have h11:=B1.out.cell 1
 have h12:=B1.out.cell 2
 have mg:=B1.out.cell 3
 simp only[List.getElem?_cons_zero,List.getElem?_cons_succ] at h10 h11 h12 mg
 clear hb0 hb1 B0
 go_wp2_with fail
 refine gz (n:=7) (S:=fun w'=>w'.cell? ⟨w.heap.size,0,none⟩=some (.slice A0 old.length c0)/\w'.cell? ⟨w.heap.size,1,none⟩=some (.int .i64 nw)/\w'.cell? ⟨w.heap.size,2,none⟩=some (.slice A2 ss.length c2)/\w'.cell? ⟨w.heap.size,3,none⟩=some (.slice A3 js.length c3)) (ds:=[3]) #[O,O,O,O,O,O,O] (by kernel_rfl) rfl rfl ⟨h10,h11,h12,mg⟩ (fun hHeld=>?_);refine bK cy.Lv cy.Bi (fun aC bW=>?_)
 have qV:=aa.mk (bG HB1.out)
 have Lc:=aa.mk (B1.out.move rfl:aR w1.drew _ _ _)
 clear HB1 B1 h10 h11 h12 mg
 generalize w1.drew=wd at qV Lc hHeld ⊢
 refine eP 0 11 #[I,O,O,O,O,O,O] aC bW hHeld (hy:=by(rintro w' ⟨s0,s1,s2,s3⟩;go_simp;with_reducible rfl)) (h:=?_)
 refine eP 2 13 #[I,O,I,O,O,O,O] aC bW hHeld (hy:=by(rintro w' ⟨s0,s1,s2,s3⟩;go_simp;with_reducible rfl)) (h:=?_)
 refine iC (i:=1) (N:=some 12) #[I,I,I,O,O,O,O] rfl rfl (aN aC.out (by kernel_rfl)) (by decide) (fun K hK=>?_)
 refine fD Tryz.func80 (by kernel_rfl) rfl #[.agg #[.slice A0 old.length c0,.int .i64 nw,.slice A2 ss.length c2,.slice A3 js.length c3]] (by rfl) rfl rfl (by(try simp only[List.map_toArray,List.map_cons,List.map_nil]);rfl) ?_
 refine(tT (nw:=nw) (js:=js) (H.out.below qV.out) Dh hs0 IW HST.out P HP.out).mono ?_
 rintro e_ w_ ⟨⟨vc,rfl,hRc⟩,hbx⟩
 refine⟨_,rfl,hK.out _ _ ⟨(by simpa using (Lc.out.below hbx).cell 0),(by simpa using (Lc.out.below hbx).cell 1),(by simpa using (Lc.out.below hbx).cell 2),(by simpa using (Lc.out.below hbx).cell 3)⟩ (fun hHeld=>?_)⟩
 clear hK K
 have ae5:=aa.mk (Kd.jD hRc qV.out.size)
 have HB2:=aa.mk (qV.out.trans (hbx.mono qV.out.size))
 clear hbx hRc qV Lc
 refine bF (by simp only[Act.put,List.setIfInBounds_toArray,List.set_cons_zero,List.set_cons_succ];rfl) ?_
 refine dW (i:=3) (N:=some 14) #[I,I,I,I,O,O,O] rfl rfl (aN aC.out (by kernel_rfl)) (by decide) (fun K hK=>?_)
 refine fD Tryz.func81 (by kernel_rfl) rfl #[.agg #[.slice A0 old.length c0,.int .i64 nw,.slice A2 ss.length c2,.slice A3 js.length c3]] (by rfl) rfl rfl (by(try simp only[List.map_toArray,List.map_cons,List.map_nil]);rfl) ?_
 refine(Dy (nw:=nw) (js:=js) (H.out.below HB2.out) Dh hs0 IW HST.out P HP.out nw.toNat (by omega) (by omega) (by omega) Bu.out).mono ?_
 rintro e_ w_ ⟨⟨vs,rfl,hRs⟩,hbx⟩
 refine⟨_,rfl,hK.out _ _ ?_⟩
 clear hK K
 have HRc:=aa.mk (Kd.fC ae5.out hbx)
 have HRs:=aa.mk (Kd.jD hRs HB2.out.size)
 have HB3:=aa.mk (HB2.out.trans (hbx.mono HB2.out.size))
 clear hbx hRs HB2 ae5
 refine bF (by simp only[Act.put,List.setIfInBounds_toArray,List.set_cons_zero,List.set_cons_succ];rfl) ?_
 refine bI 4 2 #[I,I,I,I,I,O,O] aC (h:=?_)
 refine bI 5 3 #[I,I,I,I,I,I,O] aC (h:=?_)
 refine bI 6 4 #[I,I,I,I,I,I,I] aC (h:=?_)
 refine fF (bQ aC.out (by kernel_rfl)) ?_
 go_wp2_with fail
 go_ret3
 exact⟨⟨_,_,rfl,HRc.out,HRs.out⟩,HB3.out⟩
end Go.Proofs.YtkjoilgpmngndaaGreat
namespace Go.Proofs.YtkjoilgpmngndaaGreat
open Go.RowKit Go.Shelf Go.Proofs.YtkjoilgpmngndaaGreat.av Go.Proofs.YtkjoilgpmngndaaGreatW.aA Go.Proofs.YtkjoilgpmngndaaGreatW.aJ
section
variable {P:Program} {ops:Array Oper} {Q:Exit->Act->World->Prop} {md:Region.Mode} {S:World->Prop} {ds:List Nat} {n:Nat}
def il(n:Nat)(P:Program)(md:Region.Mode)(ops:Array Oper)(Q:Exit->Act->World->Prop)(S:World->Prop)(ds:List Nat):Nat->Array Bool->Act->World->Prop
 |0,listed,a,w=>Region.ready md ops listed=[]/\Q .normal a w
 |fuel+1,listed,a,w=>
  (Region.ready md ops listed=[]->Q .normal a w) /\
  ∀i ∈ Region.ready md ops listed,wpOpIn Fence.wide n P ops Q i (fun a' w'=>(i ∉ ds->S w->S w')/\il n P md ops Q S ds fuel (listed.setIfInBounds i true) a' w') a w
theorem uZ:∀(fuel:Nat) (listed:Array Bool) (a:Act) (w:World),il n P md ops Q S ds fuel listed a w->wpAnyIn Fence.wide n P md ops Q fuel listed a w
 |0,_,_,_,h=>h
 |fuel+1,_,_,_,h=>⟨h.1,fun i hi=>wpOpIn_mono (fun a' w' h'=>uZ fuel _ a' w' h'.2) (h.2 i hi)⟩
theorem YieldsIf.Oc{i:Nat}{o:Oper}{v:Value}{a:Act}(hi:ops[i]?=some o)(hy:YieldsIf P ops S o v a){K:Act->World->Prop}{w:World}(hS:S w)(h:K (a.put o.dst v) w):wpOpIn Fence.wide n P ops Q i K a w:=by
 unfold Go.wpOpIn
 simp only[hi]
 have hab:∀f,o.about P w a.eval=some f->Fence.wide.fn f:=fun f _=>trivial
 rcases hy with⟨hw,hv⟩|⟨hw,rfl⟩
 .simp only[hw,if_true,Oper.wpIn,show Fence.wide.round=none from rfl,Oper.semAt_none,hv w hS,Oper.uponIn];exact⟨hab,h⟩
 .simp only[hw,Bool.false_eq_true,if_false];exact⟨hab,h⟩
theorem yC{j:Nat}{oi oj:Oper}{v:Value}(hj:ops[j]?=some oj)(hap:oi.apart ops oj=true)
  (hsi:∀cs b,oi.op≠ .select cs b) (hsj:∀cs b,oj.op≠ .select cs b)
  (hQ:∀c a w,Q (.panic c) (a.put oi.dst v) w->Q (.panic c) a w) {K:Act->World->Prop} {a:Act} {w:World}
  (hy:YieldsIf P ops S oi v a) (h:wpOpIn Fence.wide n P ops Q j K (a.put oi.dst v) w):
  wpOpIn Fence.wide n P ops Q j (fun a' w'=>YieldsIf P ops S oi v a'/\K (a'.put oi.dst v) w') a w:=by
 obtain⟨h1,h2,h3⟩:=Oper.apart_spec hap
 have keep:∀(a:Act),YieldsIf P ops S oi v a->∀u,YieldsIf P ops S oi v (a.put oj.dst u):=fun a hy u=>
  hy.of_same (execOp_put oi hsi a oj.dst u h3) (wanted_put oi a oj.dst u h3)
 have keepD:∀d,YieldsIf P ops S oi v {a with defers:=d::a.defers}:=fun d=>hy.of_same rfl rfl
 unfold wpOpIn at *
 simp only[hj] at *
 rw[wanted_put oj a oi.dst v h1] at h
 split
 .rename_i hw
  simp only[hw,if_true] at h
  unfold Oper.wpIn at *
  refine⟨fun f _=>trivial,?_⟩
  have h:=h.2
  rw[show Fence.wide.round=none from rfl,Oper.semAt_none,execOp_put oj hsj a oi.dst v h1] at h
  rw[show Fence.wide.round=none from rfl,Oper.semAt_none]
  generalize(execOp a.eval oj).run P w=r at *
  cases r with
  |ok x w'=>
   cases x<;>simp only[Oper.uponIn] at h ⊢
   case value u=>exact⟨keep a hy u,by rw[<- Act.put_comm a v u h2];exact h⟩
   case skip=>exact⟨keep a hy _,by rw[<- Act.put_comm a v undef h2];exact h⟩
   case defer d=>
    refine⟨keep _ (keepD d) _,?_⟩
    rw[<- Act.put_comm _ v undef h2,<- Act.put_defers]
    exact h
   case enter f args=>
    refine⟨h.1,CallsIn.mono h.2 fun e w'' he=>?_⟩
    cases e with
    |returned u=>exact⟨keep a hy u,by rw[<- Act.put_comm a v u h2];exact he⟩
    |panicked c=>exact hQ _ _ _ he
    |outgrown=>exact he
   case row row args=>exact⟨h.1,RowsIn.mono h.2 fun u w'' he=>⟨keep a hy u,by rw[<- Act.put_comm a v u h2];exact he⟩⟩
   case round l f tmps assign body=>
    refine⟨h.1,RoundIn.mono h.2 fun e w'' he=>?_⟩
    cases e with
    |returned u=>exact⟨keep a hy u,by rw[<- Act.put_comm a v u h2];exact he⟩
    |panicked c=>exact hQ _ _ _ he
    |outgrown=>exact he
  |halt x w'=>
   cases x<;>simp only[Oper.uponIn] at h ⊢
   case panic u=>exact hQ _ _ _ h
 .rename_i hw
  simp only[hw] at h
  exact⟨fun f _=>trivial,keep a hy _,by rw[<- Act.put_comm a v undef h2];exact h.2⟩
theorem Dw{i:Nat}{oi:Oper}{v:Value}(hi:ops[i]?=some oi)(hsel:∀(j:Nat) (o:Oper) cs b,ops[j]?=some o->o.op≠ .select cs b)
  (hQ:∀c a w,Q (.panic c) (a.put oi.dst v) w->Q (.panic c) a w) (m:Nat):
  ∀(fuel:Nat) (listed:Array Bool) (a:Act) (w:World),
   (∀j oj,ops[j]?=some oj->j≠i->listed.getD j true=false->(∀e ∈ oj.after,Region.binds md e=true->e.on≠i)->oi.apart ops oj=true) ->
   iT md ops listed->(∀d ∈ ds,listed.getD d true=false->Region.lC md ops i m d=true) ->
   i ∈ Region.ready md ops listed->YieldsIf P ops S oi v a->S w ->
   il n P md ops Q S ds fuel (listed.setIfInBounds i true) (a.put oi.dst v) w->il n P md ops Q S ds (fuel+1) listed a w:=by
 intro fuel
 induction fuel with
 |zero=>
  intro listed a w _ _ _ hr hy hS H
  refine⟨fun h=>(by rw[h] at hr;cases hr),fun j hj=>?_⟩
  by_cases hji:j=i
  .subst hji;exact YieldsIf.Oc hi hy hS ⟨fun _ h=>h,H⟩
  .have:=ready_mono hj hji
   rw[H.1] at this
   cases this
 |succ fuel ih=>
  intro listed a w hfree hc hd hr hy hS H
  refine⟨fun h=>(by rw[h] at hr;cases hr),fun j hj=>?_⟩
  by_cases hji:j=i
  .subst hji;exact YieldsIf.Oc hi hy hS ⟨fun _ h=>h,H⟩
  .have h1:=H.2 j (ready_mono hj hji)
   obtain⟨hjun,oj,hoj,hall⟩:=mem_ready.1 hj
   have yj:=(mem_ready.1 hr).1
   have hnot:∀e ∈ oj.after,Region.binds md e=true->e.on≠i:=fun e he hb heq=>by
    have h1:=hall e he hb
    rw[heq] at h1
    rcases Nat.lt_or_ge i listed.size with h'|h'
    .simp[h'] at yj h1;rw[yj] at h1;cases h1
    .simp[Array.getElem?_eq_none h'] at h1
   have hjd:j ∉ ds:=fun hm=>Region.qX hc (hd j hm hjun) yj hj
   have h2:=yC hoj (hfree j oj hoj hji hjun hnot) (fun cs b=>hsel i oi cs b hi) (fun cs b=>hsel j oj cs b hoj) hQ hy h1
   have hfree':∀k ok,ops[k]?=some ok->k≠i->(listed.setIfInBounds j true).getD k true=false ->
     (∀e ∈ ok.after,Region.binds md e=true->e.on≠i)->oi.apart ops ok=true:=fun k ok hk hki hun hno=>by
    refine hfree k ok hk hki ?_ hno
    by_cases hjk:j=k
    .subst hjk;exact hjun
    .rw[getD_set_ne true hjk] at hun;exact hun
   have hd':∀d ∈ ds,(listed.setIfInBounds j true).getD d true=false->Region.lC md ops i m d=true:=fun d hm hun=>by
    refine hd d hm ?_
    by_cases hjk:j=d
    .subst hjk;exact hjun
    .rw[getD_set_ne true hjk] at hun;exact hun
   refine wpOpIn_mono (fun a' w' h3=>⟨h3.2.1,ih (listed.setIfInBounds j true) a' w' hfree' (hc.set hj) hd' (ready_mono hr (Ne.symm hji)) h3.1 (h3.2.1 hjd hS) ?_⟩) h2
   rw[Array.setIfInBounds_comm _ _ hji]
   exact h3.2.2
theorem Lr{i:Nat}{oi:Oper}{v:Value}(hi:ops[i]?=some oi)(hsel:∀(j:Nat) (o:Oper) cs b,ops[j]?=some o->o.op≠ .select cs b)
  (hQ:∀c a w,Q (.panic c) (a.put oi.dst v) w->Q (.panic c) a w):
  ∀(fuel:Nat) (listed:Array Bool) (a:Act) (w:World),
   (∀j oj,ops[j]?=some oj->j≠i->listed.getD j true=false->(∀e ∈ oj.after,Region.binds md e=true->e.on≠i)->oi.apart ops oj=true) ->
   i ∈ Region.ready md ops listed->Yields P ops oi v a ->
   il n P md ops Q S ds fuel (listed.setIfInBounds i true) (a.put oi.dst v) w->il n P md ops Q S ds (fuel+1) listed a w:=by
 intro fuel
 induction fuel with
 |zero=>
  intro listed a w _ hr hy H
  refine⟨fun h=>(by rw[h] at hr;cases hr),fun j hj=>?_⟩
  by_cases hji:j=i
  .subst hji;exact YieldsIf.Oc hi (hy.yieldsIf (S:=fun _=>True)) trivial ⟨fun _ h=>h,H⟩
  .have:=ready_mono hj hji
   rw[H.1] at this
   cases this
 |succ fuel ih=>
  intro listed a w hfree hr hy H
  refine⟨fun h=>(by rw[h] at hr;cases hr),fun j hj=>?_⟩
  by_cases hji:j=i
  .subst hji;exact YieldsIf.Oc hi (hy.yieldsIf (S:=fun _=>True)) trivial ⟨fun _ h=>h,H⟩
  .have h1:=H.2 j (ready_mono hj hji)
   obtain⟨hjun,oj,hoj,hall⟩:=mem_ready.1 hj
   have yj:=(mem_ready.1 hr).1
   have hnot:∀e ∈ oj.after,Region.binds md e=true->e.on≠i:=fun e he hb heq=>by
    have h1:=hall e he hb
    rw[heq] at h1
    rcases Nat.lt_or_ge i listed.size with h'|h'
    .simp[h'] at yj h1;rw[yj] at h1;cases h1
    .simp[Array.getElem?_eq_none h'] at h1
   have h2:=yC (S:=fun _=>True) hoj (hfree j oj hoj hji hjun hnot) (fun cs b=>hsel i oi cs b hi) (fun cs b=>hsel j oj cs b hoj) hQ hy.yieldsIf h1
   have hfree':∀k ok,ops[k]?=some ok->k≠i->(listed.setIfInBounds j true).getD k true=false ->
     (∀e ∈ ok.after,Region.binds md e=true->e.on≠i)->oi.apart ops ok=true:=fun k ok hk hki hun hno=>by
    refine hfree k ok hk hki ?_ hno
    by_cases hjk:j=k
    .subst hjk;exact hjun
    .rw[getD_set_ne true hjk] at hun;exact hun
   refine wpOpIn_mono (fun a' w' h3=>⟨h3.2.1,ih (listed.setIfInBounds j true) a' w' hfree' (ready_mono hr (Ne.symm hji)) (h3.1.imp (fun⟨x,y⟩=>⟨x,fun w=>y w trivial⟩) id) ?_⟩) h2
   rw[Array.setIfInBounds_comm _ _ hji]
   exact h3.2.2
theorem sD{id m:Nat}{a:Act}{w:World}(l:Array Bool)(hm:P.follows .mixedOrders=true)(hn:ops.size=m)(hl:Array.replicate m false=l)(hS:S w.drew)
  (h:S w.drew->il n P .any ops Q S ds m l a w.drew):(Code.region id ops true).wpIn Fence.wide n P Q a w:=by
 subst hn
 subst hl
 exact wpIn_region_any hm (uZ _ _ _ _ (h hS))
theorem Y9{i:Nat}{N:Option Tmp}{oi:Oper}{v:Value}{fuel:Nat}{l:Array Bool}{a:Act}{w:World}(l':Array Bool)(hi:ops[i]?=some oi)(hN:oi.dst=N)(hc:takeB md ops ds l l' i=true)
  (hQ:∀c a w,Q (.panic c) (a.put oi.dst v) w->Q (.panic c) a w) (hy:YieldsIf P ops S oi v a) (hS:S w) {a':Act} (ha:a.put N v=a')
  (h:il n P md ops Q S ds fuel l' a' w):il n P md ops Q S ds (fuel+1) l a w:=by
 subst ha
 subst hN
 simp only[takeB,Bool.and_eq_true,beq_iff_eq] at hc
 obtain⟨⟨⟨⟨⟨h1,h2⟩,h3⟩,h4⟩,h5⟩,h6⟩:=hc
 subst h6
 exact Dw hi (Region.noSelect_spec h1) hQ ops.size fuel l a w (Region.free_spec hi h2) (Region.xn h4)
  (fun d hm hun=>by have:=List.all_eq_true.1 h5 d hm;rw[hun] at this;simpa using this) (by simpa using h3) hy hS h
theorem iD{i:Nat}{N:Option Tmp}{oi:Oper}{v:Value}{fuel:Nat}{l:Array Bool}{a:Act}{w:World}(l':Array Bool)(hi:ops[i]?=some oi)(hN:oi.dst=N)(hc:QA md ops l l' i=true)
  (hQ:∀c a w,Q (.panic c) (a.put oi.dst v) w->Q (.panic c) a w) (hy:Yields P ops oi v a) {a':Act} (ha:a.put N v=a')
  (h:il n P md ops Q S ds fuel l' a' w):il n P md ops Q S ds (fuel+1) l a w:=by
 subst ha
 subst hN
 simp only[QA,Bool.and_eq_true,beq_iff_eq] at hc
 obtain⟨⟨⟨h1,h2⟩,h3⟩,h6⟩:=hc
 subst h6
 exact Lr hi (Region.noSelect_spec h1) hQ fuel l a w (Region.free_spec hi h2) (by simpa using h3) hy h
def qh(n:Nat)(P:Program)(ops:Array Oper)(Q:Exit->Act->World->Prop)(oi:Oper)(N:Option Tmp)(a:Act)(w:World)(K:Act->World->Prop):Prop:=
 if Region.wanted oi (yielded ops a.tmps)=true then Oper.wpIn Fence.wide n P oi a w K Q else K (a.put N undef) w
theorem lX{i:Nat}{N:Option Tmp}{oi:Oper}{fuel:Nat}{l:Array Bool}{a:Act}{w:World}(l':Array Bool)(hi:ops[i]?=some oi)(hN:oi.dst=N)(hc:pJ md ops l l' i=true)(hd:i ∉ ds)
  (h:∀K:Act->World->Prop,Shut (∀a' w',S w'->(S w'->il n P md ops Q S ds fuel l' a' w')->K a' w')->qh n P ops Q oi N a w K):
  il n P md ops Q S ds (fuel+1) l a w:=by
 subst hN
 simp only[pJ,Bool.and_eq_true,beq_iff_eq] at hc
 obtain⟨h1,h2⟩:=hc
 subst h2
 refine⟨fun h0=>(by rw[h1] at h0;cases h0),?_⟩
 rw[h1]
 intro j hj
 obtain rfl:=List.mem_singleton.1 hj
 refine wpOpIn_step hi fun K' hK'=>?_
 have h3:=h K' (fun a' w' hS hW=>hK' _ _ ⟨fun _ _=>hS,hW hS⟩)
 unfold qh at h3
 split<;>rename_i hw
 .rw[if_pos hw] at h3;exact h3
 .rw[if_neg hw] at h3;exact⟨fun f _=>trivial,h3⟩
theorem yc{i:Nat}{N:Option Tmp}{oi:Oper}{fuel:Nat}{l:Array Bool}{a:Act}{w:World}(l':Array Bool)(hi:ops[i]?=some oi)(hN:oi.dst=N)(hc:pJ md ops l l' i=true)(hd:i ∈ ds)
  (h:∀K:Act->World->Prop,Shut (∀a' w',il n P md ops Q S ds fuel l' a' w'->K a' w')->qh n P ops Q oi N a w K):
  il n P md ops Q S ds (fuel+1) l a w:=by
 subst hN
 simp only[pJ,Bool.and_eq_true,beq_iff_eq] at hc
 obtain⟨h1,h2⟩:=hc
 subst h2
 refine⟨fun h0=>(by rw[h1] at h0;cases h0),?_⟩
 rw[h1]
 intro j hj
 obtain rfl:=List.mem_singleton.1 hj
 refine wpOpIn_step hi fun K' hK'=>?_
 have h3:=h K' (fun a' w' hW=>hK' _ _ ⟨fun hn=>absurd hd hn,hW⟩)
 unfold qh at h3
 split<;>rename_i hw
 .rw[if_pos hw] at h3;exact h3
 .rw[if_neg hw] at h3;exact⟨fun f _=>trivial,h3⟩
theorem yu{l:Array Bool}{a:Act}{w:World}{m:Nat}(hr:(Region.ready md ops l==[])=true)(h:Q .normal a w):il n P md ops Q S ds m l a w:=by
 have hr:Region.ready md ops l=[]:=by simpa using hr
 cases m with
 |zero=>exact⟨hr,h⟩
 |succ m=>exact⟨fun _=>h,by rw[hr];simp⟩
theorem iw{fuel:Nat}{l:Array Bool}{a a':Act}{w:World}(ha:a=a')(h:il n P md ops Q S ds fuel l a' w):il n P md ops Q S ds fuel l a w:=by
 subst ha
 exact h
theorem lZ{m:Nat}{l:Array Bool}{a:Act}{w:World}{T:Bool×List (List Nat×List Nat)}{B:List Nat}(hT:eu md ops=T)(hB:bO T.2 B=true)(h:aa (eu md ops=T)->aa (bO T.2 B=true)->il n P md ops Q S ds m l a w):il n P md ops Q S ds m l a w:=h ⟨hT⟩ ⟨hB⟩
theorem S9{oi:Oper}{N:Option Tmp}{a:Act}{w:World}{K:Act->World->Prop}(f:FuncId)(args:Array Value)(hw:Region.wanted oi (yielded ops a.tmps)=true)(hN:oi.dst=N)(hrun:(execOp a.eval oi).run P w= .ok (.enter f args) w)
  (h:Calls P f args w fun e w'=>∃v,e= .returned v/\K (a.put N v) w'):qh n P ops Q oi N a w K:=by
 unfold qh
 rw[if_pos hw]
 subst hN
 refine⟨fun f _=>trivial,?_⟩
 rw[show Fence.wide.round=none from rfl,Oper.semAt_none,hrun,Oper.uponIn_enter]
 refine⟨fun h=>(by cases h),?_⟩
 refine callsIn_wide.2 (h.mono fun e w'' hh=>?_)
 obtain⟨v,rfl,hk⟩:=hh
 exact hk
theorem lD {oi:Oper} {N:Option Tmp} {a:Act} {w:World} {K:Act->World->Prop} {f:FuncId} {fn:Func} {os:Array Operand} {ts:Array TypeId} (hf:P.funcs[f]?=some fn) (hname:(fn.name== "runtime.NumGoroutine")=false) (hb:fn.body.isSome=true) (args:Array Value)
  (hw:Region.wanted oi (yielded ops a.tmps)=true) (hN:oi.dst=N) (hop:oi.op= .call {callee:= .value (.func f),args:=os,argTypes:=ts}) (hargs:os.map a.eval=args)
  (h:Calls P f args w fun e w'=>∃v,e= .returned v/\K (a.put N v) w'):qh n P ops Q oi N a w K:=by
 refine S9 f args hw hN ?_ h
 have he:=xe hf hname hb args w
 unfold execOp
 simp[hop,resolve,Deferred.ofValue,invoke,Act.eval,hargs,he]
theorem zl{oi:Oper}{N:Option Tmp}{a:Act}{w w1:World}{v:Value}{K:Act->World->Prop}(hw:Region.wanted oi (yielded ops a.tmps)=true)(hN:oi.dst=N)(hrun:(execOp a.eval oi).run P w= .ok (.value v) w1)
  (h:K (a.put N v) w1):qh n P ops Q oi N a w K:=by
 unfold qh
 rw[if_pos hw]
 subst hN
 refine⟨fun f _=>trivial,?_⟩
 rw[show Fence.wide.round=none from rfl,Oper.semAt_none,hrun]
 exact h
theorem LC(k:Nat):Fence.wide.room k:=fun d h=>by cases h
theorem YieldAt.any{m m':Nat}{l:Nat}{args:Array Value}{W:World}{R:Ending->World->Prop}(h:YieldAt Fence.wide m P l args W R):YieldAt Fence.wide m' P l args W R:=by
 obtain⟨fn,tmps,assign,body,hy,hR⟩:=h
 exact⟨fn,tmps,assign,body,hy,hR.1,fun c cs _=>hR.2 c cs (LC _)⟩
theorem UK{oi:Oper}{N:Option Tmp}{a:Act}{w:World}{K:Act->World->Prop}{l:Nat}{x:Operand}{os:Array Operand}{ts:Array TypeId}(args:Array Value)
  (hw:Region.wanted oi (yielded ops a.tmps)=true) (hN:oi.dst=N) (hop:oi.op= .call {callee:= .value x,args:=os,argTypes:=ts}) (hx:a.eval x= .func (.yield l) #[] #[]) (hargs:os.map a.eval=args) {m:Nat}
  (h:YieldAt Fence.wide m P l args w fun e w'=>∃v,e= .returned v/\K (a.put N v) w'):qh n P ops Q oi N a w K:=by
 obtain⟨fn,tmps,assign,body,hy,hR⟩:=YieldAt.any (m':=n-1) h
 unfold qh
 rw[if_pos hw]
 subst hN
 refine⟨fun f _=>trivial,?_⟩
 have hrun:(execOp a.eval oi).run P w= .ok (.round l fn tmps assign body) w:=by
  unfold execOp
  simp only[hop,resolve,hargs,hx]
  simp[Deferred.ofValue,invoke,hy,go_sem]
 rw[show Fence.wide.round=none from rfl,Oper.semAt_none,hrun,Oper.uponIn_round]
 refine⟨fun h=>(by cases h),?_⟩
 refine hR.mono fun e w'' hh=>?_
 obtain⟨v,rfl,hk⟩:=hh
 exact hk
theorem Ie {oi:Oper} {N:Option Tmp} {a:Act} {w:World} {K:Act->World->Prop} {f:FuncId} {fn:Func} {x:Operand} {os:Array Operand} {ts:Array TypeId} {cap:Array Value} (hf:P.funcs[f]?=some fn) (hname:(fn.name== "runtime.NumGoroutine")=false) (hb:fn.body.isSome=true) (args:Array Value)
  (hw:Region.wanted oi (yielded ops a.tmps)=true) (hN:oi.dst=N) (hop:oi.op= .call {callee:= .value x,args:=os,argTypes:=ts}) (hx:a.eval x= .func (.func f) #[] cap) (hargs:os.map a.eval=args)
  (h:Calls P f (args++cap) w fun e w'=>∃v,e= .returned v/\K (a.put N v) w'):qh n P ops Q oi N a w K:=by
 refine S9 f (args++cap) hw hN ?_ h
 have he:=xe hf hname hb (args++cap) w
 unfold execOp
 simp only[hop,resolve,hargs,hx]
 simp[Deferred.ofValue,invoke,he,go_sem]
theorem aaC {oi:Oper} {N:Option Tmp} {a:Act} {w:World} {K:Act->World->Prop} {f:FuncId} {fn:Func} {x:Operand} {os:Array Operand} {ts:Array TypeId} {cap:Array Value} (hf:P.funcs[f]?=some fn) (hname:(fn.name== "runtime.NumGoroutine")=false) (hb:fn.body.isSome=true) (args:Array Value)
  (hw:Region.wanted oi (yielded ops a.tmps)=true) (hN:oi.dst=N) (hop:oi.op= .call {callee:= .value x,args:=os,argTypes:=ts}) (hx:a.eval x= .func (.func f) #[] cap) (hargs:os.map a.eval=args)
  (h:Calls P f (args++cap) w fun e w'=>∃v,e= .returned v/\K (a.put N v) w'):if Region.wanted oi (yielded ops a.tmps)=true then Oper.wp P oi a w K Q else K (a.put N undef) w:=by
 refine call_ f (args++cap) hw hN ?_ h
 have he:=xe hf hname hb (args++cap) w
 unfold execOp
 simp only[hop,resolve,hargs,hx]
 simp[Deferred.ofValue,invoke,he,go_sem]
theorem Ty{oi:Oper}{N:Option Tmp}{a:Act}{w:World}{K:Act->World->Prop}(s x:Operand)(t:TypeId)(hw:Region.wanted oi (yielded ops a.tmps)=true)(hN:oi.dst=N)(hop:oi.op=Op.call {callee:=Callee.builtin Builtin.append,args:=#[s,x],argTypes:=#[t,t]})
  (e:TypeId) (h1:P.underlying t=some (.slice e)) (h2:(P.info? e).map (fun i=>(i.zero,i.size,i.bytes))=some (some (.int .i64 0),1,8)) (b k cap:Nat) (hs:a.eval s= .slice (some ⟨b,0,none⟩) k cap)
  (ad:Addr) (y:Int) (hx:a.eval x= .slice (some ad) 1 1) (hc:w.cell? ad=some (.int .i64 y)) (hroom:k+1<=cap) (hsp:(w.cell? ⟨b,k,none⟩).isSome=true) (hfr:w.frozen? ⟨b,k,none⟩=false)
  (h:K (a.put N (.slice (some ⟨b,0,none⟩) (k+1) cap)) (w.setCell ⟨b,k,none⟩ (.int .i64 y))):qh n P ops Q oi N a w K:=by
 obtain⟨i,hi,hi2⟩:=Option.map_eq_some_iff.1 h2
 have hsz:i.size=1:=by simp only[Prod.mk.injEq] at hi2;exact hi2.2.1
 have hrun:=run_append_room_cells (P:=P) w t oi.type e i h1 hi b 0 k cap ad 1 1 [.int .i64 y] (by rw[hsz];rfl) (fun j u hu=>by
  match j,hu with
  |0,hu=>cases hu;rw[show ad.add 0=ad by unfold Addr.add;split<;>simp_all];exact hc) (fun u hu=>by rw[List.mem_singleton.1 hu];rfl) hroom (fun j hj=>by
  obtain rfl:j=0:=by simpa using hj
  rw[hsz];simpa using hsp) (fun j hj=>by
  obtain rfl:j=0:=by simpa using hj
  rw[hsz];simpa using hfr)
 refine zl hw hN (w1:=w.setCell ⟨b,k,none⟩ (.int .i64 y)) (v:= .slice (some ⟨b,0,none⟩) (k+1) cap) ?_ h
 have e2:w.setCells b (0+k*i.size) [.int .i64 y]=w.setCell ⟨b,k,none⟩ (.int .i64 y):=by rw[hsz];simp[World.setCells]
 rw[e2] at hrun
 simp[execOp,hop,resolve,invoke,builtin,hs,hx,hrun,Result.andThen]
end
end Go.Proofs.YtkjoilgpmngndaaGreat
