import Derived.Test.YtkjoilgpmngndaaGreatQ15
set_option linter.all false
namespace Go.Proofs.YtkjoilgpmngndaaGreat
open Go.RowKit Go.Shelf Go.Proofs.YtkjoilgpmngndaaGreat.av Go.Proofs.YtkjoilgpmngndaaGreatW.aA Go.Proofs.YtkjoilgpmngndaaGreatW.aJ
theorem Xl.below{w w':World}{g mb:Nat}{A0:Option Addr}{c0:Nat}{old:List Int}{nw:Int}{A2:Option Addr}{c2:Nat}{ss:List bH}{A3:Option Addr}{c3:Nat}{js:List bS}(h:Xl w g mb A0 c0 old nw A2 c2 ss A3 c3 js)(hb:Below w.heap.size w w'):Xl w' g mb A0 c0 old nw A2 c2 ss A3 c3 js:=
 ⟨h.blk.below hb,h.jm.move (hb.block _ h.jm.lt)⟩
def qP(ss:List bH)(js:List bS)(d:Nat):Bool:=!qf (jn js) (di (kz ss) (d:Int) ss.length)
def ku(ss:List bH)(js:List bS)(k:Nat):List Nat:=(List.range k).filter (qP ss js)
theorem Iu(ss:List bH)(js:List bS)(k:Nat):ku ss js (k+1)=if qP ss js k then ku ss js k++[k] else ku ss js k:=by
 unfold ku
 rw[List.range_succ,List.filter_append]
 by_cases h:qP ss js k=true
 .rw[if_pos h]
  simp[List.filter_cons,h]
 .rw[if_neg h]
  simp[List.filter_cons,h]
theorem KL(ss:List bH)(js:List bS)(k:Nat):(ku ss js k).length<=k:=by
 have:=List.length_filter_le (qP ss js) (List.range k)
 rwa [List.length_range] at this
def lJ(old:List Int)(nw:Int)(ss:List bH)(js:List bS):List Int×Int:=if gU old nw ss js=0 then(jK (ku ss js nw.toNat),0) else([],gU old nw ss js)
set_option maxRecDepth 100000 in
set_option maxHeartbeats 40000000 in
theorem yY{A0:Option Addr}{c0:Nat}{old:List Int}{nw:Int}{A2:Option Addr}{c2:Nat}{ss:List bH}{A3:Option Addr}{c3:Nat}{js:List bS}{w:World}(h:uX w A0 c0 old A2 c2 ss A3 c3 js):
  Calls Tryz.prog 13 #[.agg #[.slice A0 old.length c0,.int .i64 nw,.slice A2 ss.length c2,.slice A3 js.length c3]] w fun e w'=>(∃v,e= .returned (.tuple #[v,.int .i64 (lJ old nw ss js).2])/\(Kd.int .i64).R 3 w' w.heap.size (fun _=>True) v (lJ old nw ss js).1)/\Below w.heap.size w w':=by
 have H:=aa.mk h
 clear h
 go_enter Tryz.func13,Tryz.ntmps13
 go_wp2_with fail
 have hb0:=ae (Below.refl w.heap.size w) (.cells #[.slice A0 old.length c0,.int .i64 nw,.slice A2 ss.length c2,.slice A3 js.length c3] 43)
 have B0:=aR.new w [.slice A0 old.length c0,.int .i64 nw,.slice A2 ss.length c2,.slice A3 js.length c3] 43
 refine(iH (H.out.below hb0)).mono ?_
 rintro e w1 ⟨rfl,hb1⟩
 have B1:=aa.mk (B0.below hb1)
 have HB1:=aa.mk (hb0.trans (hb1.mono (by simp)))
 have h10:=B1.out.cell 0
 have h11:=B1.out.cell 1
 have h12:=B1.out.cell 2
 have mg:=B1.out.cell 3
 simp only[List.getElem?_cons_zero,List.getElem?_cons_succ] at h10 h11 h12 mg
 clear hb0 hb1 B0
 by_cases hc:gU old nw ss js=0
 rotate_left
 .have hcb:(gU old nw ss js !=0)=true:=by simp[hc]
  go_wp2_with fail
  have Sn:lJ old nw ss js=([],gU old nw ss js):=by unfold lJ;rw[if_neg hc]
  go_ret2
  rw[Sn]
  exact⟨⟨_,rfl,Kd.jL _ _ _ _ _⟩,HB1.out⟩
 obtain⟨ho0,IW,hs0,Dh,hj,hol,hn1,Kl,hst,Si,hjo⟩:=kI hc
 have HF:=aa.mk (show lJ old nw ss js=(jK (ku ss js nw.toNat),0) by unfold lJ;rw[if_pos hc])
 have hcb:(gU old nw ss js !=0)=false:=by simp[hc]
 rw[hc]
 clear hc hst hol Si hcb
 go_wp2_with fail
 refine(zN (H.out.below HB1.out) Dh hj hjo).mono ?_
 rintro e w2 ⟨rfl,hw2,hb2⟩
 obtain⟨gw,hgw⟩:∃g,w1.heap.size+1+1=g:=⟨_,rfl⟩
 obtain⟨mb,hmb⟩:∃g,w1.heap.size+1=g:=⟨_,rfl⟩
 rw[hgw,hmb] at hw2
 rw[hgw]
 have HB2:=aa.mk (HB1.out.trans (hb2.mono HB1.out.size))
 have B2:=aa.mk (B1.out.below hb2)
 have HW2:=aa.mk hw2
 have h20:=B2.out.cell 0
 have h21:=B2.out.cell 1
 have h22:=B2.out.cell 2
 have h23:=B2.out.cell 3
 simp only[List.getElem?_cons_zero,List.getElem?_cons_succ] at h20 h21 h22 h23
 clear hgw hmb hw2 hb2 B1 HB1 h10 h11 h12 mg hjo hj
 obtain⟨nn,hnn⟩:∃n:Nat,nw.toNat=n:=⟨_,rfl⟩
 have Ua:=aa.mk (show nw=(nn:Int) by omega)
 rw[hnn] at HF
 have ZT:nn<=4:=by omega
 clear hn1 Kl hnn
 go_wp2_with fail
 clear h20 h21 h22 h23
 have hs2:=HB2.out.size
 go_loopw [6,17] (fun v6 v17 wr=>∃k:Nat,k<=nn/\v17= .int .i64 k/\aa (Below w2.heap.size w2 wr)/\w2.heap.size<=wr.heap.size/\aa ((Kd.int .i64).R 3 wr w2.heap.size (fun b=>w2.heap.size<=b) v6 (jK (ku ss js k)))) (fun _ v17 _=>nn-(intOf v17).toNat)
 case atStart=>exact⟨0,Nat.zero_le _,rfl,⟨Below.refl _ _⟩,Nat.le_refl _,⟨Kd.jL _ _ _ _ _⟩⟩
 case round=>
  obtain⟨k,hk,rfl,HB,oH,HR⟩:=hrel
  by_cases hkl:k<nn
  .have D8:decide ((k:Int)<nw)=true:=by have:=Ua.out;simp;omega
   have B3:=aa.mk (B2.out.below HB.out)
   have hg:=B3.out.lt
   have kQ:=B3.out.cell 0
   have h31:=B3.out.cell 1
   have h32:=B3.out.cell 2
   have CB:=B3.out.cell 3
   simp only[List.getElem?_cons_zero,List.getElem?_cons_succ] at kQ h31 h32 CB
   go_wp2_with fail
   clear kQ h31 h32 CB
   refine(C7 (H.out.below (HB2.out.trans (HB.out.mono hs2))) Dh).mono ?_
   rintro e w3 ⟨rfl,hb3⟩
   have HB3:=aa.mk (HB.out.trans (hb3.mono HB.out.size))
   have HR3:=aa.mk (Kd.fC HR.out hb3)
   have hs3:=Nat.le_trans oH hb3.size
   clear hb3 B3 HB HR hg
   go_wp2_with fail
   refine(qZ (HW2.out.below HB3.out) Dh (kz ss) (k:Int)).mono ?_
   rintro e w4 ⟨rfl,hb4⟩
   have kY:=aa.mk (HB3.out.trans (hb4.mono HB3.out.size))
   have HR4:=aa.mk (Kd.fC HR3.out hb4)
   have hs4:=Nat.le_trans hs3 hb4.size
   clear hb4 HB3 HR3
   have hsu:=Iu ss js k
   have hab:qP ss js k=!qf (jn js) (di (kz ss) (k:Int) ss.length):=rfl
   rw[hab] at hsu
   have I6:=aa.mk (show(jK (ku ss js k)).length<=k by have:=KL ss js k;simpa[jK] using this)
   cases hcn:qf (jn js) (di (kz ss) (k:Int) ss.length)
   .rw[hcn] at hsu
    simp only[Bool.not_false,if_true] at hsu
    have QJ:=aa.mk hsu
    clear hsu hab hcn
    go_wp2_with ((with_reducible refine cO (b:= .append) (xs:=#[.tmp 26,.tmp 28]) rfl ?_);at_builtin;refine Kd.jk (Kd.int .i64) (w0:=w4) w2.heap.size rfl (.tmp 26) (.tmp 28) 22 3 (.int .i64 0) 8 rfl Tryz.underlying22 info3 rfl (by decide) (by omega) u6 (jK (ku ss js k)) (k:Int) [.int .i64 (k:Int)] (fun b=>w2.heap.size<=b) (fun _=>False) rfl rfl ?aP (fun _ hk=>hk.elim) ?aF ?aO ?aB ?aS ?aL ?_;(case aP=>exact rfl);(case aF=>exact(fun b hb=>Nat.le_trans hs4 hb));(case aO=>exact HR4.out);(case aB=>exact Below.refl _ _);(case aS=>exact hs4);(case aL=>have:=I6.out;omega);intro vn wn hon hbn hgn fP;have uU:=aa.mk hon;have BZ:=aa.mk (kY.out.trans (hbn.mono (by omega)));have hsn:=Nat.le_trans hs4 hbn.size;clear hon hbn hgn fP)
    go_roundw
    case rel=>exact⟨k+1,by omega,by go_num,BZ,hsn,⟨by rw[QJ.out];have:=uU.out;simpa[jK] using this⟩⟩
    case measure=>simp[intOf];omega
   .rw[hcn] at hsu
    simp only[Bool.not_true,Bool.false_eq_true,if_false] at hsu
    have QJ:=aa.mk hsu
    clear hsu hab hcn
    go_wp2_with fail
    go_roundw
    case rel=>exact⟨k+1,by omega,by go_num,kY,hs4,⟨by rw[QJ.out];exact HR4.out⟩⟩
    case measure=>simp[intOf];omega
  .obtain rfl:k=nn:=by omega
   have D8:decide ((k:Int)<nw)=false:=by have:=Ua.out;simp;omega
   go_wp2_with fail
   go_ret2
   rw[HF.out]
   exact⟨⟨_,rfl,Kd.cK (Kd.jD HR.out hs2) (fun _ _=>trivial)⟩,HB2.out.trans (HB.out.mono hs2)⟩
end Go.Proofs.YtkjoilgpmngndaaGreat
namespace Go.Proofs.YtkjoilgpmngndaaGreat
open Go.RowKit Go.Shelf Go.Proofs.YtkjoilgpmngndaaGreat.av Go.Proofs.YtkjoilgpmngndaaGreatW.aA Go.Proofs.YtkjoilgpmngndaaGreatW.aJ Go.Proofs.YtkjoilgpmngndaaGreatW.dn
attribute [local go_sem] Oper.semAt_some
def ri.T4:Bool×List (List Nat×List Nat):=(true,[([],[]),([0],[0]),([1],[1]),([2],[2]),([],[]),([],[]),([3,4,5],[3,4,5]),([],[]),([7,6,6,0,1,2,3,4,5,6,7],[6,7])])
def ri.B4:List Nat:=[0,1,3,7,0,0,63,0,255]
theorem ri.Lv:eu .any (opsOf Tryz.f50 4)=ri.T4:=by kernel_rfl
theorem ri.Bi:bO ri.T4.2 ri.B4=true:=by kernel_rfl
def okB(old:List Int)(ss:List bH)(js:List bS)(lo hi:Int)(l:Nat->Int)(d:Nat):Bool:=
 decide (lo<=(mM old ss l (d:Int)).1)&&(decide ((mM old ss l (d:Int)).2<=hi)&&qf (jn js) (di l (d:Int) ss.length))
def iU(old:List Int)(nw:Int)(ss:List bH)(js:List bS)(lo hi:Int)(l:Nat->Int):Bool:=(List.range nw.toNat).all (okB old ss js lo hi l)
set_option maxRecDepth 100000 in
set_option maxHeartbeats 40000000 in
theorem Ju{A0:Option Addr}{c0:Nat}{old:List Int}{nw:Int}{A2:Option Addr}{c2:Nat}{ss:List bH}{A3:Option Addr}{c3:Nat}{js:List bS}{w:World}{gw mb:Nat}(hw:Xl w gw mb A0 c0 old nw A2 c2 ss A3 c3 js)(h:uX w A0 c0 old A2 c2 ss A3 c3 js)(hss:ss.length<=8)(hst:∀s ∈ ss,iP old.length nw s)(hol:∀n ∈ old,0<=n/\n<=10000)(IW:old.length<=4)(hn1:1<=nw)(Kl:nw<=4)(l:Nat->Int)(lo hi:Int):
  Calls Tryz.prog 50 #[.pointer (some ⟨gw,0,none⟩),sS l,.agg #[.int .i64 lo,.int .i64 hi]] w fun e w'=>e= .returned (.bool (iU old nw ss js lo hi l))/\Below w.heap.size w w':=by
 have HW:=aa.mk hw
 have H:=aa.mk h
 have HST:=aa.mk hst
 have NM:=aa.mk hol
 have YD:=aa.mk (show iU old nw ss js lo hi l=(List.range nw.toNat).all (okB old ss js lo hi l) from rfl)
 obtain⟨nn,hnn⟩:∃n:Nat,nw.toNat=n:=⟨_,rfl⟩
 have Ua:=aa.mk (show nw=(nn:Int) by omega)
 rw[hnn] at YD
 have hgw:=hw.blk.lt
 have ZT:nn<=4:=by omega
 clear hw h hst hol hn1 Kl hnn
 unfold sS
 go_enter Tryz.func50,Tryz.ntmps50
 have hc1:=HW.out.blk.cell 1
 simp only[List.getElem?_cons_zero,List.getElem?_cons_succ] at hc1
 go_wp2_with fail
 clear hc1
 have HB0:=aa.mk (ae (ae (Below.refl w.heap.size w) (.cells #[.int .i64 (l 0),.int .i64 (l 1),.int .i64 (l 2),.int .i64 (l 3),.int .i64 (l 4),.int .i64 (l 5),.int .i64 (l 6),.int .i64 (l 7)] 121)) (.cells #[.int .i64 lo,.int .i64 hi] 52))
 have Dv:=aa.mk (show aR ((w.alloc (.cells #[.int .i64 (l 0),.int .i64 (l 1),.int .i64 (l 2),.int .i64 (l 3),.int .i64 (l 4),.int .i64 (l 5),.int .i64 (l 6),.int .i64 (l 7)] 121)).alloc (.cells #[.int .i64 lo,.int .i64 hi] 52)) w.heap.size (bJ l) 121 from(aR.new w (bJ l) 121).alloc (.cells #[.int .i64 lo,.int .i64 hi] 52))
 have NZ:=aa.mk (show aR ((w.alloc (.cells #[.int .i64 (l 0),.int .i64 (l 1),.int .i64 (l 2),.int .i64 (l 3),.int .i64 (l 4),.int .i64 (l 5),.int .i64 (l 6),.int .i64 (l 7)] 121)).alloc (.cells #[.int .i64 lo,.int .i64 hi] 52)) (w.heap.size+1) [.int .i64 lo,.int .i64 hi] 52 by have hB:=aR.new (w.alloc (.cells #[.int .i64 (l 0),.int .i64 (l 1),.int .i64 (l 2),.int .i64 (l 3),.int .i64 (l 4),.int .i64 (l 5),.int .i64 (l 6),.int .i64 (l 7)] 121)) [.int .i64 lo,.int .i64 hi] 52;simp only[World.size_alloc] at hB;exact hB)
 generalize(w.alloc (.cells #[.int .i64 (l 0),.int .i64 (l 1),.int .i64 (l 2),.int .i64 (l 3),.int .i64 (l 4),.int .i64 (l 5),.int .i64 (l 6),.int .i64 (l 7)] 121)).alloc (.cells #[.int .i64 lo,.int .i64 hi] 52)=w1 at HB0 Dv NZ ⊢
 go_loopw [14] (fun v wr=>∃k:Nat,k<=nn/\v= .int .i64 k/\aa (Below w.heap.size w wr)/\aa (aR wr w.heap.size (bJ l) 121)/\aa (aR wr (w.heap.size+1) [.int .i64 lo,.int .i64 hi] 52)/\aa (∀j:Nat,j<k->okB old ss js lo hi l j=true)) (fun v _=>nn-(intOf v).toNat)
 case atStart=>exact⟨0,Nat.zero_le _,rfl,HB0,Dv,NZ,⟨fun j hj=>absurd hj (Nat.not_lt_zero _)⟩⟩
 case round=>
  clear HB0 Dv NZ
  obtain⟨k,hk,rfl,HB,B4,B5,HJ⟩:=hrel
  by_cases hkl:k<nn
  .have D8:decide ((k:Int)<nw)=true:=by have:=Ua.out;simp;omega
   have BW:=aa.mk (HW.out.blk.below HB.out)
   obtain⟨pp,Vt⟩:∃p,mM old ss l (k:Int)=p:=⟨_,rfl⟩
   have IC:=aa.mk (show okB old ss js lo hi l k=(decide (lo<=(mM old ss l (k:Int)).1)&&(decide ((mM old ss l (k:Int)).2<=hi)&&qf (jn js) (di l (k:Int) ss.length))) from rfl)
   rw[Vt] at IC
   have HPP:=aa.mk Vt
   obtain⟨p0,p1⟩:=pp
   simp only at IC
   clear Vt
   go_wp2_with fail
   refine gz (n:=9) (S:=fun w'=>w'.cell? ⟨gw,0,none⟩=some (.slice A0 old.length c0)/\w'.cell? ⟨gw,1,none⟩=some (.int .i64 nw)/\w'.cell? ⟨gw,2,none⟩=some (.slice A2 ss.length c2)/\w'.cell? ⟨gw,3,none⟩=some (.slice A3 js.length c3)/\w'.cell? ⟨w.heap.size,0,none⟩=some (.int .i64 (l 0))/\w'.cell? ⟨w.heap.size,1,none⟩=some (.int .i64 (l 1))/\w'.cell? ⟨w.heap.size,2,none⟩=some (.int .i64 (l 2))/\w'.cell? ⟨w.heap.size,3,none⟩=some (.int .i64 (l 3))/\w'.cell? ⟨w.heap.size,4,none⟩=some (.int .i64 (l 4))/\w'.cell? ⟨w.heap.size,5,none⟩=some (.int .i64 (l 5))/\w'.cell? ⟨w.heap.size,6,none⟩=some (.int .i64 (l 6))/\w'.cell? ⟨w.heap.size,7,none⟩=some (.int .i64 (l 7))) (ds:=[8]) #[O,O,O,O,O,O,O,O,O] (by kernel_rfl) rfl rfl ⟨(by simpa using (BW.out).cell 0),(by simpa using (BW.out).cell 1),(by simpa using (BW.out).cell 2),(by simpa using (BW.out).cell 3),(by simpa[bJ] using (B4.out).cell 0),(by simpa[bJ] using (B4.out).cell 1),(by simpa[bJ] using (B4.out).cell 2),(by simpa[bJ] using (B4.out).cell 3),(by simpa[bJ] using (B4.out).cell 4),(by simpa[bJ] using (B4.out).cell 5),(by simpa[bJ] using (B4.out).cell 6),(by simpa[bJ] using (B4.out).cell 7)⟩ (fun hHeld=>?_);refine bK ri.Lv ri.Bi (fun aC bW=>?_)
   have Cb:=aa.mk (BW.out.move rfl:aR wr.drew _ _ _)
   have ry:=aa.mk (B4.out.move rfl:aR wr.drew _ _ _)
   have IP:=aa.mk (B5.out.move rfl:aR wr.drew _ _ _)
   have qV:=aa.mk (bG HB.out)
   clear BW B4 B5 HB
   generalize wr.drew=wd at Cb ry IP qV hHeld ⊢
   refine bI 0 17 #[I,O,O,O,O,O,O,O,O] aC (h:=?_)
   refine bI 1 18 #[I,I,O,O,O,O,O,O,O] aC (h:=?_)
   refine bI 2 19 #[I,I,I,O,O,O,O,O,O] aC (h:=?_)
   refine eP 3 20 #[I,I,I,I,O,O,O,O,O] aC bW hHeld (hy:=by(rintro w' ⟨s0,s1,s2,s3,s4,s5,s6,s7,s8,s9,s10,s11⟩;go_simp;with_reducible rfl)) (h:=?_)
   refine eP 4 21 #[I,I,I,I,I,O,O,O,O] aC bW hHeld (hy:=by(rintro w' ⟨s0,s1,s2,s3,s4,s5,s6,s7,s8,s9,s10,s11⟩;go_simp;with_reducible rfl)) (h:=?_)
   refine bI 5 22 #[I,I,I,I,I,I,O,O,O] aC (h:=?_)
   refine nX (σ:=Nat) 1 #[I,I,I,I,I,I,I,I,O] (fun x=>[(23,.agg #[.int .i64 p0,.int .i64 p1]),(8,.pointer (some ⟨x,0,none⟩))]) (fun x w'=>aR w' x [.int .i64 0,.int .i64 0] 52/\wd.heap.size<=x/\Below wd.heap.size wd w') ?cont ?orders
   case orders=>
    intro hcont
    refine zQ (i:=6) (j:=7) (Ni:=some 23) (Nj:=some 8) #[I,I,I,I,I,I,I,O,O] #[I,I,I,I,I,I,O,I,O] rfl rfl rfl rfl (nN aC.out (by kernel_rfl)) (by decide) (by decide) (fun K hK=>?_) (fun K hK=>?_)
    .refine fD Tryz.func43 (by kernel_rfl) rfl #[.agg #[.slice A0 old.length c0,.int .i64 nw,.slice A2 ss.length c2,.slice A3 js.length c3],.agg #[.int .i64 (l 0),.int .i64 (l 1),.int .i64 (l 2),.int .i64 (l 3),.int .i64 (l 4),.int .i64 (l 5),.int .i64 (l 6),.int .i64 (l 7)],.int .i64 (k:Int)] (by rfl) rfl rfl (by(try simp only[List.map_toArray,List.map_cons,List.map_nil]);rfl) ?_
     refine(uj (H.out.below qV.out) hss HST.out NM.out IW l (k:Int)).mono ?_
     rintro e_ wc ⟨rfl,hbx⟩
     rw[HPP.out]
     refine⟨_,rfl,hK.out _ _ ⟨(by simpa using (Cb.out.below hbx).cell 0),(by simpa using (Cb.out.below hbx).cell 1),(by simpa using (Cb.out.below hbx).cell 2),(by simpa using (Cb.out.below hbx).cell 3),(by simpa[bJ] using (ry.out.below hbx).cell 0),(by simpa[bJ] using (ry.out.below hbx).cell 1),(by simpa[bJ] using (ry.out.below hbx).cell 2),(by simpa[bJ] using (ry.out.below hbx).cell 3),(by simpa[bJ] using (ry.out.below hbx).cell 4),(by simpa[bJ] using (ry.out.below hbx).cell 5),(by simpa[bJ] using (ry.out.below hbx).cell 6),(by simpa[bJ] using (ry.out.below hbx).cell 7)⟩ (fun qK=>?_)⟩
     clear hK K
     refine bF (by simp only[Act.put,List.setIfInBounds_toArray,List.set_cons_zero,List.set_cons_succ];rfl) ?_
     refine iC (i:=7) (N:=some 8) #[I,I,I,I,I,I,I,I,O] rfl rfl (aN aC.out (by kernel_rfl)) (by decide) (fun K hK=>?_)
     refine dV (w1:=?_) (v:=?_) (by rfl) rfl ?_ ?_
     rotate_left 2
     .go_simp
      constructor<;>rfl
     refine hK.out _ _ ⟨(by simpa using ((Cb.out.below hbx).alloc (.cells #[.int .i64 0,.int .i64 0] 52)).cell 0),(by simpa using ((Cb.out.below hbx).alloc (.cells #[.int .i64 0,.int .i64 0] 52)).cell 1),(by simpa using ((Cb.out.below hbx).alloc (.cells #[.int .i64 0,.int .i64 0] 52)).cell 2),(by simpa using ((Cb.out.below hbx).alloc (.cells #[.int .i64 0,.int .i64 0] 52)).cell 3),(by simpa[bJ] using ((ry.out.below hbx).alloc (.cells #[.int .i64 0,.int .i64 0] 52)).cell 0),(by simpa[bJ] using ((ry.out.below hbx).alloc (.cells #[.int .i64 0,.int .i64 0] 52)).cell 1),(by simpa[bJ] using ((ry.out.below hbx).alloc (.cells #[.int .i64 0,.int .i64 0] 52)).cell 2),(by simpa[bJ] using ((ry.out.below hbx).alloc (.cells #[.int .i64 0,.int .i64 0] 52)).cell 3),(by simpa[bJ] using ((ry.out.below hbx).alloc (.cells #[.int .i64 0,.int .i64 0] 52)).cell 4),(by simpa[bJ] using ((ry.out.below hbx).alloc (.cells #[.int .i64 0,.int .i64 0] 52)).cell 5),(by simpa[bJ] using ((ry.out.below hbx).alloc (.cells #[.int .i64 0,.int .i64 0] 52)).cell 6),(by simpa[bJ] using ((ry.out.below hbx).alloc (.cells #[.int .i64 0,.int .i64 0] 52)).cell 7)⟩ (fun _=>?_)
     clear hK K
     have hfin:=hcont wc.heap.size (wc.alloc (.cells #[.int .i64 0,.int .i64 0] 52)) ⟨aR.new wc [.int .i64 0,.int .i64 0] 52,hbx.size,ae hbx _⟩
     refine bF ?_ hfin
     simp only[cB,Act.put,List.setIfInBounds_toArray,List.set_cons_zero,List.set_cons_succ]
    .refine dV (w1:=?_) (v:=?_) (by rfl) rfl ?_ ?_
     rotate_left 2
     .go_simp
      constructor<;>rfl
     refine hK.out _ _ ⟨(by simpa using (Cb.out.alloc (.cells #[.int .i64 0,.int .i64 0] 52)).cell 0),(by simpa using (Cb.out.alloc (.cells #[.int .i64 0,.int .i64 0] 52)).cell 1),(by simpa using (Cb.out.alloc (.cells #[.int .i64 0,.int .i64 0] 52)).cell 2),(by simpa using (Cb.out.alloc (.cells #[.int .i64 0,.int .i64 0] 52)).cell 3),(by simpa[bJ] using (ry.out.alloc (.cells #[.int .i64 0,.int .i64 0] 52)).cell 0),(by simpa[bJ] using (ry.out.alloc (.cells #[.int .i64 0,.int .i64 0] 52)).cell 1),(by simpa[bJ] using (ry.out.alloc (.cells #[.int .i64 0,.int .i64 0] 52)).cell 2),(by simpa[bJ] using (ry.out.alloc (.cells #[.int .i64 0,.int .i64 0] 52)).cell 3),(by simpa[bJ] using (ry.out.alloc (.cells #[.int .i64 0,.int .i64 0] 52)).cell 4),(by simpa[bJ] using (ry.out.alloc (.cells #[.int .i64 0,.int .i64 0] 52)).cell 5),(by simpa[bJ] using (ry.out.alloc (.cells #[.int .i64 0,.int .i64 0] 52)).cell 6),(by simpa[bJ] using (ry.out.alloc (.cells #[.int .i64 0,.int .i64 0] 52)).cell 7)⟩ (fun qK=>?_)
     clear hK K
     have BL:=aa.mk (aR.new wd [.int .i64 0,.int .i64 0] 52)
     have hBa:=ae (Below.refl wd.heap.size wd) (.cells #[.int .i64 0,.int .i64 0] 52)
     have BWa:=aa.mk (Cb.out.alloc (.cells #[.int .i64 0,.int .i64 0] 52))
     have XF:=aa.mk (ry.out.alloc (.cells #[.int .i64 0,.int .i64 0] 52))
     refine bF (by simp only[Act.put,List.setIfInBounds_toArray,List.set_cons_zero,List.set_cons_succ];rfl) ?_
     generalize wd.alloc (.cells #[.int .i64 0,.int .i64 0] 52)=wa at BL hBa BWa XF qK ⊢
     refine iC (i:=6) (N:=some 23) #[I,I,I,I,I,I,I,I,O] rfl rfl (aN aC.out (by kernel_rfl)) (by decide) (fun K hK=>?_)
     refine fD Tryz.func43 (by kernel_rfl) rfl #[.agg #[.slice A0 old.length c0,.int .i64 nw,.slice A2 ss.length c2,.slice A3 js.length c3],.agg #[.int .i64 (l 0),.int .i64 (l 1),.int .i64 (l 2),.int .i64 (l 3),.int .i64 (l 4),.int .i64 (l 5),.int .i64 (l 6),.int .i64 (l 7)],.int .i64 (k:Int)] (by rfl) rfl rfl (by(try simp only[List.map_toArray,List.map_cons,List.map_nil]);rfl) ?_
     refine(uj (H.out.below (qV.out.trans (hBa.mono qV.out.size))) hss HST.out NM.out IW l (k:Int)).mono ?_
     rintro e_ wc ⟨rfl,hbx⟩
     rw[HPP.out]
     refine⟨_,rfl,hK.out _ _ ⟨(by simpa using (BWa.out.below hbx).cell 0),(by simpa using (BWa.out.below hbx).cell 1),(by simpa using (BWa.out.below hbx).cell 2),(by simpa using (BWa.out.below hbx).cell 3),(by simpa[bJ] using (XF.out.below hbx).cell 0),(by simpa[bJ] using (XF.out.below hbx).cell 1),(by simpa[bJ] using (XF.out.below hbx).cell 2),(by simpa[bJ] using (XF.out.below hbx).cell 3),(by simpa[bJ] using (XF.out.below hbx).cell 4),(by simpa[bJ] using (XF.out.below hbx).cell 5),(by simpa[bJ] using (XF.out.below hbx).cell 6),(by simpa[bJ] using (XF.out.below hbx).cell 7)⟩ (fun _=>?_)⟩
     clear hK K
     have hfin:=hcont wd.heap.size wc ⟨BL.out.below hbx,Nat.le_refl _,hBa.trans (hbx.mono hBa.size)⟩
     refine bF ?_ hfin
     simp only[cB,Act.put,List.setIfInBounds_toArray,List.set_cons_zero,List.set_cons_succ]
   case cont=>
    rintro g8 w6 ⟨hBL,hg8,UB⟩
    refine bF (by simp only[cB,Act.put,List.setIfInBounds_toArray,List.set_cons_zero,List.set_cons_succ];rfl) ?_
    have B8:=aa.mk hBL
    have BW6:=aa.mk (Cb.out.below UB)
    have YX:=aa.mk (ry.out.below UB)
    have B56:=aa.mk (IP.out.below UB)
    have IG:=aa.mk (qV.out.trans (UB.mono qV.out.size))
    have h5l:=IP.out.lt
    have hws:=qV.out.size
    have hgl:=Cb.out.lt
    clear hBL UB Cb ry IP qV hHeld
    refine dW (i:=8) (N:=none) #[I,I,I,I,I,I,I,I,I] rfl rfl (aN aC.out (by kernel_rfl)) (by decide) (fun K hK=>?_)
    have eB:=(show w6.cell? ⟨g8,0,none⟩=some (.int .i64 0) by simpa using B8.out.cell 0)
    have gP:=B8.out.frozen 0
    have rH:w6.cell? ⟨g8,1,none⟩=some (.int .i64 0):=by simpa using B8.out.cell 1
    have rM:w6.frozen? ⟨g8,1,none⟩=false:=B8.out.frozen 1
    refine ib (w1:=?_) (by rfl) rfl ?_ ?_
    rotate_left
    .go_simp
     rfl
    refine hK.out _ _ ?_
    clear hK K eB gP rH rM
    have B8f:=aa.mk (B8.out.set2 (.int .i64 p0) (.int .i64 p1))
    have afI:=aa.mk (gF (gF BW6.out (p:=⟨g8,0,none⟩) (by simp only;omega) (.int .i64 p0)) (p:=⟨g8,1,none⟩) (by simp only;omega) (.int .i64 p1))
    have BJ:=aa.mk (gF (gF YX.out (p:=⟨g8,0,none⟩) (by simp only;omega) (.int .i64 p0)) (p:=⟨g8,1,none⟩) (by simp only;omega) (.int .i64 p1))
    have Uo:=aa.mk (gF (gF B56.out (p:=⟨g8,0,none⟩) (by simp only;omega) (.int .i64 p0)) (p:=⟨g8,1,none⟩) (by simp only;omega) (.int .i64 p1))
    have xM:=aa.mk ((IG.out.setCell (p:=⟨g8,0,none⟩) (by simp only;omega) (.int .i64 p0)).setCell (p:=⟨g8,1,none⟩) (by simp only;omega) (.int .i64 p1))
    clear B8 BW6 YX B56 IG
    generalize(w6.setCell ⟨g8,0,none⟩ (.int .i64 p0)).setCell ⟨g8,1,none⟩ (.int .i64 p1)=wf at B8f afI BJ Uo xM ⊢
    refine fF (bQ aC.out (by kernel_rfl)) ?_
    have h80:=B8f.out.cell 0
    have h81:=B8f.out.cell 1
    have h50:=Uo.out.cell 0
    have Di:=Uo.out.cell 1
    simp only[List.getElem?_cons_zero,List.getElem?_cons_succ] at h80 h81 h50 Di
    have hno:okB old ss js lo hi l k=false->iU old nw ss js lo hi l=false:=fun hf=>by
     rw[YD.out,Bool.eq_false_iff]
     intro hall
     have:=List.all_eq_true.1 hall k (List.mem_range.2 hkl)
     rw[hf] at this
     cases this
    have NN:=aa.mk hno
    clear hno
    by_cases a1:p0<lo
    .have b1:decide (p0<lo)=true:=by simpa using a1
     have e1:okB old ss js lo hi l k=false:=by
      rw[IC.out,show decide (lo<=p0)=false by simp;omega]
      rfl
     have HE:=aa.mk (NN.out e1)
     clear e1 a1
     go_wp2_with fail
     go_ret
     rw[HE.out]
     exact⟨rfl,xM.out⟩
    have b1:decide (p0<lo)=false:=by simpa using a1
    by_cases a2:hi<p1
    .have b2:decide (hi<p1)=true:=by simpa using a2
     have e1:okB old ss js lo hi l k=false:=by
      rw[IC.out,show decide (p1<=hi)=false by simp;omega]
      simp
     have HE:=aa.mk (NN.out e1)
     clear e1 a1 a2
     go_wp2_with fail
     go_ret
     rw[HE.out]
     exact⟨rfl,xM.out⟩
    have b2:decide (hi<p1)=false:=by simpa using a2
    have e3:okB old ss js lo hi l k=qf (jn js) (di l (k:Int) ss.length):=by
     rw[IC.out,show decide (lo<=p0)=true by simp;omega,show decide (p1<=hi)=true by simp;omega]
     rfl
    have HE:=aa.mk e3
    clear a1 a2 e3
    have c0_:=BJ.out.cell 0
    have c1_:=BJ.out.cell 1
    have c2_:=BJ.out.cell 2
    have c3_:=BJ.out.cell 3
    have c4_:=BJ.out.cell 4
    have c5_:=BJ.out.cell 5
    have c6_:=BJ.out.cell 6
    have c7_:=BJ.out.cell 7
    simp only[bJ,List.getElem?_cons_zero,List.getElem?_cons_succ] at c0_ c1_ c2_ c3_ c4_ c5_ c6_ c7_
    go_wp2_with fail
    clear c0_ c1_ c2_ c3_ c4_ c5_ c6_ c7_ h80 h81 h50 Di
    refine(qZ (HW.out.below xM.out) hss l (k:Int)).mono ?_
    rintro e w7 ⟨rfl,WL⟩
    have xD:=aa.mk (xM.out.trans (WL.mono xM.out.size))
    have B47:=aa.mk (BJ.out.below WL)
    have B57:=aa.mk (Uo.out.below WL)
    clear WL BJ Uo xM afI B8f
    cases hcn:qf (jn js) (di l (k:Int) ss.length)
    .have HE2:=aa.mk (NN.out (by rw[HE.out,hcn]))
     clear hcn
     go_wp2_with fail
     go_ret
     rw[HE2.out]
     exact⟨rfl,xD.out⟩
    .have HE2:=aa.mk (show okB old ss js lo hi l k=true by rw[HE.out,hcn])
     clear hcn
     go_wp2_with fail
     go_roundw
     case rel=>exact⟨k+1,by omega,by go_num,xD,B47,B57,⟨fun j hj=>if e:j=k then(by rw[e];exact HE2.out) else HJ.out j (by omega)⟩⟩
     case measure=>simp[intOf];omega
  .obtain rfl:k=nn:=by omega
   have D8:decide ((k:Int)<nw)=false:=by have:=Ua.out;simp;omega
   go_wp2_with fail
   go_ret
   rw[YD.out]
   refine⟨bP ?_,HB.out⟩
   exact(List.all_eq_true.2 (fun j hj=>HJ.out j (List.mem_range.1 hj))).symm
end Go.Proofs.YtkjoilgpmngndaaGreat
namespace Go.Proofs.YtkjoilgpmngndaaGreat
open Go.RowKit Go.Shelf Go.Proofs.YtkjoilgpmngndaaGreat.av Go.Proofs.YtkjoilgpmngndaaGreatW.aA Go.Proofs.YtkjoilgpmngndaaGreatW.aJ
def jM(old:List Int)(nw:Int)(ss:List bH)(js:List bS)(lo hi:Int):Int:=
 if gU old nw ss js=0 then(if gW lo hi 40000=true then gY old nw ss js else 2) else gU old nw ss js
set_option maxRecDepth 100000 in
set_option maxHeartbeats 40000000 in
theorem KJ{A0:Option Addr}{c0:Nat}{old:List Int}{nw:Int}{A2:Option Addr}{c2:Nat}{ss:List bH}{A3:Option Addr}{c3:Nat}{js:List bS}{w:World}(h:uX w A0 c0 old A2 c2 ss A3 c3 js)(lo hi:Int):
  Calls Tryz.prog 48 #[.agg #[.slice A0 old.length c0,.int .i64 nw,.slice A2 ss.length c2,.slice A3 js.length c3],.agg #[.int .i64 lo,.int .i64 hi]] w fun e w'=>∃v,e= .returned (.tuple #[v,.int .i64 (jM old nw ss js lo hi)])/\(jM old nw ss js lo hi=0->∃gw mb,v= .pointer (some ⟨gw,0,none⟩)/\w.heap.size<=gw/\w.heap.size<=mb/\Xl w' gw mb A0 c0 old nw A2 c2 ss A3 c3 js)/\(jM old nw ss js lo hi≠0->v= .pointer none)/\Below w.heap.size w w':=by
 have H:=aa.mk h
 clear h
 go_enter Tryz.func48,Tryz.ntmps48
 go_wp2_with fail
 have HB0:=aa.mk (ae (ae (Below.refl w.heap.size w) (.cells #[.slice A0 old.length c0,.int .i64 nw,.slice A2 ss.length c2,.slice A3 js.length c3] 43)) (.cells #[.int .i64 lo,.int .i64 hi] 52))
 have zI:=aa.mk (show aR ((w.alloc (.cells #[.slice A0 old.length c0,.int .i64 nw,.slice A2 ss.length c2,.slice A3 js.length c3] 43)).alloc (.cells #[.int .i64 lo,.int .i64 hi] 52)) w.heap.size [.slice A0 old.length c0,.int .i64 nw,.slice A2 ss.length c2,.slice A3 js.length c3] 43 from(aR.new w [.slice A0 old.length c0,.int .i64 nw,.slice A2 ss.length c2,.slice A3 js.length c3] 43).alloc (.cells #[.int .i64 lo,.int .i64 hi] 52))
 have IQ:=aa.mk (show aR ((w.alloc (.cells #[.slice A0 old.length c0,.int .i64 nw,.slice A2 ss.length c2,.slice A3 js.length c3] 43)).alloc (.cells #[.int .i64 lo,.int .i64 hi] 52)) (w.heap.size+1) [.int .i64 lo,.int .i64 hi] 52 by have hB:=aR.new (w.alloc (.cells #[.slice A0 old.length c0,.int .i64 nw,.slice A2 ss.length c2,.slice A3 js.length c3] 43)) [.int .i64 lo,.int .i64 hi] 52;simp only[World.size_alloc] at hB;exact hB)
 generalize(w.alloc (.cells #[.slice A0 old.length c0,.int .i64 nw,.slice A2 ss.length c2,.slice A3 js.length c3] 43)).alloc (.cells #[.int .i64 lo,.int .i64 hi] 52)=w0 at HB0 zI IQ ⊢
 refine(iH (H.out.below HB0.out)).mono ?_
 rintro e w1 ⟨rfl,hb1⟩
 have xK:=aa.mk (zI.out.below hb1)
 have xJ:=aa.mk (IQ.out.below hb1)
 have HB1:=aa.mk (HB0.out.trans (hb1.mono HB0.out.size))
 clear hb1 HB0 zI IQ
 by_cases hc:gU old nw ss js=0
 rotate_left
 .have hcb:(gU old nw ss js !=0)=true:=by simp[hc]
  have HA:=aa.mk (show jM old nw ss js lo hi=gU old nw ss js by unfold jM;rw[if_neg hc])
  go_wp2_with fail
  go_ret2
  rw[HA.out]
  exact⟨_,rfl,fun e=>absurd e hc,fun _=>rfl,HB1.out⟩
 obtain⟨ho0,IW,hs0,Dh,hj,hol,hn1,Kl,hst,Si,hjo⟩:=kI hc
 have HA:=aa.mk (show jM old nw ss js lo hi=if gW lo hi 40000=true then gY old nw ss js else 2 by unfold jM;rw[if_pos hc])
 have HJO:=aa.mk hjo
 rw[hc]
 clear hc hol hst Si hjo
 have kQ:=xJ.out.cell 0
 have h31:=xJ.out.cell 1
 simp only[List.getElem?_cons_zero,List.getElem?_cons_succ] at kQ h31
 go_wp2_with fail
 clear kQ h31
 refine(nG lo hi 40000 w1).mono ?_
 rintro e w2 ⟨rfl,hb2⟩
 have I9:=aa.mk (xK.out.below hb2)
 have HB2:=aa.mk (HB1.out.trans (hb2.mono HB1.out.size))
 clear hb2 HB1 xK xJ
 cases hin:gW lo hi 40000
 .rw[hin,if_neg (by simp)] at HA
  go_wp2_with fail
  go_ret2
  rw[HA.out]
  exact⟨_,rfl,fun e=>absurd e (by decide),fun _=>rfl,HB2.out⟩
 rw[hin,if_pos rfl] at HA
 have h20:=I9.out.cell 0
 have h21:=I9.out.cell 1
 have h22:=I9.out.cell 2
 have h23:=I9.out.cell 3
 simp only[List.getElem?_cons_zero,List.getElem?_cons_succ] at h20 h21 h22 h23
 go_wp2_with fail
 clear h20 h21 h22 h23
 refine(mh (H.out.below HB2.out)).mono ?_
 rintro e w3 ⟨rfl,hb3⟩
 have Q9:=aa.mk (I9.out.below hb3)
 have HB3:=aa.mk (HB2.out.trans (hb3.mono HB2.out.size))
 clear hb3 HB2 I9
 by_cases hc:gY old nw ss js=0
 rotate_left
 .have hcb:(gY old nw ss js !=0)=true:=by simp[hc]
  go_wp2_with fail
  go_ret2
  rw[HA.out]
  exact⟨_,rfl,fun e=>absurd e hc,fun _=>rfl,HB3.out⟩
 rw[hc] at HA ⊢
 clear hc
 have h20:=Q9.out.cell 0
 have h21:=Q9.out.cell 1
 have h22:=Q9.out.cell 2
 have h23:=Q9.out.cell 3
 simp only[List.getElem?_cons_zero,List.getElem?_cons_succ] at h20 h21 h22 h23
 go_wp2_with fail
 clear h20 h21 h22 h23
 refine(zN (H.out.below HB3.out) Dh hj HJO.out).mono ?_
 rintro e w4 ⟨rfl,hw4,hb4⟩
 have HW4:=aa.mk hw4
 have kY:=aa.mk (HB3.out.trans (hb4.mono HB3.out.size))
 have hs3:=HB3.out.size
 clear hw4 hb4
 go_wp2_with fail
 go_ret2
 rw[HA.out]
 exact⟨_,rfl,fun _=>⟨_,_,rfl,by omega,by omega,HW4.out⟩,fun h=>absurd rfl h,kY.out⟩
end Go.Proofs.YtkjoilgpmngndaaGreat
