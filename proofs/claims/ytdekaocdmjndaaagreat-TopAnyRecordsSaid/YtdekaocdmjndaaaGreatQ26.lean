import Derived.Test.YtdekaocdmjndaaaGreatQ16
import Derived.Test.YtdekaocdmjndaaaGreatQ25
set_option maxHeartbeats 40000000
set_option maxRecDepth 100000
set_option linter.all false
namespace Go.Proofs.YtdekaocdmjndaaaGreat
open Go.RowKit Go.Shelf ah YtdekaocdmjndaaaGreatW.aj YtdekaocdmjndaaaGreatW.aH YtdekaocdmjndaaaGreatW.eu
def cy.T4:Bool×List (List Nat×List Nat):=(true,[([],[]),([0],[0]),([],[]),([2,1],[2]),([1,3,0,1],[1]),([3,4,0,1,2,3,4],[3]),([5,0,1,2,3,4,5],[])])
def cy.B4:List Nat:=[0,1,0,7,15,31,63]
theorem cy.MC:eB .any (opsOf Tryz.f56 4)=cy.T4:=by kernel_rfl
theorem cy.Fj:bI cy.T4.2 cy.B4=true:=by kernel_rfl
def qI(ss:List eY)(nn:Nat)(L:List Int):Nat->List Int
 |0=>List.replicate nn 0
 |k+1=>(qI ss nn L k).set (aR ss k).f1.toNat ((qI ss nn L k).getD (aR ss k).f1.toNat 0+L.getD k 0)
def Ju(ss:List eY)(nn:Nat)(L:List Int):Prop:=∀k,k<ss.length->0<=(qI ss nn L k).getD (aR ss k).f1.toNat 0+L.getD k 0/\(qI ss nn L k).getD (aR ss k).f1.toNat 0+L.getD k 0<1000000
theorem Cs{A0:Option Addr}{c0:Nat}{old:List Int}{nw:Int}{A2:Option Addr}{c2:Nat}{ss:List eY}{A3:Option Addr}{c3:Nat}{js:List jU}{w:World}(h:RS w A0 c0 old A2 c2 ss A3 c3 js)(hss:ss.length<=8)(hs0:0<ss.length)(Yq:old.length<=4)(hst:∀s ∈ ss,wF old.length nw s)(P:Nat->Int×Int)(hP:Jt old ss P)(nn:Nat)(hnn:nw=(nn:Int))(hn0:0<nn)(hn4:nn<=4)(hsum:Ju ss nn (jB ss P old.length)):
  Calls Tryz.prog 133 #[.agg #[.slice A0 old.length c0,.int .i64 nw,.slice A2 ss.length c2,.slice A3 js.length c3]] w λe w'=>(∃v,e= .returned v/\(Kd.int .i64).R 3 w' w.heap.size (λ_=>True) v (qI ss nn (jB ss P old.length) ss.length))/\Below w.heap.size w w':=by
 subst hnn
 have H:=aa.mk h
 have HP:=aa.mk hP
 have HST:=aa.mk hst
 have RU:=aa.mk hsum
 have HLL:=aa.mk (xu ss P old.length)
 obtain⟨L,hL⟩:∃L,jB ss P old.length=L:=⟨_,rfl⟩
 rw[hL] at RU HLL ⊢
 have HL:=aa.mk hL
 clear h hP hst hsum hL
 go_enter Tryz.func133,Tryz.ntmps133
 have HB0:=aa.mk (ae (Below.refl w.heap.size w) (.cells #[.slice A0 old.length c0,.int .i64 (nn:Int),.slice A2 ss.length c2,.slice A3 js.length c3] 146))
 have B10:=aa.mk (aV.new w [.slice A0 old.length c0,.int .i64 (nn:Int),.slice A2 ss.length c2,.slice A3 js.length c3] 146)
 have hsz0:w.heap.size<(w.alloc (.cells #[.slice A0 old.length c0,.int .i64 (nn:Int),.slice A2 ss.length c2,.slice A3 js.length c3] 146)).heap.size:=by simp
 go_wp2_with ((with_reducible refine dM (N:=8) rfl ?_);refine Kd.Ik (Kd.int .i64) (w0:=w) w.heap.size 3 rfl rfl 30 (.tmp 7) (.tmp 7) rfl (nn:Int) rfl rfl Tryz.underlying30 (.int .i64 0) 8 info3 rfl (by decide) (by decide) (0:Int) (ok:=λ_=>True) (okp:=λ_=>False) rfl (λ_ h=>h.elim) trivial (by omega) (by simp only[Int.toNat_natCast];omega) HB0.out (by omega) ?_;intro vo w1 hon hbn hgn iP;simp only[Int.toNat_natCast] at hon;have DD:=aa.mk hon;have HB1:=aa.mk hbn;have B11:=aa.mk (B10.out.move (hgn.block _ (by omega) (λe=>by cases e)));have h10:=B11.out.cell 0;have h11:=B11.out.cell 1;have h12:=B11.out.cell 2;have uS:=B11.out.cell 3;simp only[dZ,dY] at h10 h11 h12 uS;obtain⟨go,co,rfl,_⟩:=oU DD.out 0 (by simp only[List.length_replicate];omega);clear hon hbn hgn iP)
 have hgo:=(Kd.bL DD.out).1 go (by simp[Value.ownBlock])
 have KU:=hgo.2.2.1
 have Yz:w.heap.size<=go:=hgo.2.1
 have akZ:go≠w.heap.size:=λe=>by
  subst e
  obtain⟨_,_,_,q,hq,cells,hk⟩:=hgo
  rw[show w1.heap[w.heap.size]?=_ from B11.out] at hk
  have hq':q=3:=by simpa[show(Kd.int IntKind.i64).E=[] from rfl] using hq
  subst hq'
  cases hk
 have HO:=aa.mk (show(Kd.int .i64).R 3 w1 w.heap.size (λk=>some k=some go) (.slice (some ⟨go,0,none⟩) nn co) (qI ss nn L 0) by
  have hx:=Kd.wG rfl DD.out
  simp only[List.length_replicate,Value.ownBlock] at hx
  exact hx)
 clear HB0 B10 hsz0 DD hgo
 refine(tZ (H.out.below HB1.out) hss hs0 Yq HST.out P HP.out).mono ?_
 rintro e w2 ⟨⟨v10,rfl,hR⟩,hb⟩
 rw[HL.out] at hR
 have hll:=HLL.out
 obtain⟨b10,c10,rfl,_⟩:=oU hR 0 (by rw[hll];exact hs0)
 have Hg:=(Kd.bL hR).1 b10 (by simp[Value.ownBlock])
 have YM:=Hg.2.1
 have SS:=Hg.2.2.1
 have HR:=aa.mk hR
 have HB2:=aa.mk (HB1.out.trans (hb.mono HB1.out.size))
 have FU:=aa.mk (B11.out.below hb)
 have LU:=aa.mk (Kd.dm HO.out hb)
 have hs2:=hb.size
 clear hR hb Hg HB1 B11 HO h10 h11 h12 uS hll
 have HR':=aa.mk (show(Kd.int .i64).R 3 w2 w1.heap.size (λ_=>True) (.slice (some ⟨b10,0,none⟩) ss.length c10) L by have:=HR.out;rw[HLL.out] at this;exact this)
 have hle:=HLL.out
 rw[hle]
 clear hle HR
 go_wp2_with fail
 go_loopw [12] (λv12 wr=>∃k:Nat,k<=ss.length/\v12= .int .i64 k/\w2.heap.size<=wr.heap.size/\aa (aY w2.heap.size (λb=>b=go) w2 wr)/\aa ((Kd.int .i64).R 3 wr w.heap.size (λk=>some k=some go) (.slice (some ⟨go,0,none⟩) nn co) (qI ss nn L k))) (λv12 _=>ss.length-(intOf v12).toNat)
 case atStart=>exact⟨0,Nat.zero_le _,rfl,Nat.le_refl _,⟨aY.refl _ _ _⟩,LU⟩
 case round=>
  clear LU
  obtain⟨k,hk,rfl,KM,HK,HO⟩:=hrel
  have h12:=(HK.out.cell (p:=⟨w.heap.size,2,none⟩) FU.out.lt (by simp only;omega)).trans (FU.out.cell 2)
  simp only[dZ,dY] at h12
  have P6:=aa.mk (show Below w.heap.size w wr from⟨HK.out.os.trans HB2.out.os,HK.out.tape.trans HB2.out.tape,HK.out.output.trans HB2.out.output,Nat.le_trans HB2.out.size HK.out.size,λk hk=>(HK.out.block k (by have:=HB2.out.size;omega) (by omega)).trans (HB2.out.block k hk)⟩)
  by_cases hkl:k<ss.length
  .have h10:=(HK.out.cell (p:=⟨b10,k,none⟩) SS (by simp only;omega)).trans (Kd.jk (0:Int) HR'.out (k:Int) (by omega) (by omega)).1
   simp only[Kb,Int.toNat_natCast] at h10
   obtain⟨ad,e,_,hq1,_⟩:=yJ (H.out.below P6.out).UY (k:Int) (by omega) (by omega)
   cases e
   simp only[Int.toNat_natCast] at hq1
   have hok:=HST.out _ (yY ss k hkl)
   have hSU:=RU.out k hkl
   have HSS:=aa.mk (show qI ss nn L (k+1)=(qI ss nn L k).set (aR ss k).f1.toNat ((qI ss nn L k).getD (aR ss k).f1.toNat 0+L.getD k 0) from rfl)
   have aeq:=hok.n0
   have hn1':=hok.n1
   rw[show iL ss (k:Int)=aR ss k from rfl] at hq1
   obtain⟨D,hD⟩:∃D:Nat,(aR ss k).f1=D:=⟨(aR ss k).f1.toNat,by omega⟩
   rw[hD] at hq1 hn1'
   rw[hD,Int.toNat_natCast] at hSU HSS
   have hDn:D<nn:=by omega
   have SY:=(Kd.jk (0:Int) HO.out (D:Int) (by omega) (by omega))
   simp only[Kb,Int.toNat_natCast] at SY
   obtain⟨Vs,YQ⟩:=SY
   obtain⟨sv,hsv⟩:∃x,(qI ss nn L k).getD D 0=x:=⟨_,rfl⟩
   obtain⟨lv,hlv⟩:∃x,L.getD k 0=x:=⟨_,rfl⟩
   rw[hsv,hlv] at hSU HSS
   rw[hsv] at Vs
   rw[hlv] at h10
   have hwr:wrap64 (sv+lv)=sv+lv:=IntWalk.wrap64_in _ (by omega)
   have TE:=aa.mk (Kd.uQ HO.out (D:Int) (sv+lv))
   simp only[Int.toNat_natCast] at TE
   have TJ:=aa.mk (HK.out.setCell (p:=⟨go,D,none⟩) (.inl rfl) (.int .i64 (sv+lv)))
   have hsn:w2.heap.size<=(wr.setCell ⟨go,D,none⟩ (.int .i64 (sv+lv))).heap.size:=by rw[size_set];exact KM
   clear hok hSU aeq hD hsv hlv
   go_wp2_with fail
   exact⟨⟨k+1,by omega,by go_num,hsn,TJ,⟨by rw[HSS.out];exact TE.out⟩⟩,by simp[intOf];omega⟩
  .obtain rfl:k=ss.length:=by omega
   go_wp2_with fail
   go_ret
   exact⟨⟨_,rfl,Kd.bM HO.out (λ_ _=>trivial)⟩,P6.out⟩
theorem FR{A0:Option Addr}{c0:Nat}{old:List Int}{nw:Int}{A2:Option Addr}{c2:Nat}{ss:List eY}{A3:Option Addr}{c3:Nat}{js:List jU}{w:World}(h:RS w A0 c0 old A2 c2 ss A3 c3 js)(hc:nW old nw ss js=0)(P:Nat->Int×Int)(hP:Jt old ss P)(hsum:Ju ss nw.toNat (jB ss P old.length)):
  Calls Tryz.prog 56 #[.agg #[.slice A0 old.length c0,.int .i64 nw,.slice A2 ss.length c2,.slice A3 js.length c3]] w λe w'=>(∃v1 v2,e= .returned (.tuple #[v1,v2,.int .i64 0])/\(Kd.int .i64).R 3 w' w.heap.size (λ_=>True) v1 (jB ss P old.length)/\(Kd.int .i64).R 3 w' w.heap.size (λ_=>True) v2 (qI ss nw.toNat (jB ss P old.length) ss.length))/\Below w.heap.size w w':=by
 obtain⟨ho0,Yq,hs0,hs8,hj,hol,hn1,hn4,hst,hwe,hjo⟩:=Rq hc
 have H:=aa.mk h
 have HP:=aa.mk hP
 have HST:=aa.mk hst
 have RU:=aa.mk hsum
 have HC:=aa.mk hc
 clear h hP hst hsum hc hol hwe hjo hj ho0
 go_enter Tryz.func56,Tryz.ntmps56
 go_wp2_with fail
 have hb0:=ae (Below.refl w.heap.size w) (.cells #[.slice A0 old.length c0,.int .i64 nw,.slice A2 ss.length c2,.slice A3 js.length c3] 146)
 have B0:=aV.new w [.slice A0 old.length c0,.int .i64 nw,.slice A2 ss.length c2,.slice A3 js.length c3] 146
 refine(nP (H.out.below hb0)).mono ?_
 rintro e w1 ⟨rfl,hb1⟩
 rw[HC.out]
 have B1:=aa.mk (B0.below hb1)
 have HB1:=aa.mk (hb0.trans (hb1.mono (by simp)))
 have h10:=B1.out.cell 0
 have h11:=B1.out.cell 1
 have h12:=B1.out.cell 2
 have uS:=B1.out.cell 3
 simp only[dZ,dY] at h10 h11 h12 uS
 clear hb0 hb1 B0
 go_wp2_with fail
 refine fF (n:=7) (S:=λw'=>w'.cell? ⟨w.heap.size,0,none⟩=some (.slice A0 old.length c0)/\w'.cell? ⟨w.heap.size,1,none⟩=some (.int .i64 nw)/\w'.cell? ⟨w.heap.size,2,none⟩=some (.slice A2 ss.length c2)/\w'.cell? ⟨w.heap.size,3,none⟩=some (.slice A3 js.length c3)) (ds:=[3]) #[O,O,O,O,O,O,O] (by kernel_rfl) rfl rfl ⟨h10,h11,h12,uS⟩ (λhHeld=>?_);refine bG cy.MC cy.Fj (λau cz=>?_)
 have Xw:=aa.mk (aN HB1.out)
 have B1d:=aa.mk (B1.out.move rfl:aV w1.drew _ _ _)
 clear HB1 B1 h10 h11 h12 uS
 generalize w1.drew=wd at Xw B1d hHeld ⊢
 refine fJ 0 11 #[I,O,O,O,O,O,O] au cz hHeld (hy:=by(rintro w' ⟨s0,s1,s2,s3⟩;go_simp;with_reducible rfl)) (h:=?_)
 refine fJ 2 13 #[I,O,I,O,O,O,O] au cz hHeld (hy:=by(rintro w' ⟨s0,s1,s2,s3⟩;go_simp;with_reducible rfl)) (h:=?_)
 refine gB (i:=1) (N:=some 12) #[I,I,I,O,O,O,O] rfl rfl (aM au.out (by kernel_rfl)) (by decide) (λK hK=>?_)
 refine bT Tryz.func132 (by kernel_rfl) rfl #[.agg #[.slice A0 old.length c0,.int .i64 nw,.slice A2 ss.length c2,.slice A3 js.length c3]] (by rfl) rfl rfl (by(try simp only[List.map_toArray,List.map_cons,List.map_nil]);rfl) ?_
 refine(tZ (nw:=nw) (js:=js) (H.out.below Xw.out) hs8 hs0 Yq HST.out P HP.out).mono ?_
 rintro e_ w_ ⟨⟨vc,rfl,hRc⟩,hbx⟩
 have e_:=B1d.out.below hbx
 refine⟨_,rfl,hK.out _ _ ⟨(by simpa using e_.cell 0),(by simpa using e_.cell 1),(by simpa using e_.cell 2),(by simpa using e_.cell 3)⟩ (λhHeld=>?_)⟩
 clear hK K
 have aao:=aa.mk (Kd.dG hRc Xw.out.size)
 have HB2:=aa.mk (Xw.out.trans (hbx.mono Xw.out.size))
 clear hbx hRc Xw B1d
 refine j4 ?_
 refine fB (i:=3) (N:=some 14) #[I,I,I,I,O,O,O] rfl rfl (aM au.out (by kernel_rfl)) (by decide) (λK hK=>?_)
 refine bT Tryz.func133 (by kernel_rfl) rfl #[.agg #[.slice A0 old.length c0,.int .i64 nw,.slice A2 ss.length c2,.slice A3 js.length c3]] (by rfl) rfl rfl (by(try simp only[List.map_toArray,List.map_cons,List.map_nil]);rfl) ?_
 refine(Cs (nw:=nw) (js:=js) (H.out.below HB2.out) hs8 hs0 Yq HST.out P HP.out nw.toNat (by omega) (by omega) (by omega) RU.out).mono ?_
 rintro e_ w_ ⟨⟨vs,rfl,hRs⟩,hbx⟩
 refine⟨_,rfl,hK.out _ _ ?_⟩
 clear hK K
 have HRc:=aa.mk (Kd.dm aao.out hbx)
 have HRs:=aa.mk (Kd.dG hRs HB2.out.size)
 have HB3:=aa.mk (HB2.out.trans (hbx.mono HB2.out.size))
 clear hbx hRs HB2 aao
 refine j4 ?_
 refine bq 4 2 #[I,I,I,I,I,O,O] au (h:=?_)
 refine bq 5 3 #[I,I,I,I,I,I,O] au (h:=?_)
 refine bq 6 4 #[I,I,I,I,I,I,I] au (h:=?_)
 refine fM (bP au.out (by kernel_rfl)) ?_
 go_wp2_with fail
 go_ret3
 exact⟨⟨_,_,rfl,HRc.out,HRs.out⟩,HB3.out⟩
open Go.RowKit Go.Shelf ah YtdekaocdmjndaaaGreatW.aj YtdekaocdmjndaaaGreatW.aH
def iJ(xs:List dh)(k:Nat):dh:=sD xs (k:Int)
def vS(x:dh):Value:= .agg #[.int .i64 x.f0,.int .i64 x.f1,.int .i64 x.f2]
def nN(g:Nat)(first cap:Array Value)(p:dh->Bool)(w:World):Prop:=
 ∀(W:World) (x:dh),Below w.heap.size w W->Calls Tryz.prog g (first.push (vS x)++cap) W λe w'=>e= .returned (.bool (p x))/\Below W.heap.size W w'
theorem nN.later{g:Nat}{first cap:Array Value}{p:dh->Bool}{w W:World}(h:nN g first cap p w)(hb:Below w.heap.size w W):nN g first cap p W:=
 λW' x hb'=>h W' x (hb.trans (hb'.mono hb.size))
set_option maxHeartbeats 1000000 in
theorem KL(g:Nat)(cap:Array Value)(hg:∀args w,(callFunc g args).run Tryz.prog w= .ok (.enter g args) w)(p:dh->Bool)(A:Option Addr)(c:Nat)(xs:List dh)(w:World)
  (hr:Kd.C zt w A xs.length xs) (hlen:xs.length<=9223372036854775807) (hp:nN g #[] cap p w):
  Calls Tryz.prog 274 #[.slice A xs.length c,.func (.func g) #[] cap] w λe w'=>e= .returned (.int .i64 (fi p xs 0))/\Below w.heap.size w w':=by
 have HR:=aa.mk hr
 have HP:=aa.mk hp
 clear hr hp
 go_enter Tryz.func274,Tryz.ntmps274
 go_wp2
 go_loopw [8] (λv wr=>∃k:Nat,k<=xs.length/\v= .int .i64 k/\aa (Below w.heap.size w wr)/\aa (fi p xs 0=fi p (xs.drop k) k)) (λv _=>xs.length-(intOf v).toNat)
 case atStart=>exact⟨0,Nat.zero_le _,rfl,⟨Below.refl _ _⟩,⟨rfl⟩⟩
 case round=>
  obtain⟨k,hk,rfl,HB,HF⟩:=hrel
  by_cases hlt:k<xs.length
  .obtain⟨ad,e,h0,h1,h2⟩:=Jo HR.out k (by omega) (by omega)
   cases e
   have hb:=HB.out
   replace h0:=(hb.cell (World.block_lt_of_cell? w _ h0)).trans h0
   replace h1:=(hb.cell (World.block_lt_of_cell? w _ h1)).trans h1
   replace h2:=(hb.cell (World.block_lt_of_cell? w _ h2)).trans h2
   simp only[Int.toNat_natCast] at h0 h1 h2
   clear hb HR
   go_wp2_with fail
   have hc:=HP.out wr (iJ xs k) HB.out
   simp only[vS,iJ,List.push_toArray,List.nil_append] at hc
   have hfs:=aa.mk (jX p xs k Qg hlt)
   rw[show xs.getD k Qg=iJ xs k from by simp[iJ,sD,Int.toNat_natCast]] at hfs
   have HX:aa (∃y,y=iJ xs k):=⟨⟨_,rfl⟩⟩
   refine(hc).mono ?_
   rintro e w' ⟨rfl,hb'⟩
   have qV:=aa.mk (bA HB.out hb')
   clear hb' h0 h1 h2 hc HB
   cases hpx:p (iJ xs k)
   .simp only[iJ] at hpx
    have jV:=aa.mk hpx
    clear hpx
    simp only[jV.out]
    go_wp2
    go_roundw
    case rel=>exact⟨k+1,by omega,by go_num,qV,⟨by rw[HF.out,hfs.out,if_neg (by simp[iJ,jV.out])]⟩⟩
    case measure=>simp[intOf];omega
   .simp only[iJ] at hpx
    have jV:=aa.mk hpx
    clear hpx
    simp only[jV.out]
    go_wp2
    go_ret
    exact⟨dL (by rw[HF.out,hfs.out,if_pos (by simp[iJ,jV.out])]),qV.out⟩
  .have hk':k=xs.length:=by omega
   subst hk'
   go_wp2
   go_ret
   exact⟨dL (by rw[HF.out,List.drop_length];rfl),HB.out⟩
theorem Dk(g:Nat)(cap:Array Value)(hg:∀args w,(callFunc g args).run Tryz.prog w= .ok (.enter g args) w)(p:dh->Bool)(A:Option Addr)(c:Nat)(xs:List dh)(w:World)
  (hr:Kd.C zt w A xs.length xs) (hlen:xs.length<=9223372036854775807) (hp:nN g #[] cap p w):
  Calls Tryz.prog 223 #[.slice A xs.length c,.func (.func g) #[] cap] w λe w'=>e= .returned (.bool (xs.any p))/\Below w.heap.size w w':=by
 go_enter Tryz.func223,Tryz.ntmps223
 go_wp2_with fail
 refine(KL g cap hg p A c xs w hr hlen hp).mono ?_
 rintro e w' ⟨rfl,hb⟩
 obtain⟨j,hj⟩:∃j,fi p xs 0=j:=⟨_,rfl⟩
 have hn:=aa.mk (iQ p xs 0)
 rw[hj] at hn ⊢
 clear hj
 go_wp2
 go_ret
 exact⟨bB (by rw[<- hn.out]),hb⟩
theorem O3(g:Nat)(first cap:Array Value)(hg:∀args w,(callFunc g args).run Tryz.prog w= .ok (.enter g args) w)(p:dh->Bool)(x:dh)(gp:Nat)(w:World)
  (hc:w.cell? ⟨gp,0,none⟩=some (.func (.func g) first cap)) (hp:nN g first cap p w):
  Calls Tryz.prog 224 ((#[]:Array Value).push (vS x)++#[.pointer (some ⟨gp,0,none⟩)]) w λe w'=>e= .returned (.bool (!p x))/\Below w.heap.size w w':=by
 simp only[Array.empty_append,List.push_toArray,List.append_toArray,List.nil_append,List.cons_append,vS]
 have PW:gp<w.heap.size:=World.block_lt_of_cell? w _ hc
 have HP:=aa.mk hp
 clear hp
 go_enter Tryz.func224,Tryz.ntmps224
 go_wp2_with fail
 have hc:=HP.out _ x ((Below.refl w.heap.size w).alloc (Nat.le_refl _) (.cells #[.int .i64 x.f0,.int .i64 x.f1,.int .i64 x.f2] 158))
 simp only[vS] at hc
 refine hc.mono ?_
 rintro e w' ⟨rfl,hb⟩
 obtain⟨b,hb1⟩:∃b,p x=b:=⟨_,rfl⟩
 rw[hb1]
 go_wp2
 go_ret
 exact⟨bB (by rw[hb1]),bA ((Below.refl w.heap.size w).alloc (Nat.le_refl _) (.cells #[.int .i64 x.f0,.int .i64 x.f1,.int .i64 x.f2] 158)) hb⟩
theorem RI(g:Nat)(first cap:Array Value)(hg:∀args w,(callFunc g args).run Tryz.prog w= .ok (.enter g args) w)(p:dh->Bool)(A:Option Addr)(c:Nat)(xs:List dh)(w:World)
  (hr:Kd.C zt w A xs.length xs) (hlen:xs.length<=9223372036854775807) (hp:nN g first cap p w):
  Calls Tryz.prog 154 #[.slice A xs.length c,.func (.func g) first cap] w λe w'=>e= .returned (.bool (xs.all p))/\Below w.heap.size w w':=by
 go_enter Tryz.func154,Tryz.ntmps154
 have HR:=aa.mk hr
 have HP:=aa.mk hp
 clear hr hp
 go_wp2_with fail
 have hB:Below w.heap.size w (w.alloc (.cells #[.func (.func g) first cap] 280)):=(Below.refl _ _).alloc (Nat.le_refl _) _
 refine(Dk 224 #[.pointer (some ⟨w.heap.size,0,none⟩)] (enters Tryz.func224 (by kernel_rfl) rfl) (λx=>!p x) A c xs _ (Kd.aC HR.out hB) hlen ?_).mono ?_
 .intro W x hW
  refine O3 g first cap hg p x w.heap.size W ?_ (HP.out.later (hB.trans (hW.mono hB.size)))
  rw[hW.cell (p:=⟨w.heap.size,0,none⟩) (by simp)]
  simp
 rintro e w' ⟨rfl,hb⟩
 have hn:=aa.mk (List.any_eq_not_all_not (l:=xs) (p:=λx=>!p x))
 obtain⟨j,hj⟩:∃j,(xs.any λx=>!p x)=j:=⟨_,rfl⟩
 rw[hj] at hn ⊢
 clear hj
 go_wp2
 go_ret
 exact⟨bB (by rw[hn.out];simp),bA hB hb⟩
def nM(g:Nat)(first cap:Array Value)(p:List Int->Bool)(w:World):Prop:=
 ∀(W:World) (x:List Int) (A:Option Addr) (c:Nat),Below w.heap.size w W->(Kd.int .i64).C W A x.length x->x.length<=c->Calls Tryz.prog g (first.push (.slice A x.length c)++cap) W λe w'=>e= .returned (.bool (p x))/\Below W.heap.size W w'
theorem nM.later{g:Nat}{first cap:Array Value}{p:List Int->Bool}{w W:World}(h:nM g first cap p w)(hb:Below w.heap.size w W):nM g first cap p W:=
 λW' x A c hb'=>h W' x A c (hb.trans (hb'.mono hb.size))
set_option maxHeartbeats 1000000 in
theorem KJ(g:Nat)(cap:Array Value)(hg:∀args w,(callFunc g args).run Tryz.prog w= .ok (.enter g args) w)(p:List Int->Bool)(A:Option Addr)(c:Nat)(xs:List (List Int))(w:World)
  (hr:Kd.C (Kd.slice 3 (Kd.int .i64)) w A xs.length xs) (hlen:xs.length<=9223372036854775807) (hp:nM g #[] cap p w):
  Calls Tryz.prog 273 #[.slice A xs.length c,.func (.func g) #[] cap] w λe w'=>e= .returned (.int .i64 (fi p xs 0))/\Below w.heap.size w w':=by
 have HR:=aa.mk hr
 have HP:=aa.mk hp
 clear hr hp
 go_enter Tryz.func273,Tryz.ntmps273
 go_wp2
 go_loopw [8] (λv wr=>∃k:Nat,k<=xs.length/\v= .int .i64 k/\aa (Below w.heap.size w wr)/\aa (fi p xs 0=fi p (xs.drop k) k)) (λv _=>xs.length-(intOf v).toNat)
 case atStart=>exact⟨0,Nat.zero_le _,rfl,⟨Below.refl _ _⟩,⟨rfl⟩⟩
 case round=>
  obtain⟨k,hk,rfl,HB,HF⟩:=hrel
  by_cases hlt:k<xs.length
  .obtain⟨ad,A0,c0,e,h0,hc0,hC0⟩:=Fv HR.out k (by omega) (by omega)
   cases e
   have hb:=HB.out
   replace h0:=(hb.cell (World.block_lt_of_cell? w _ h0)).trans h0
   simp only[Int.toNat_natCast] at h0
   have hC:=Kd.aC hC0 HB.out
   have hrd:tO xs (k:Int)=xs.getD k []:=rfl
   rw[hrd] at h0 hc0 hC
   have hfs:=aa.mk (jX p xs k [] hlt)
   obtain⟨r,hre⟩:∃r,xs.getD k []=r:=⟨_,rfl⟩
   rw[hre] at h0 hc0 hC hfs
   have HC:=aa.mk hC
   clear hre
   clear hb HR hC hC0 hrd
   go_wp2_with fail
   have hc:=HP.out wr r A0 c0 HB.out HC.out hc0
   simp only[List.push_toArray,List.nil_append] at hc
   refine(hc).mono ?_
   rintro e w' ⟨rfl,hb'⟩
   have qV:=aa.mk (bA HB.out hb')
   clear hb' h0 hc HB HC hc0
   cases hpx:p r
   .skip
    have jV:=aa.mk hpx
    clear hpx
    simp only[jV.out]
    go_wp2
    go_roundw
    case rel=>exact⟨k+1,by omega,by go_num,qV,⟨by rw[HF.out,hfs.out,if_neg (by simp[jV.out])]⟩⟩
    case measure=>simp[intOf];omega
   .skip
    have jV:=aa.mk hpx
    clear hpx
    simp only[jV.out]
    go_wp2
    go_ret
    exact⟨dL (by rw[HF.out,hfs.out,if_pos (by simp[jV.out])]),qV.out⟩
  .have hk':k=xs.length:=by omega
   subst hk'
   go_wp2
   go_ret
   exact⟨dL (by rw[HF.out,List.drop_length];rfl),HB.out⟩
theorem Dj(g:Nat)(cap:Array Value)(hg:∀args w,(callFunc g args).run Tryz.prog w= .ok (.enter g args) w)(p:List Int->Bool)(A:Option Addr)(c:Nat)(xs:List (List Int))(w:World)
  (hr:Kd.C (Kd.slice 3 (Kd.int .i64)) w A xs.length xs) (hlen:xs.length<=9223372036854775807) (hp:nM g #[] cap p w):
  Calls Tryz.prog 221 #[.slice A xs.length c,.func (.func g) #[] cap] w λe w'=>e= .returned (.bool (xs.any p))/\Below w.heap.size w w':=by
 go_enter Tryz.func221,Tryz.ntmps221
 go_wp2_with fail
 refine(KJ g cap hg p A c xs w hr hlen hp).mono ?_
 rintro e w' ⟨rfl,hb⟩
 obtain⟨j,hj⟩:∃j,fi p xs 0=j:=⟨_,rfl⟩
 have hn:=aa.mk (iQ p xs 0)
 rw[hj] at hn ⊢
 clear hj
 go_wp2
 go_ret
 exact⟨bB (by rw[<- hn.out]),hb⟩
theorem O1(g:Nat)(first cap:Array Value)(hg:∀args w,(callFunc g args).run Tryz.prog w= .ok (.enter g args) w)(p:List Int->Bool)(x:List Int)(Ax:Option Addr)(cx:Nat)(gp:Nat)(w:World)
  (hc:w.cell? ⟨gp,0,none⟩=some (.func (.func g) first cap)) (hp:nM g first cap p w) (hx:(Kd.int .i64).C w Ax x.length x) (hcx:x.length<=cx):
  Calls Tryz.prog 222 ((#[]:Array Value).push (.slice Ax x.length cx)++#[.pointer (some ⟨gp,0,none⟩)]) w λe w'=>e= .returned (.bool (!p x))/\Below w.heap.size w w':=by
 simp only[Array.empty_append,List.push_toArray,List.append_toArray,List.nil_append,List.cons_append]
 have PW:gp<w.heap.size:=World.block_lt_of_cell? w _ hc
 have HP:=aa.mk hp
 have HCX:=aa.mk hx
 clear hp hx
 go_enter Tryz.func222,Tryz.ntmps222
 go_wp2_with fail
 have hc:=HP.out _ x Ax cx (Below.refl _ _) HCX.out hcx
 refine hc.mono ?_
 rintro e w' ⟨rfl,hb⟩
 obtain⟨b,hb1⟩:∃b,p x=b:=⟨_,rfl⟩
 rw[hb1]
 go_wp2
 go_ret
 exact⟨bB (by rw[hb1]),bA (Below.refl _ _) hb⟩
theorem Jq(g:Nat)(first cap:Array Value)(hg:∀args w,(callFunc g args).run Tryz.prog w= .ok (.enter g args) w)(p:List Int->Bool)(A:Option Addr)(c:Nat)(xs:List (List Int))(w:World)
  (hr:Kd.C (Kd.slice 3 (Kd.int .i64)) w A xs.length xs) (hlen:xs.length<=9223372036854775807) (hp:nM g first cap p w):
  Calls Tryz.prog 151 #[.slice A xs.length c,.func (.func g) first cap] w λe w'=>e= .returned (.bool (xs.all p))/\Below w.heap.size w w':=by
 go_enter Tryz.func151,Tryz.ntmps151
 have HR:=aa.mk hr
 have HP:=aa.mk hp
 clear hr hp
 go_wp2_with fail
 have hB:Below w.heap.size w (w.alloc (.cells #[.func (.func g) first cap] 265)):=(Below.refl _ _).alloc (Nat.le_refl _) _
 refine(Dj 222 #[.pointer (some ⟨w.heap.size,0,none⟩)] (enters Tryz.func222 (by kernel_rfl) rfl) (λx=>!p x) A c xs _ (Kd.aC HR.out hB) hlen ?_).mono ?_
 .intro W x Ax cx hW hCx hcx
  refine O1 g first cap hg p x Ax cx w.heap.size W ?_ (HP.out.later (hB.trans (hW.mono hB.size))) hCx hcx
  rw[hW.cell (p:=⟨w.heap.size,0,none⟩) (by simp)]
  simp
 rintro e w' ⟨rfl,hb⟩
 have hn:=aa.mk (List.any_eq_not_all_not (l:=xs) (p:=λx=>!p x))
 obtain⟨j,hj⟩:∃j,(xs.any λx=>!p x)=j:=⟨_,rfl⟩
 rw[hj] at hn ⊢
 clear hj
 go_wp2
 go_ret
 exact⟨bB (by rw[hn.out];simp),bA hB hb⟩
end Go.Proofs.YtdekaocdmjndaaaGreat
