import Derived.Laws.EntriesVeiled
import Derived.Test.YtkjoilgpmngndaaGreatQ29
import Derived.Test.YtkjoilgpmngndaaGreatQ35
set_option linter.all false
namespace Go.Proofs.YtkjoilgpmngndaaGreat.Wk
open Go.RowKit Go.Shelf Go.Proofs.YtkjoilgpmngndaaGreat.av Go.Proofs.YtkjoilgpmngndaaGreatW.aA Go.Proofs.YtkjoilgpmngndaaGreatW.aJ
def setAt(l:List Int)(k:Nat):Nat:=(l.take k).foldl (fun s n=>s|||2^n.toNat) 0
theorem Lx(l:List Int):setAt l 0=0:=rfl
theorem zY(l:List Int)(k:Nat)(h:k<l.length):setAt l (k+1)=setAt l k|||2^(l.getD k 0).toNat:=by
 unfold setAt
 rw[List.take_succ_eq_append_getElem h,List.foldl_append]
 simp[List.getD,h]
theorem uk{l:List Int}{N:Nat}(hN:N<=8)(hl:∀x ∈ l,0<=x/\x<N):∀k,k<=l.length->∀p,(setAt l k).testBit p=true->p<N
 |0,_,p,h=>by simp[Lx] at h
 |k+1,hk,p,h=>by
  rw[zY l k (by omega),Nat.testBit_or] at h
  rw[Bool.or_eq_true] at h
  rcases h with h|h
  .exact uk hN hl k (by omega) p h
  .have hm:=hl (l.getD k 0) (by
    have:l.getD k 0=l[k]:=by simp[List.getD,show k<l.length by omega]
    rw[this];exact List.getElem_mem _)
   rw[Nat.testBit_two_pow] at h
   have:=of_decide_eq_true h
   omega
theorem Jn{l:List Int}{N:Nat}(hN:N<=8)(hl:∀x ∈ l,0<=x/\x<N)(k:Nat)(hk:k<=l.length):setAt l k<256:=by
 have:setAt l k<2^8:=Nat.lt_pow_two_of_testBit _ (fun i hi=>by
  cases h:(setAt l k).testBit i
  .rfl
  .have:=uk hN hl k hk i h
   omega)
 simpa using this
theorem Zt:∀a:Fin 256,∀n:Fin 8,Go.bits .or .i64 (a.1:Int) ((2^n.1:Nat):Int)=((a.1|||2^n.1:Nat):Int):=by decide +kernel
theorem acG{a n:Nat}(ha:a<256)(hn:n<8):Go.bits .or .i64 (a:Int) ((2^n:Nat):Int)=((a|||2^n:Nat):Int):=Zt ⟨a,ha⟩ ⟨n,hn⟩
def yD(W:List mo)(R:List dR)(l:List Int):Int×Int:=
 if jB W R=0 then(if(xR l&&l.all (kN W.length))=true then(if 1048576<=vM (tm R W.length) W (setAt l l.length) then(0,7) else(vM (tm R W.length) W (setAt l l.length),0)) else(0,2)) else(0,jB W R)
set_option maxRecDepth 100000 in
set_option maxHeartbeats 40000000 in
theorem NB{A0:Option Addr}{c0:Nat}{Wk:List mo}{A1:Option Addr}{c1:Nat}{R:List dR}{w:World}(l:List Int){Al:Option Addr}{cl:Nat}(hl:Kd.C (Kd.int .i64) w Al l.length l)(hcl:l.length<=cl)(hll:l.length<1000000)(h:IsMap w A0 c0 Wk A1 c1 R):
  Calls Tryz.prog 28 #[.agg #[.slice A0 Wk.length c0,.slice A1 R.length c1],.slice Al l.length cl] w fun e w'=>(∃a1 n1 d1 a2 n2 d2,e= .returned (.tuple #[.agg #[.slice a1 n1 d1,.slice a2 n2 d2],.int .i64 (yD Wk R l).1,.int .i64 (yD Wk R l).2])/\((yD Wk R l).2=0->Wk.length=1->n1=1))/\Below w.heap.size w w':=by
 have H:=aa.mk h
 have HL:=aa.mk hl
 clear h hl
 go_enter Tryz.func28,Tryz.ntmps28
 go_wp2_with fail
 have hb0:=ae (ae (Below.refl w.heap.size w) (.cells #[.slice A0 Wk.length c0,.slice A1 R.length c1] 78)) (.cells #[.slice none 0 0,.slice none 0 0] 80)
 have B2:=(aR.new w [.slice A0 Wk.length c0,.slice A1 R.length c1] 78).alloc (.cells #[.slice none 0 0,.slice none 0 0] 80)
 have B4:=aR.new (w.alloc (.cells #[.slice A0 Wk.length c0,.slice A1 R.length c1] 78)) [.slice none 0 0,.slice none 0 0] 80
 have HB0:=aa.mk hb0
 refine(iH (H.out.below hb0)).mono ?_
 rintro e w1 ⟨rfl,hb1⟩
 have xK:=aa.mk (B2.below hb1)
 have O6:=aa.mk (show aR w1 (w.heap.size+1) [.slice none 0 0,.slice none 0 0] 80 by simpa using B4.below hb1)
 have HB1:=aa.mk (hb0.trans (hb1.mono (by simp;omega)))
 have hs1:w.heap.size+2<=w1.heap.size:=by simpa using hb1.size
 have h20:=xK.out.cell 0
 have h21:=xK.out.cell 1
 have pW:=O6.out.cell 0
 have pV:=O6.out.cell 1
 have zf:=O6.out.frozen 0
 have ze:=O6.out.frozen 1
 simp only[List.getElem?_cons_zero,List.getElem?_cons_succ] at h20 h21 pW pV
 clear hb0 hb1 B2 B4 HB0
 by_cases hc:jB Wk R=0
 .have hcb:(jB Wk R !=0)=false:=by simp[hc]
  obtain⟨hN0,hN,_,hW,hR,_⟩:=aaN hc
  have OZ:=aa.mk (show yD Wk R l=((if(xR l&&l.all (kN Wk.length))=true then(if 1048576<=vM (tm R Wk.length) Wk (setAt l l.length) then(0,7) else(vM (tm R Wk.length) Wk (setAt l l.length),0)) else(0,2)):Int×Int) by unfold yD;rw[if_pos hc])
  rw[hc]
  clear hc
  go_wp2_with fail
  refine(dY.calls (l.length+1) Al cl l (xR l) w1 (Kd.aK HL.out HB1.out) hcl (Rt l hll)).mono ?_
  rintro e w2 ⟨rfl,hd2⟩
  have hb2:=hd2.below
  have HB2:=aa.mk (HB1.out.trans (hb2.mono HB1.out.size))
  have I9:=aa.mk (xK.out.below hb2)
  have xO:=aa.mk (O6.out.below hb2)
  have hs2:=Nat.le_trans hs1 hb2.size
  clear hb2 hd2 xK O6 h20 h21 pW pV zf ze HB1
  have h20:=I9.out.cell 0
  have h21:=I9.out.cell 1
  have pW:=xO.out.cell 0
  have pV:=xO.out.cell 1
  have zf:=xO.out.frozen 0
  have ze:=xO.out.frozen 1
  simp only[List.getElem?_cons_zero,List.getElem?_cons_succ] at h20 h21 pW pV
  cases hrs:xR l
  .rw[hrs,Bool.false_and,if_neg (by simp)] at OZ
   go_wp2_with fail
   refine bodyPost_ret (mO rfl _ _ (w.heap.size+1) 80 #[.slice none 0 0,.slice none 0 0] (0,0) _ rfl (xO.out.set2 _ _) Tryz.underlying80 rfl (by kernel_rfl)) rfl ?_
   rw[OZ.out]
   exact⟨⟨_,_,_,_,_,_,rfl,fun h=>absurd h (by decide)⟩,(HB2.out.setCell (p:=⟨w.heap.size+1,0,none⟩) (by simp) _).setCell (p:=⟨w.heap.size+1,1,none⟩) (by simp) _⟩
  .rw[hrs,Bool.true_and] at OZ
   clear hrs
   go_wp2_with fail
   refine(Iw 63 #[.agg #[.slice A0 Wk.length c0,.slice A1 R.length c1]] #[] (enters Tryz.func63 (by kernel_rfl) rfl) (kN Wk.length) Al cl l _ (Kd.aK HL.out HB2.out) (by omega) ?_).mono ?_
   .intro W x hW
    exact rC x (H.out.below (HB2.out.trans (hW.mono HB2.out.size)))
   rintro e w3 ⟨rfl,hb3⟩
   have HB3:=aa.mk (HB2.out.trans (hb3.mono HB2.out.size))
   have Q9:=aa.mk (I9.out.below hb3)
   have Ll:=aa.mk (xO.out.below hb3)
   have hs3:=Nat.le_trans hs2 hb3.size
   clear hb3 I9 xO h20 h21 pW pV zf ze HB2 hs2 hs1
   have h20:=Q9.out.cell 0
   have h21:=Q9.out.cell 1
   have pW:=Ll.out.cell 0
   have pV:=Ll.out.cell 1
   have zf:=Ll.out.frozen 0
   have ze:=Ll.out.frozen 1
   simp only[List.getElem?_cons_zero,List.getElem?_cons_succ] at h20 h21 pW pV
   cases hal:l.all (kN Wk.length)
   .rw[hal,if_neg (by simp)] at OZ
    go_wp2_with fail
    refine bodyPost_ret (mO rfl _ _ (w.heap.size+1) 80 #[.slice none 0 0,.slice none 0 0] (0,0) _ rfl (Ll.out.set2 _ _) Tryz.underlying80 rfl (by kernel_rfl)) rfl ?_
    rw[OZ.out]
    exact⟨⟨_,_,_,_,_,_,rfl,fun h=>absurd h (by decide)⟩,(HB3.out.setCell (p:=⟨w.heap.size+1,0,none⟩) (by simp) _).setCell (p:=⟨w.heap.size+1,1,none⟩) (by simp) _⟩
   .rw[hal,if_pos rfl] at OZ
    have HP:=aa.mk (show ∀x ∈ l,0<=x/\x<Wk.length from fun x hx=>xW (List.all_eq_true.1 hal x hx))
    clear hal h20 h21 pW pV zf ze
    go_wp2_with fail
    go_loopw [9,33] (fun v9 v33 wr=>∃k:Nat,k<=l.length/\v33= .int .i64 k/\v9= .int .i64 (setAt l k:Nat)/\wr=w3) (fun _ v33 _=>l.length-(intOf v33).toNat)
    case atStart=>exact⟨0,Nat.zero_le _,rfl,rfl,rfl⟩
    case round=>
     obtain⟨k,hk,rfl,rfl,rfl⟩:=hrel
     by_cases hkl:k<l.length
     .obtain⟨ad,e,hx⟩:=Kd.dz (Kd.aK HL.out HB3.out) (k:Int) (by omega) (by omega)
      cases e
      simp only[Int.toNat_natCast] at hx
      have hxm:=HP.out (rd l (k:Int)) (by
       have e:rd l (k:Int)=l[k]:=by simp[rd,List.getD,hkl]
       rw[e];exact List.getElem_mem hkl)
      have hst:=zY l k hkl
      rw[show l.getD k 0=rd l (k:Int) by simp[rd]] at hst
      have hlt:=Jn hN HP.out k hk
      obtain⟨x,hxx⟩:∃x,rd l (k:Int)=x:=⟨_,rfl⟩
      rw[hxx] at hx hxm hst
      obtain⟨n,rfl⟩:∃n:Nat,x=n:=⟨x.toNat,by omega⟩
      simp only[Int.toNat_natCast] at hst
      have Qd:n<8:=by omega
      have ho1:=(Zu Qd).1
      have hor:=acG hlt Qd
      rw[show((2^n:Nat):Int)=(2:Int)^n by simp] at hor
      have HOR:=aa.mk hor
      have hnp:(0:Int)<=n:=by omega
      have HST:=aa.mk hst
      obtain⟨sk,hsk⟩:∃s,setAt l k=s:=⟨_,rfl⟩
      rw[hsk] at hor HST HOR
      rw[hsk]
      clear hst hxx hsk hlt
      go_wp2_with fail
      go_roundw
      case rel=>exact⟨k+1,by omega,by go_num,by rw[HST.out],trivial⟩
      case measure=>simp[intOf];omega
     .obtain rfl:k=l.length:=by omega
      have h20:=Q9.out.cell 0
      have h21:=Q9.out.cell 1
      simp only[List.getElem?_cons_zero,List.getElem?_cons_succ] at h20 h21
      go_wp2_with fail
      refine(KH (H.out.below HB3.out) hN hR).mono ?_
      rintro e w4 ⟨ga,mb,rfl,hga,hA4,hb4⟩
      have HA4:=aa.mk hA4
      have kY:=aa.mk (HB3.out.trans (hb4.mono HB3.out.size))
      have Uq:=aa.mk (Ll.out.below hb4)
      have hs4:=Nat.le_trans hs3 hb4.size
      have hlt:=Jn hN HP.out l.length (Nat.le_refl _)
      have YF:=aa.mk (show ∀p ∈ places (setAt l l.length),p<Wk.length from fun p hp=>uk hN HP.out l.length (Nat.le_refl _) p (l8.1 hp).2)
      obtain⟨s,hs⟩:∃s,setAt l l.length=s:=⟨_,rfl⟩
      rw[hs] at OZ YF hlt ⊢
      clear hs hA4 hb4 h20 h21 Ll
      go_wp2_with fail
      refine(Cs (zR hR) hW s hlt YF.out HA4.out).mono ?_
      rintro e w5 ⟨rfl,hA5,WN⟩
      have hlo:=HA4.out.lo
      have hgt:=HA4.out.gt
      have hmb:=HA4.out.kC.memo.lt
      have aqf:=HA4.out.kC.kC.lt
      have hw3:=HB3.out.size
      have uY:=aa.mk (kY.out.trans ⟨WN.os,WN.tape,WN.output,WN.size,fun i hi=>WN.block i (by omega) (by omega)⟩)
      have Lj:=aa.mk (Uq.out.move (WN.block (w.heap.size+1) (by omega) (by omega)))
      have HA5:=aa.mk hA5
      have hs5:=Nat.le_trans hs4 WN.size
      have hws:=pI hW s YF.out (places s).length (Nat.le_refl _)
      have I6:=aa.mk (show(rest (tm R Wk.length) 0 s).1<=vM (tm R Wk.length) Wk s by unfold vM;omega)
      obtain⟨lg,hlg⟩:∃x,vM (tm R Wk.length) Wk s=x:=⟨_,rfl⟩
      rw[hlg] at OZ I6
      rw[hlg]
      have h50:=Lj.out.cell 0
      have Di:=Lj.out.cell 1
      have aka:=Lj.out.frozen 0
      have aj9:=Lj.out.frozen 1
      simp only[List.getElem?_cons_zero,List.getElem?_cons_succ] at h50 Di
      clear hlg hws hA5 WN HA4 kY Uq
      by_cases V8:1048576<=lg
      .have hfb:decide (1048576<=lg)=true:=by simpa using V8
       rw[if_pos V8] at OZ
       go_wp2_with fail
       refine bodyPost_ret (mO rfl _ _ (w.heap.size+1) 80 #[.slice none 0 0,.slice none 0 0] (0,0) _ rfl (Lj.out.set2 _ _) Tryz.underlying80 rfl (by kernel_rfl)) rfl ?_
       rw[OZ.out]
       exact⟨⟨_,_,_,_,_,_,rfl,fun h=>absurd h (by decide)⟩,(uY.out.setCell (p:=⟨w.heap.size+1,0,none⟩) (by simp) _).setCell (p:=⟨w.heap.size+1,1,none⟩) (by simp) _⟩
      .have hfb:decide (1048576<=lg)=false:=by simpa using V8
       rw[if_neg V8] at OZ
       go_wp2_with fail
       refine(Ls hN hN0 (zR hR) (Rb hR) s hlt YF.out (by have:=I6.out;omega) HA5.out).mono ?_
       rintro e w6 ⟨⟨a1,n1,d1,a2,n2,d2,rfl,hn1⟩,hA6,Yb⟩
       have YI:=aa.mk hn1
       clear hn1
       have ap9:=HA5.out.gt
       have IG:=aa.mk (uY.out.trans ⟨Yb.os,Yb.tape,Yb.output,Yb.size,fun i hi=>Yb.block i (by omega) (by omega)⟩)
       have YX:=aa.mk (Lj.out.move (Yb.block (w.heap.size+1) (by omega) (by omega)))
       clear h50 Di aka aj9 Lj hA6 HA5 uY
       have hs6:=Nat.le_trans hs5 Yb.size
       clear Yb
       have zz:=YX.out.cell 0
       have Lh:=YX.out.cell 1
       have aay:=YX.out.frozen 0
       have aax:=YX.out.frozen 1
       simp only[List.getElem?_cons_zero,List.getElem?_cons_succ] at zz Lh
       go_wp2_with fail
       refine bodyPost_ret (mO rfl _ _ (w.heap.size+1) 80 #[.slice a1 n1 d1,.slice a2 n2 d2] (0,0) _ rfl (YX.out.set2 _ _) Tryz.underlying80 rfl (by kernel_rfl)) rfl ?_
       rw[OZ.out]
       exact⟨⟨_,_,_,_,_,_,rfl,fun _=>YI.out⟩,(IG.out.setCell (p:=⟨w.heap.size+1,0,none⟩) (by simp) _).setCell (p:=⟨w.heap.size+1,1,none⟩) (by simp) _⟩
 .have hcb:(jB Wk R !=0)=true:=by simp[hc]
  have OZ:=aa.mk (show yD Wk R l=(0,jB Wk R) by unfold yD;rw[if_neg hc])
  go_wp2_with fail
  refine bodyPost_ret (mO rfl _ _ (w.heap.size+1) 80 #[.slice none 0 0,.slice none 0 0] (0,0) _ rfl (O6.out.set2 _ _) Tryz.underlying80 rfl (by kernel_rfl)) rfl ?_
  rw[OZ.out]
  exact⟨⟨_,_,_,_,_,_,rfl,fun h=>absurd h hc⟩,(HB1.out.setCell (p:=⟨w.heap.size+1,0,none⟩) (by simp) _).setCell (p:=⟨w.heap.size+1,1,none⟩) (by simp) _⟩
end Go.Proofs.YtkjoilgpmngndaaGreat.Wk
namespace Go.Proofs.YtkjoilgpmngndaaGreat
open Go.RowKit Go.Shelf Go.Proofs.YtkjoilgpmngndaaGreat.av Go.Proofs.YtkjoilgpmngndaaGreatW.aA
set_option maxRecDepth 100000
def caS:List bH:=[⟨0,0,1,⟨0,9⟩⟩,⟨0,1,1,⟨0,9⟩⟩]
theorem aaQ:gU [7] 2 caS []=0:=by decide +kernel
theorem aaO:OT [7] caS (fun _=>(4,3)):=by
 intro d hd
 have hd':d<1:=hd
 obtain rfl:d=0:=by omega
 exact⟨(0,⟨0,0,1,⟨0,9⟩⟩),(1,⟨0,1,1,⟨0,9⟩⟩),rfl,by decide,by decide,by decide,2,3,3,1,1,1,by constructor<;>decide⟩
theorem Tc:jW caS (fun _=>(4,3)) [(7:Int)].length=[4,3]:=by decide +kernel
theorem Ta:OU caS 2 [4,3]:=by
 unfold OU
 decide +kernel
theorem WS:Wk.yD [⟨1,2⟩] [] [0]=(2,0):=by decide +kernel
theorem WR:(gV 5 [[4,3]] [] 1 (fun _=>0)).1=3:=by decide +kernel
theorem aaP:QE 5 [[4,3]] []:=by constructor<;>decide +kernel
theorem QS{w:World}{g:Nat}{t:TypeId}(h:aR w g [.int .i64 0,.int .i64 0,.int .i64 1,.int .i64 0,.int .i64 9,.int .i64 0,.int .i64 1,.int .i64 1,.int .i64 0,.int .i64 9] t):uB.C w (some ⟨g,0,none⟩) 2 caS:=by
 refine⟨rfl,by decide,fun _=>⟨_,rfl,fun j p hj=>?_⟩⟩
 match j,hj with
 |0,hj=>
  cases hj
  refine⟨_,rfl,Oq w _,fun i u hu=>?_⟩
  match i,hu with
  |0,hu=>cases hu;exact h.cell 0
  |1,hu=>cases hu;exact h.cell 1
  |2,hu=>cases hu;exact h.cell 2
  |3,hu=>cases hu;exact h.cell 3
  |4,hu=>cases hu;exact h.cell 4
 |1,hj=>
  cases hj
  refine⟨_,rfl,Oq w _,fun i u hu=>?_⟩
  match i,hu with
  |0,hu=>cases hu;exact h.cell 5
  |1,hu=>cases hu;exact h.cell 6
  |2,hu=>cases hu;exact h.cell 7
  |3,hu=>cases hu;exact h.cell 8
  |4,hu=>cases hu;exact h.cell 9
theorem Ui{w:World}{g:Nat}{t:TypeId}(h:aR w g [.int .i64 1,.int .i64 2] t):Ux.C w (some ⟨g,0,none⟩) 1 [⟨1,2⟩]:=by
 refine⟨rfl,by decide,fun _=>⟨_,rfl,fun j p hj=>?_⟩⟩
 match j,hj with
 |0,hj=>
  cases hj
  refine⟨_,rfl,ZA w _,fun i u hu=>?_⟩
  match i,hu with
  |0,hu=>cases hu;exact h.cell 0
  |1,hu=>cases hu;exact h.cell 1
theorem afF{w:World}{g:Nat}{a b:Int}{t:TypeId}(h:aR w g [.int .i64 a,.int .i64 b] t):(Kd.int .i64).C w (some ⟨g,0,none⟩) 2 [a,b]:=by
 refine⟨rfl,by decide,fun _=>⟨_,rfl,fun j p hj=>?_⟩⟩
 match j,hj with
 |0,hj=>
  cases hj
  refine⟨[.int .i64 a],rfl,rfl,fun i u hu=>?_⟩
  match i,hu with
  |0,hu=>cases hu;exact h.cell 0
 |1,hj=>
  cases hj
  refine⟨[.int .i64 b],rfl,rfl,fun i u hu=>?_⟩
  match i,hu with
  |0,hu=>cases hu;exact h.cell 1
theorem XB{w:World}{g:Nat}{A:Option Addr}{n c:Nat}{xs:List Int}{t:TypeId}(h:aR w g [.slice A n c] t)(hn:xs.length=n)(hc:n<=c)(hx:(Kd.int .i64).C w A n xs):(Kd.slice 3 (Kd.int .i64)).C w (some ⟨g,0,none⟩) 1 [xs]:=by
 subst hn
 refine⟨rfl,by decide,fun _=>⟨_,rfl,fun j p hj=>?_⟩⟩
 match j,hj with
 |0,hj=>
  cases hj
  refine⟨[.slice A xs.length c],rfl,⟨A,c,rfl,hc,hx⟩,fun i u hu=>?_⟩
  match i,hu with
  |0,hu=>cases hu;exact h.cell 0
end Go.Proofs.YtkjoilgpmngndaaGreat
namespace Go.Proofs.YtkjoilgpmngndaaGreat
open Go.RowKit Go.Shelf Go.Proofs.YtkjoilgpmngndaaGreat.av Go.Proofs.YtkjoilgpmngndaaGreatW.aA Go.Proofs.YtkjoilgpmngndaaGreatW.aJ
attribute [local go_sem] Oper.semAt_some
set_option maxRecDepth 100000 in
set_option maxHeartbeats 40000000 in
theorem jT(w:World):Calls Tryz.prog 7 #[] w fun e w'=>e= .returned (.bool true)/\Below w.heap.size w w':=by
 go_enter Tryz.func7,Tryz.ntmps7
 go_wp2_with fail
 have HB:=aa.mk (ae (ae (Below.refl w.heap.size w) (.cells #[.int .i64 7] 3)) (.cells #[.int .i64 0,.int .i64 0,.int .i64 1,.int .i64 0,.int .i64 9,.int .i64 0,.int .i64 1,.int .i64 1,.int .i64 0,.int .i64 9] 105))
 have B0:=(aR.new w [.int .i64 7] 3).alloc (.cells #[.int .i64 0,.int .i64 0,.int .i64 1,.int .i64 0,.int .i64 9,.int .i64 0,.int .i64 1,.int .i64 1,.int .i64 0,.int .i64 9] 105)
 have B1:=aR.second w (.cells #[.int .i64 7] 3) [.int .i64 0,.int .i64 0,.int .i64 1,.int .i64 0,.int .i64 9,.int .i64 0,.int .i64 1,.int .i64 1,.int .i64 0,.int .i64 9] 105
 have HI:=aa.mk (show uX ((w.alloc (.cells #[.int .i64 7] 3)).alloc (.cells #[.int .i64 0,.int .i64 0,.int .i64 1,.int .i64 0,.int .i64 9,.int .i64 0,.int .i64 1,.int .i64 1,.int .i64 0,.int .i64 9] 105)) (some ⟨w.heap.size,0,none⟩) 1 [7] (some ⟨w.heap.size+1,0,none⟩) 2 caS none 0 [] from⟨sN (B0.cell 0),by decide,QS B1,by decide,Kd.O3 _ _,by decide,by decide,by decide,by decide⟩)
 generalize(w.alloc (.cells #[.int .i64 7] 3)).alloc (.cells #[.int .i64 0,.int .i64 0,.int .i64 1,.int .i64 0,.int .i64 9,.int .i64 0,.int .i64 1,.int .i64 1,.int .i64 0,.int .i64 9] 105)=w1 at HB HI ⊢
 clear B0 B1
 have hsz1:=HB.out.size
 refine(K9 (nw:=2) HI.out aaQ (fun _=>(4,3)) aaO (by rw[Tc];exact Ta)).mono ?_
 rintro e w2 ⟨⟨v1,v2,rfl,hr1,hr2⟩,hb2⟩
 rw[Tc] at hr1 hr2
 have hr2':(Kd.int .i64).R 3 w2 w1.heap.size (fun _=>True) v2 [4,3]:=hr2
 obtain⟨gs,cs,rfl,_⟩:=Kd.Bq hr1 (by decide)
 obtain⟨gd,cd,rfl,_⟩:=Kd.Bq hr2' (by decide)
 obtain⟨hls,_,hCs⟩:=Kd.iQ hr1
 obtain⟨hld,_,hCd⟩:=Kd.iQ hr2'
 have HS:=aa.mk hCs
 have HD:=aa.mk hCd
 replace HB:=aa.mk (HB.out.trans (hb2.mono HB.out.size))
 simp only[List.length_cons,List.length_nil,Nat.zero_add,Nat.reduceAdd] at hls hld HS HD ⊢
 clear hb2 hr1 hr2 hr2' hCs hCd HI hsz1
 go_wp2_with fail
 have hb3:=ae (ae (Below.refl w2.heap.size w2) (.cells #[.int .i64 1,.int .i64 2] 88)) (.cells #[.int .i64 0] 3)
 have B0:=(aR.new w2 [.int .i64 1,.int .i64 2] 88).alloc (.cells #[.int .i64 0] 3)
 have B1:=aR.second w2 (.cells #[.int .i64 1,.int .i64 2] 88) [.int .i64 0] 3
 have HM:=aa.mk (show Wk.IsMap ((w2.alloc (.cells #[.int .i64 1,.int .i64 2] 88)).alloc (.cells #[.int .i64 0] 3)) (some ⟨w2.heap.size,0,none⟩) 1 [⟨1,2⟩] none 0 [] from⟨Ui B0,by decide,Kd.O3 _ _,by decide,by decide,by decide⟩)
 have HL:=aa.mk (show(Kd.int .i64).C ((w2.alloc (.cells #[.int .i64 1,.int .i64 2] 88)).alloc (.cells #[.int .i64 0] 3)) (some ⟨w2.heap.size+1,0,none⟩) [(0:Int)].length [0] from sN (B1.cell 0))
 replace HB:=aa.mk (HB.out.trans (hb3.mono HB.out.size))
 replace HS:=aa.mk (Kd.aK HS.out hb3)
 replace HD:=aa.mk (Kd.aK HD.out hb3)
 clear hb3 B0 B1
 generalize w2.heap.size=g2 at HM HL ⊢
 generalize(w2.alloc (.cells #[.int .i64 1,.int .i64 2] 88)).alloc (.cells #[.int .i64 0] 3)=w3 at HB HS HD HM HL ⊢
 refine(Wk.NB [0] HL.out (by decide) (by decide) HM.out).mono ?_
 rintro e w4 ⟨⟨a1,n1,d1,a2,n2,d2,rfl,hn1⟩,hb4⟩
 rw[WS] at hn1 ⊢
 obtain rfl:=hn1 rfl rfl
 replace HB:=aa.mk (HB.out.trans (hb4.mono HB.out.size))
 replace HS:=aa.mk (Kd.aK HS.out hb4)
 replace HD:=aa.mk (Kd.aK HD.out hb4)
 clear hb4 HM HL hn1
 go_wp2_with fail
 have hb5:=ae (ae (ae (Below.refl w4.heap.size w4) (.cells #[.slice a1 1 d1,.slice a2 n2 d2] 80)) (.cells #[.int .i64 4,.int .i64 3] 3)) (.cells #[.slice (some ⟨w4.heap.size+1,0,none⟩) 2 2] 22)
 have B0:=((aR.new w4 [.slice a1 1 d1,.slice a2 n2 d2] 80).alloc (.cells #[.int .i64 4,.int .i64 3] 3)).alloc (.cells #[.slice (some ⟨w4.heap.size+1,0,none⟩) 2 2] 22)
 have B1:=(aR.second w4 (.cells #[.slice a1 1 d1,.slice a2 n2 d2] 80) [.int .i64 4,.int .i64 3] 3).alloc (.cells #[.slice (some ⟨w4.heap.size+1,0,none⟩) 2 2] 22)
 have B2:=aR.second (w4.alloc (.cells #[.slice a1 1 d1,.slice a2 n2 d2] 80)) (.cells #[.int .i64 4,.int .i64 3] 3) [.slice (some ⟨w4.heap.size+1,0,none⟩) 2 2] 22
 rw[World.size_alloc] at B2
 have HT:=aa.mk (show QZ (((w4.alloc (.cells #[.slice a1 1 d1,.slice a2 n2 d2] 80)).alloc (.cells #[.int .i64 4,.int .i64 3] 3)).alloc (.cells #[.slice (some ⟨w4.heap.size+1,0,none⟩) 2 2] 22)) (some ⟨w4.heap.size+1+1,0,none⟩) 1 [[4,3]] none 0 [] from⟨XB (xs:=[4,3]) B2 rfl (by decide) (afF B1),by decide,Kd.O3 _ _,by decide⟩)
 have BW:=aa.mk B0
 replace HB:=aa.mk (HB.out.trans (hb5.mono HB.out.size))
 replace HS:=aa.mk (Kd.aK HS.out hb5)
 replace HD:=aa.mk (Kd.aK HD.out hb5)
 clear hb5 B0 B1 B2
 generalize((w4.alloc (.cells #[.slice a1 1 d1,.slice a2 n2 d2] 80)).alloc (.cells #[.int .i64 4,.int .i64 3] 3)).alloc (.cells #[.slice (some ⟨w4.heap.size+1,0,none⟩) 2 2] 22)=w5 at HB HS HD HT BW ⊢
 generalize w4.heap.size=g4 at HT BW ⊢
 have HWA:=aa.mk (Nz 5 w5 HT.out aaP)
 rw[show [[(4:Int),3]].length=1 from rfl,WR] at HWA
 refine HWA.out.mono ?_
 rintro e w6 ⟨rfl,hb6⟩
 replace HB:=aa.mk (HB.out.trans (hb6.mono HB.out.size))
 replace HS:=aa.mk (Kd.aK HS.out hb6)
 replace HD:=aa.mk (Kd.aK HD.out hb6)
 replace BW:=aa.mk (BW.out.below hb6)
 clear hb6 HT HWA
 obtain⟨sa,e,h0⟩:=Kd.dz HS.out 0 (by decide) (by decide)
 cases e
 obtain⟨ad,e,h1⟩:=Kd.dz HD.out 1 (by decide) (by decide)
 cases e
 replace h0:w6.cell? ⟨gs,0,none⟩=some (.int .i64 4):=h0
 replace h1:w6.cell? ⟨gd,1,none⟩=some (.int .i64 3):=h1
 have h2:=BW.out.cell 0
 simp only[List.getElem?_cons_zero] at h2
 go_wp2_with fail
 go_ret
 exact⟨rfl,HB.out⟩
end Go.Proofs.YtkjoilgpmngndaaGreat
