import Derived.Test.YtdekaocdmjndaaaGreatQ31
set_option maxHeartbeats 40000000
set_option maxRecDepth 100000
set_option linter.all false
namespace Go.Proofs.YtdekaocdmjndaaaGreat.Wk
open Go.RowKit Go.Shelf ah YtdekaocdmjndaaaGreatW.aj YtdekaocdmjndaaaGreatW.aH
def setAt(l:List Int)(k:Nat):Nat:=(l.take k).foldl (λs n=>s|||2^n.toNat) 0
theorem Ga(l:List Int):setAt l 0=0:=rfl
theorem y7(l:List Int)(k:Nat)(h:k<l.length):setAt l (k+1)=setAt l k|||2^(l.getD k 0).toNat:=by
 unfold setAt
 rw[List.take_succ_eq_append_getElem h,List.foldl_append]
 simp[List.getD,h]
theorem uo{l:List Int}{N:Nat}(hN:N<=8)(hl:∀x ∈ l,0<=x/\x<N):∀k,k<=l.length->∀p,(setAt l k).testBit p=true->p<N
 |0,_,p,h=>by simp[Ga] at h
 |k+1,hk,p,h=>by
  rw[y7 l k (by omega),Nat.testBit_or] at h
  rw[Bool.or_eq_true] at h
  rcases h with h|h
  .exact uo hN hl k (by omega) p h
  .have hm:=hl (l.getD k 0) (by
    have:l.getD k 0=l[k]:=by simp[List.getD,show k<l.length by omega]
    rw[this];exact List.getElem_mem _)
   rw[Nat.testBit_two_pow] at h
   have:=of_decide_eq_true h
   omega
theorem D7{l:List Int}{N:Nat}(hN:N<=8)(hl:∀x ∈ l,0<=x/\x<N)(k:Nat)(hk:k<=l.length):setAt l k<256:=by
 have:setAt l k<2^8:=Nat.lt_pow_two_of_testBit _ (λi hi=>by
  cases h:(setAt l k).testBit i
  .rfl
  .have:=uo hN hl k hk i h
   omega)
 simpa using this
theorem UL:∀a:Fin 256,∀n:Fin 8,Go.bits .or .i64 (a.1:Int) ((2^n.1:Nat):Int)=((a.1|||2^n.1:Nat):Int):=by decide +kernel
theorem XY{a n:Nat}(ha:a<256)(hn:n<8):Go.bits .or .i64 (a:Int) ((2^n:Nat):Int)=((a|||2^n:Nat):Int):=UL ⟨a,ha⟩ ⟨n,hn⟩
def xx(W:List fG)(R:List dJ)(l:List Int):Int×Int:=
 if iZ W R=0 then(if(wQ l&&l.all (j3 W.length))=true then(if 1048576<=vG (tm R W.length) W (setAt l l.length) then(0,7) else(vG (tm R W.length) W (setAt l l.length),0)) else(0,2)) else(0,iZ W R)
theorem Ii{A0:Option Addr}{c0:Nat}{Wk:List fG}{A1:Option Addr}{c1:Nat}{R:List dJ}{w:World}(l:List Int){Al:Option Addr}{cl:Nat}(hl:Kd.C (Kd.int .i64) w Al l.length l)(hcl:l.length<=cl)(hll:l.length<1000000)(h:IsMap w A0 c0 Wk A1 c1 R):
  Calls Tryz.prog 57 #[.agg #[.slice A0 Wk.length c0,.slice A1 R.length c1],.slice Al l.length cl] w λe w'=>(∃a1 n1 d1 a2 n2 d2,e= .returned (.tuple #[.agg #[.slice a1 n1 d1,.slice a2 n2 d2],.int .i64 (xx Wk R l).1,.int .i64 (xx Wk R l).2])/\((xx Wk R l).2=0->Wk.length=1->n1=1))/\Below w.heap.size w w':=by
 have H:=aa.mk h
 have HL:=aa.mk hl
 clear h hl
 go_enter Tryz.func57,Tryz.ntmps57
 go_wp2_with fail
 have hb0:=ae (ae (Below.refl w.heap.size w) (.cells #[.slice A0 Wk.length c0,.slice A1 R.length c1] 155)) (.cells #[.slice none 0 0,.slice none 0 0] 148)
 have B2:=(aV.new w [.slice A0 Wk.length c0,.slice A1 R.length c1] 155).alloc (.cells #[.slice none 0 0,.slice none 0 0] 148)
 have B4:=aV.new (w.alloc (.cells #[.slice A0 Wk.length c0,.slice A1 R.length c1] 155)) [.slice none 0 0,.slice none 0 0] 148
 have HB0:=aa.mk hb0
 refine(nP (H.out.below hb0)).mono ?_
 rintro e w1 ⟨rfl,hb1⟩
 have Cm:=aa.mk (B2.below hb1)
 have WX:=aa.mk (show aV w1 (w.heap.size+1) [.slice none 0 0,.slice none 0 0] 148 by simpa using B4.below hb1)
 have HB1:=aa.mk (hb0.trans (hb1.mono (by simp;omega)))
 have hs1:w.heap.size+2<=w1.heap.size:=by simpa using hb1.size
 have h20:=Cm.out.cell 0
 have h21:=Cm.out.cell 1
 have xm:=WX.out.cell 0
 have xk:=WX.out.cell 1
 have yl:=WX.out.frozen 0
 have yj:=WX.out.frozen 1
 simp only[dZ,dY] at h20 h21 xm xk
 clear hb0 hb1 B2 B4 HB0
 by_cases hc:iZ Wk R=0
 .have hcb:(iZ Wk R !=0)=false:=by simp[hc]
  obtain⟨hN0,hN,_,hW,hR,_⟩:=V5 hc
  have JF:=aa.mk (show xx Wk R l=((if(wQ l&&l.all (j3 Wk.length))=true then(if 1048576<=vG (tm R Wk.length) Wk (setAt l l.length) then(0,7) else(vG (tm R Wk.length) Wk (setAt l l.length),0)) else(0,2)):Int×Int) by unfold xx;rw[if_pos hc])
  rw[hc]
  clear hc
  go_wp2_with fail
  refine(dP.calls (l.length+1) Al cl l (wQ l) w1 (Kd.aC HL.out HB1.out) hcl (MO l hll)).mono ?_
  rintro e w2 ⟨rfl,hd2⟩
  have hb2:=hd2.below
  have HB2:=aa.mk (HB1.out.trans (hb2.mono HB1.out.size))
  have Uj:=aa.mk (Cm.out.below hb2)
  have Me:=aa.mk (WX.out.below hb2)
  have hs2:=Nat.le_trans hs1 hb2.size
  clear hb2 hd2 Cm WX h20 h21 xm xk yl yj HB1
  have h20:=Uj.out.cell 0
  have h21:=Uj.out.cell 1
  have xm:=Me.out.cell 0
  have xk:=Me.out.cell 1
  have yl:=Me.out.frozen 0
  have yj:=Me.out.frozen 1
  simp only[dZ,dY] at h20 h21 xm xk
  cases hrs:wQ l
  .rw[hrs,Bool.false_and,if_neg (by simp)] at JF
   go_wp2_with fail
   refine bodyPost_ret (lY rfl _ _ (w.heap.size+1) 148 #[.slice none 0 0,.slice none 0 0] (0,0) _ rfl (Me.out.set2 _ _) Tryz.underlying148 rfl (by kernel_rfl)) rfl ?_
   rw[JF.out]
   exact⟨⟨_,_,_,_,_,_,rfl,λh=>absurd h (by decide)⟩,(HB2.out.setCell (p:=⟨w.heap.size+1,0,none⟩) (by simp) _).setCell (p:=⟨w.heap.size+1,1,none⟩) (by simp) _⟩
  .rw[hrs,Bool.true_and] at JF
   clear hrs
   go_wp2_with fail
   refine(Dy 135 #[.agg #[.slice A0 Wk.length c0,.slice A1 R.length c1]] #[] (enters Tryz.func135 (by kernel_rfl) rfl) (j3 Wk.length) Al cl l _ (Kd.aC HL.out HB2.out) (by omega) ?_).mono ?_
   .intro W x hW
    exact qZ x (H.out.below (HB2.out.trans (hW.mono HB2.out.size)))
   rintro e w3 ⟨rfl,hb3⟩
   have HB3:=aa.mk (HB2.out.trans (hb3.mono HB2.out.size))
   have WY:=aa.mk (Uj.out.below hb3)
   have Mo:=aa.mk (Me.out.below hb3)
   have hs3:=Nat.le_trans hs2 hb3.size
   clear hb3 Uj Me h20 h21 xm xk yl yj HB2 hs2 hs1
   have h20:=WY.out.cell 0
   have h21:=WY.out.cell 1
   have xm:=Mo.out.cell 0
   have xk:=Mo.out.cell 1
   have yl:=Mo.out.frozen 0
   have yj:=Mo.out.frozen 1
   simp only[dZ,dY] at h20 h21 xm xk
   cases hal:l.all (j3 Wk.length)
   .rw[hal,if_neg (by simp)] at JF
    go_wp2_with fail
    refine bodyPost_ret (lY rfl _ _ (w.heap.size+1) 148 #[.slice none 0 0,.slice none 0 0] (0,0) _ rfl (Mo.out.set2 _ _) Tryz.underlying148 rfl (by kernel_rfl)) rfl ?_
    rw[JF.out]
    exact⟨⟨_,_,_,_,_,_,rfl,λh=>absurd h (by decide)⟩,(HB3.out.setCell (p:=⟨w.heap.size+1,0,none⟩) (by simp) _).setCell (p:=⟨w.heap.size+1,1,none⟩) (by simp) _⟩
   .rw[hal,if_pos rfl] at JF
    have HP:=aa.mk (show ∀x ∈ l,0<=x/\x<Wk.length from λx hx=>wT (List.all_eq_true.1 hal x hx))
    clear hal h20 h21 xm xk yl yj
    go_wp2_with fail
    go_loopw [9,33] (λv9 v33 wr=>∃k:Nat,k<=l.length/\v33= .int .i64 k/\v9= .int .i64 (setAt l k:Nat)/\wr=w3) (λ_ v33 _=>l.length-(intOf v33).toNat)
    case atStart=>exact⟨0,Nat.zero_le _,rfl,rfl,rfl⟩
    case round=>
     obtain⟨k,hk,rfl,rfl,rfl⟩:=hrel
     by_cases hkl:k<l.length
     .obtain⟨ad,e,hx⟩:=Kd.gu (Kd.aC HL.out HB3.out) (k:Int) (by omega) (by omega)
      cases e
      simp only[Int.toNat_natCast] at hx
      have hxm:=HP.out (rd l (k:Int)) (by
       have e:rd l (k:Int)=l[k]:=by simp[rd,List.getD,hkl]
       rw[e];exact List.getElem_mem hkl)
      have hst:=y7 l k hkl
      rw[show l.getD k 0=rd l (k:Int) by simp[rd]] at hst
      have hlt:=D7 hN HP.out k hk
      obtain⟨x,hxx⟩:∃x,rd l (k:Int)=x:=⟨_,rfl⟩
      rw[hxx] at hx hxm hst
      obtain⟨n,rfl⟩:∃n:Nat,x=n:=⟨x.toNat,by omega⟩
      simp only[Int.toNat_natCast] at hst
      have FV:n<8:=by omega
      have ho1:=(UM FV).1
      have hor:=XY hlt FV
      rw[show((2^n:Nat):Int)=(2:Int)^n by simp] at hor
      have HOR:=aa.mk hor
      have hnp:(0:Int)<=n:=by omega
      have HST:=aa.mk hst
      obtain⟨sk,hsk⟩:∃s,setAt l k=s:=⟨_,rfl⟩
      rw[hsk] at hor HST HOR
      rw[hsk]
      clear hst hxx hsk hlt
      go_wp2_with fail
      go_roundw
      case rel=>exact⟨k+1,by omega,by go_num,by rw[HST.out],trivial⟩
      case measure=>simp[intOf];omega
     .obtain rfl:k=l.length:=by omega
      have h20:=WY.out.cell 0
      have h21:=WY.out.cell 1
      simp only[dZ,dY] at h20 h21
      go_wp2_with fail
      refine(Fu (H.out.below HB3.out) hN hR).mono ?_
      rintro e w4 ⟨ga,mb,rfl,hga,hA4,hb4⟩
      have Xy:=aa.mk hA4
      have pY:=aa.mk (HB3.out.trans (hb4.mono HB3.out.size))
      have B44:=aa.mk (Mo.out.below hb4)
      have hs4:=Nat.le_trans hs3 hb4.size
      have hlt:=D7 hN HP.out l.length (Nat.le_refl _)
      have HPS:=aa.mk (show ∀p ∈ places (setAt l l.length),p<Wk.length from λp hp=>uo hN HP.out l.length (Nat.le_refl _) p (lF.1 hp).2)
      obtain⟨s,hs⟩:∃s,setAt l l.length=s:=⟨_,rfl⟩
      rw[hs] at JF HPS hlt ⊢
      clear hs hA4 hb4 h20 h21 Mo
      go_wp2_with fail
      refine(AU (yT hR) hW s hlt HPS.out Xy.out).mono ?_
      rintro e w5 ⟨rfl,hA5,Mi⟩
      have hlo:=Xy.out.lo
      have hgt:=Xy.out.gt
      have hmb:=Xy.out.jO.memo.lt
      have ak1:=Xy.out.jO.jO.lt
      have hw3:=HB3.out.size
      have wM:=aa.mk (pY.out.trans ⟨Mi.os,Mi.tape,Mi.output,Mi.size,λi hi=>Mi.block i (by omega) (by omega)⟩)
      have Md:=aa.mk (B44.out.move (Mi.block (w.heap.size+1) (by omega) (by omega)))
      have HA5:=aa.mk hA5
      have hs5:=Nat.le_trans hs4 Mi.size
      have hws:=oL hW s HPS.out (places s).length (Nat.le_refl _)
      have HLE:=aa.mk (show(rest (tm R Wk.length) 0 s).1<=vG (tm R Wk.length) Wk s by unfold vG;omega)
      obtain⟨lg,hlg⟩:∃x,vG (tm R Wk.length) Wk s=x:=⟨_,rfl⟩
      rw[hlg] at JF HLE
      rw[hlg]
      have h50:=Md.out.cell 0
      have Tc:=Md.out.cell 1
      have afh:=Md.out.frozen 0
      have afg:=Md.out.frozen 1
      simp only[dZ,dY] at h50 Tc
      clear hlg hws hA5 Mi Xy pY B44
      by_cases ET:1048576<=lg
      .have Q7:decide (1048576<=lg)=true:=by simpa using ET
       rw[if_pos ET] at JF
       go_wp2_with fail
       refine bodyPost_ret (lY rfl _ _ (w.heap.size+1) 148 #[.slice none 0 0,.slice none 0 0] (0,0) _ rfl (Md.out.set2 _ _) Tryz.underlying148 rfl (by kernel_rfl)) rfl ?_
       rw[JF.out]
       exact⟨⟨_,_,_,_,_,_,rfl,λh=>absurd h (by decide)⟩,(wM.out.setCell (p:=⟨w.heap.size+1,0,none⟩) (by simp) _).setCell (p:=⟨w.heap.size+1,1,none⟩) (by simp) _⟩
      .have Q7:decide (1048576<=lg)=false:=by simpa using ET
       rw[if_neg ET] at JF
       go_wp2_with fail
       refine(F7 hN hN0 (yT hR) (Mt hR) s hlt HPS.out (by have:=HLE.out;omega) HA5.out).mono ?_
       rintro e w6 ⟨⟨a1,n1,d1,a2,n2,d2,rfl,hn1⟩,hA6,Ta⟩
       have HN1:=aa.mk hn1
       clear hn1
       have akY:=HA5.out.gt
       have P7:=aa.mk (wM.out.trans ⟨Ta.os,Ta.tape,Ta.output,Ta.size,λi hi=>Ta.block i (by omega) (by omega)⟩)
       have B46:=aa.mk (Md.out.move (Ta.block (w.heap.size+1) (by omega) (by omega)))
       clear h50 Tc afh afg Md hA6 HA5 wM
       have hs6:=Nat.le_trans hs5 Ta.size
       clear Ta
       have Bd:=B46.out.cell 0
       have KX:=B46.out.cell 1
       have Vw:=B46.out.frozen 0
       have Vv:=B46.out.frozen 1
       simp only[dZ,dY] at Bd KX
       go_wp2_with fail
       refine bodyPost_ret (lY rfl _ _ (w.heap.size+1) 148 #[.slice a1 n1 d1,.slice a2 n2 d2] (0,0) _ rfl (B46.out.set2 _ _) Tryz.underlying148 rfl (by kernel_rfl)) rfl ?_
       rw[JF.out]
       exact⟨⟨_,_,_,_,_,_,rfl,λ_=>HN1.out⟩,(P7.out.setCell (p:=⟨w.heap.size+1,0,none⟩) (by simp) _).setCell (p:=⟨w.heap.size+1,1,none⟩) (by simp) _⟩
 .have hcb:(iZ Wk R !=0)=true:=by simp[hc]
  have JF:=aa.mk (show xx Wk R l=(0,iZ Wk R) by unfold xx;rw[if_neg hc])
  go_wp2_with fail
  refine bodyPost_ret (lY rfl _ _ (w.heap.size+1) 148 #[.slice none 0 0,.slice none 0 0] (0,0) _ rfl (WX.out.set2 _ _) Tryz.underlying148 rfl (by kernel_rfl)) rfl ?_
  rw[JF.out]
  exact⟨⟨_,_,_,_,_,_,rfl,λh=>absurd h hc⟩,(HB1.out.setCell (p:=⟨w.heap.size+1,0,none⟩) (by simp) _).setCell (p:=⟨w.heap.size+1,1,none⟩) (by simp) _⟩
end Go.Proofs.YtdekaocdmjndaaaGreat.Wk
namespace Go.Proofs.YtdekaocdmjndaaaGreat
open Go.RowKit Go.Shelf ah YtdekaocdmjndaaaGreatW.aj
set_option maxRecDepth 100000
def Xi:List eY:=[⟨0,0,1,⟨0,9⟩⟩,⟨0,1,1,⟨0,9⟩⟩]
theorem V8:nW [7] 2 Xi []=0:=by decide +kernel
theorem V6:Jt [7] Xi (λ_=>(4,3)):=by
 intro d hd
 have hd':d<1:=hd
 obtain rfl:d=0:=by omega
 exact⟨(0,⟨0,0,1,⟨0,9⟩⟩),(1,⟨0,1,1,⟨0,9⟩⟩),rfl,by decide,by decide,by decide,2,3,3,1,1,1,by constructor<;>decide⟩
theorem OI:jB Xi (λ_=>(4,3)) [(7:Int)].length=[4,3]:=by decide +kernel
theorem OH:Ju Xi 2 [4,3]:=by
 unfold Ju
 decide +kernel
theorem Rt:Wk.xx [⟨1,2⟩] [] [0]=(2,0):=by decide +kernel
theorem Rs:(fT 5 [[4,3]] [] 1 (λ_=>0)).1=3:=by decide +kernel
theorem V7:LC 5 [[4,3]] []:=by constructor<;>decide +kernel
theorem LY{w:World}{g:Nat}{t:TypeId}(h:aV w g [.int .i64 0,.int .i64 0,.int .i64 1,.int .i64 0,.int .i64 9,.int .i64 0,.int .i64 1,.int .i64 1,.int .i64 0,.int .i64 9] t):zu.C w (some ⟨g,0,none⟩) 2 Xi:=by
 refine⟨rfl,by decide,λ_=>⟨_,rfl,λj p hj=>?_⟩⟩
 match j,hj with
 |0,hj=>
  cases hj
  refine⟨_,rfl,I1 w _,λi u hu=>?_⟩
  match i,hu with
  |0,hu=>cases hu;exact h.cell 0
  |1,hu=>cases hu;exact h.cell 1
  |2,hu=>cases hu;exact h.cell 2
  |3,hu=>cases hu;exact h.cell 3
  |4,hu=>cases hu;exact h.cell 4
 |1,hj=>
  cases hj
  refine⟨_,rfl,I1 w _,λi u hu=>?_⟩
  match i,hu with
  |0,hu=>cases hu;exact h.cell 5
  |1,hu=>cases hu;exact h.cell 6
  |2,hu=>cases hu;exact h.cell 7
  |3,hu=>cases hu;exact h.cell 8
  |4,hu=>cases hu;exact h.cell 9
theorem PM{w:World}{g:Nat}{t:TypeId}(h:aV w g [.int .i64 1,.int .i64 2] t):AY.C w (some ⟨g,0,none⟩) 1 [⟨1,2⟩]:=by
 refine⟨rfl,by decide,λ_=>⟨_,rfl,λj p hj=>?_⟩⟩
 match j,hj with
 |0,hj=>
  cases hj
  refine⟨_,rfl,QE w _,λi u hu=>?_⟩
  match i,hu with
  |0,hu=>cases hu;exact h.cell 0
  |1,hu=>cases hu;exact h.cell 1
theorem aba{w:World}{g:Nat}{a b:Int}{t:TypeId}(h:aV w g [.int .i64 a,.int .i64 b] t):(Kd.int .i64).C w (some ⟨g,0,none⟩) 2 [a,b]:=by
 refine⟨rfl,by decide,λ_=>⟨_,rfl,λj p hj=>?_⟩⟩
 match j,hj with
 |0,hj=>
  cases hj
  refine⟨[.int .i64 a],rfl,rfl,λi u hu=>?_⟩
  match i,hu with
  |0,hu=>cases hu;exact h.cell 0
 |1,hj=>
  cases hj
  refine⟨[.int .i64 b],rfl,rfl,λi u hu=>?_⟩
  match i,hu with
  |0,hu=>cases hu;exact h.cell 1
theorem Sc{w:World}{g:Nat}{A:Option Addr}{n c:Nat}{xs:List Int}{t:TypeId}(h:aV w g [.slice A n c] t)(hn:xs.length=n)(hc:n<=c)(hx:(Kd.int .i64).C w A n xs):(Kd.slice 3 (Kd.int .i64)).C w (some ⟨g,0,none⟩) 1 [xs]:=by
 subst hn
 refine⟨rfl,by decide,λ_=>⟨_,rfl,λj p hj=>?_⟩⟩
 match j,hj with
 |0,hj=>
  cases hj
  refine⟨[.slice A xs.length c],rfl,⟨A,c,rfl,hc,hx⟩,λi u hu=>?_⟩
  match i,hu with
  |0,hu=>cases hu;exact h.cell 0
end Go.Proofs.YtdekaocdmjndaaaGreat
namespace Go.Proofs.YtdekaocdmjndaaaGreat
open Go.RowKit Go.Shelf ah YtdekaocdmjndaaaGreatW.aj YtdekaocdmjndaaaGreatW.aH
attribute [local go_sem] Oper.semAt_some
theorem mX(w:World):Calls Tryz.prog 9 #[] w λe w'=>e= .returned (.bool true)/\Below w.heap.size w w':=by
 go_enter Tryz.func9,Tryz.ntmps9
 go_wp2_with fail
 have HB:=aa.mk (ae (ae (Below.refl w.heap.size w) (.cells #[.int .i64 7] 3)) (.cells #[.int .i64 0,.int .i64 0,.int .i64 1,.int .i64 0,.int .i64 9,.int .i64 0,.int .i64 1,.int .i64 1,.int .i64 0,.int .i64 9] 142))
 have B0:=(aV.new w [.int .i64 7] 3).alloc (.cells #[.int .i64 0,.int .i64 0,.int .i64 1,.int .i64 0,.int .i64 9,.int .i64 0,.int .i64 1,.int .i64 1,.int .i64 0,.int .i64 9] 142)
 have B1:=aV.second w (.cells #[.int .i64 7] 3) [.int .i64 0,.int .i64 0,.int .i64 1,.int .i64 0,.int .i64 9,.int .i64 0,.int .i64 1,.int .i64 1,.int .i64 0,.int .i64 9] 142
 have HI:=aa.mk (show RS ((w.alloc (.cells #[.int .i64 7] 3)).alloc (.cells #[.int .i64 0,.int .i64 0,.int .i64 1,.int .i64 0,.int .i64 9,.int .i64 0,.int .i64 1,.int .i64 1,.int .i64 0,.int .i64 9] 142)) (some ⟨w.heap.size,0,none⟩) 1 [7] (some ⟨w.heap.size+1,0,none⟩) 2 Xi none 0 [] from⟨sK (B0.cell 0),by decide,LY B1,by decide,Kd.FT _ _,by decide,by decide,by decide,by decide⟩)
 generalize(w.alloc (.cells #[.int .i64 7] 3)).alloc (.cells #[.int .i64 0,.int .i64 0,.int .i64 1,.int .i64 0,.int .i64 9,.int .i64 0,.int .i64 1,.int .i64 1,.int .i64 0,.int .i64 9] 142)=w1 at HB HI ⊢
 clear B0 B1
 have hsz1:=HB.out.size
 refine(FR (nw:=2) HI.out V8 (λ_=>(4,3)) V6 (by rw[OI];exact OH)).mono ?_
 rintro e w2 ⟨⟨v1,v2,rfl,hr1,hr2⟩,hb2⟩
 rw[OI] at hr1 hr2
 have hr2':(Kd.int .i64).R 3 w2 w1.heap.size (λ_=>True) v2 [4,3]:=hr2
 obtain⟨gs,cs,rfl,_⟩:=Kd.zY hr1 (by decide)
 obtain⟨gd,cd,rfl,_⟩:=Kd.zY hr2' (by decide)
 obtain⟨hls,_,hCs⟩:=Kd.eZ hr1
 obtain⟨hld,_,hCd⟩:=Kd.eZ hr2'
 have HS:=aa.mk hCs
 have HD:=aa.mk hCd
 replace HB:=aa.mk (HB.out.trans (hb2.mono HB.out.size))
 simp only[List.length_cons,List.length_nil,Nat.zero_add,Nat.reduceAdd] at hls hld HS HD ⊢
 clear hb2 hr1 hr2 hr2' hCs hCd HI hsz1
 go_wp2_with fail
 have hb3:=ae (ae (Below.refl w2.heap.size w2) (.cells #[.int .i64 1,.int .i64 2] 151)) (.cells #[.int .i64 0] 3)
 have B0:=(aV.new w2 [.int .i64 1,.int .i64 2] 151).alloc (.cells #[.int .i64 0] 3)
 have B1:=aV.second w2 (.cells #[.int .i64 1,.int .i64 2] 151) [.int .i64 0] 3
 have HM:=aa.mk (show Wk.IsMap ((w2.alloc (.cells #[.int .i64 1,.int .i64 2] 151)).alloc (.cells #[.int .i64 0] 3)) (some ⟨w2.heap.size,0,none⟩) 1 [⟨1,2⟩] none 0 [] from⟨PM B0,by decide,Kd.FT _ _,by decide,by decide,by decide⟩)
 have HL:=aa.mk (show(Kd.int .i64).C ((w2.alloc (.cells #[.int .i64 1,.int .i64 2] 151)).alloc (.cells #[.int .i64 0] 3)) (some ⟨w2.heap.size+1,0,none⟩) [(0:Int)].length [0] from sK (B1.cell 0))
 replace HB:=aa.mk (HB.out.trans (hb3.mono HB.out.size))
 replace HS:=aa.mk (Kd.aC HS.out hb3)
 replace HD:=aa.mk (Kd.aC HD.out hb3)
 clear hb3 B0 B1
 generalize w2.heap.size=g2 at HM HL ⊢
 generalize(w2.alloc (.cells #[.int .i64 1,.int .i64 2] 151)).alloc (.cells #[.int .i64 0] 3)=w3 at HB HS HD HM HL ⊢
 refine(Wk.Ii [0] HL.out (by decide) (by decide) HM.out).mono ?_
 rintro e w4 ⟨⟨a1,n1,d1,a2,n2,d2,rfl,hn1⟩,hb4⟩
 rw[Rt] at hn1 ⊢
 obtain rfl:=hn1 rfl rfl
 replace HB:=aa.mk (HB.out.trans (hb4.mono HB.out.size))
 replace HS:=aa.mk (Kd.aC HS.out hb4)
 replace HD:=aa.mk (Kd.aC HD.out hb4)
 clear hb4 HM HL hn1
 go_wp2_with fail
 have hb5:=ae (ae (ae (Below.refl w4.heap.size w4) (.cells #[.slice a1 1 d1,.slice a2 n2 d2] 148)) (.cells #[.int .i64 4,.int .i64 3] 3)) (.cells #[.slice (some ⟨w4.heap.size+1,0,none⟩) 2 2] 30)
 have B0:=((aV.new w4 [.slice a1 1 d1,.slice a2 n2 d2] 148).alloc (.cells #[.int .i64 4,.int .i64 3] 3)).alloc (.cells #[.slice (some ⟨w4.heap.size+1,0,none⟩) 2 2] 30)
 have B1:=(aV.second w4 (.cells #[.slice a1 1 d1,.slice a2 n2 d2] 148) [.int .i64 4,.int .i64 3] 3).alloc (.cells #[.slice (some ⟨w4.heap.size+1,0,none⟩) 2 2] 30)
 have B2:=aV.second (w4.alloc (.cells #[.slice a1 1 d1,.slice a2 n2 d2] 148)) (.cells #[.int .i64 4,.int .i64 3] 3) [.slice (some ⟨w4.heap.size+1,0,none⟩) 2 2] 30
 rw[World.size_alloc] at B2
 have HT:=aa.mk (show Mk (((w4.alloc (.cells #[.slice a1 1 d1,.slice a2 n2 d2] 148)).alloc (.cells #[.int .i64 4,.int .i64 3] 3)).alloc (.cells #[.slice (some ⟨w4.heap.size+1,0,none⟩) 2 2] 30)) (some ⟨w4.heap.size+1+1,0,none⟩) 1 [[4,3]] none 0 [] from⟨Sc (xs:=[4,3]) B2 rfl (by decide) (aba B1),by decide,Kd.FT _ _,by decide⟩)
 have BW:=aa.mk B0
 replace HB:=aa.mk (HB.out.trans (hb5.mono HB.out.size))
 replace HS:=aa.mk (Kd.aC HS.out hb5)
 replace HD:=aa.mk (Kd.aC HD.out hb5)
 clear hb5 B0 B1 B2
 generalize((w4.alloc (.cells #[.slice a1 1 d1,.slice a2 n2 d2] 148)).alloc (.cells #[.int .i64 4,.int .i64 3] 3)).alloc (.cells #[.slice (some ⟨w4.heap.size+1,0,none⟩) 2 2] 30)=w5 at HB HS HD HT BW ⊢
 generalize w4.heap.size=g4 at HT BW ⊢
 have HWA:=aa.mk (Ih 5 w5 HT.out V7)
 rw[show [[(4:Int),3]].length=1 from rfl,Rs] at HWA
 refine HWA.out.mono ?_
 rintro e w6 ⟨rfl,hb6⟩
 replace HB:=aa.mk (HB.out.trans (hb6.mono HB.out.size))
 replace HS:=aa.mk (Kd.aC HS.out hb6)
 replace HD:=aa.mk (Kd.aC HD.out hb6)
 replace BW:=aa.mk (BW.out.below hb6)
 clear hb6 HT HWA
 obtain⟨sa,e,h0⟩:=Kd.gu HS.out 0 (by decide) (by decide)
 cases e
 obtain⟨ad,e,h1⟩:=Kd.gu HD.out 1 (by decide) (by decide)
 cases e
 replace h0:w6.cell? ⟨gs,0,none⟩=some (.int .i64 4):=h0
 replace h1:w6.cell? ⟨gd,1,none⟩=some (.int .i64 3):=h1
 have h2:=BW.out.cell 0
 simp only[List.getElem?_cons_zero] at h2
 go_wp2_with fail
 go_ret
 exact⟨rfl,HB.out⟩
end Go.Proofs.YtdekaocdmjndaaaGreat
