import Derived.Test.YtkjoilgpmngndaaGreatQ38
set_option linter.all false
namespace Go.Proofs.YtkjoilgpmngndaaGreat
open Go.RowKit Go.Shelf Go.Proofs.YtkjoilgpmngndaaGreat.av Go.Proofs.YtkjoilgpmngndaaGreatW.aA Go.Proofs.YtkjoilgpmngndaaGreatW.aJ Go.Proofs.YtkjoilgpmngndaaGreatW.dn
theorem Qz(old:List Int)(nw:Int)(ss:List bH)(js:List bS):(lJ old nw ss js).1.length<=1000:=by
 unfold lJ
 by_cases h:gU old nw ss js=0
 .rw[if_pos h]
  obtain⟨_,_,_,_,_,_,_,Kl,_⟩:=kI h
  show(jK (ku ss js nw.toNat)).length<=1000
  unfold jK ku
  rw[List.length_map]
  have:=List.length_filter_le (qP ss js) (List.range nw.toNat)
  rw[List.length_range] at this
  omega
 .rw[if_neg h]
  exact Nat.zero_le _
theorem Nn(old:List Int)(nw:Int)(ss:List bH)(js:List bS):(jP old nw ss js).1.length<=1000:=by
 unfold jP
 by_cases h:gY old nw ss js=0
 .rw[if_pos h]
  obtain⟨_,_,_,_,_,_,_,Kl,_⟩:=kI (yw h)
  show(jX old ss nw.toNat).length<=1000
  rw[xu]
  omega
 .rw[if_neg h]
  exact Nat.zero_le _
theorem Jg{ss jF:List bH}{js jG:List bS}{s t:Nat->Nat}(h:fU ss jF js jG s t)(old:List Int)(nw:Int):(eO old nw jF jG).2=(eO old nw ss js).2/\(eO old nw jF jG).1.length=(eO old nw ss js).1.length/\((eO old nw ss js).2=0->(eO old nw ss js).1.length=ss.length)/\((eO old nw ss js).2≠0->(eO old nw ss js).1.length=0)/\∀i,i<(eO old nw ss js).1.length->(eO old nw jF jG).1.getD i z52=(eO old nw ss js).1.getD (s i) z52:=by
 rw[h.zm]
 unfold eO
 by_cases hc:gY old nw ss js=0
 .rw[if_pos hc,if_pos hc]
  refine⟨rfl,?_,fun _=>mE old ss _,fun h0=>absurd rfl h0,fun i hi=>?_⟩
  .show((List.range ss.length).map _).length=(iL old ss ss.length).length
   rw[mE,List.length_map,List.length_range]
  .have hi':i<ss.length:=by rw[mE] at hi;exact hi
   have hs:=h.ren.um i hi'
   simp[iL,List.getD,hi',hs]
 .rw[if_neg hc,if_neg hc]
  exact⟨rfl,rfl,fun h0=>absurd h0 hc,fun _=>rfl,fun i hi=>absurd hi (Nat.not_lt_zero _)⟩
theorem rdR(xs:List sO)(i:Nat):dK xs (i:Int)=xs.getD i z52:=by simp[dK]
set_option maxRecDepth 100000 in
set_option maxHeartbeats 40000000 in
theorem aiL{w0 w:World}{old:List Int}{nw lo hi:Int}{ss jF:List bH}{js jG:List bS}{ps fr:List Int}{b18 b19:Nat}{Y0 Y2 Y3 Z0 Z2 Z3 Ap Af:Option Addr}{y0 y2 y3 z0 z2 z3 cp cf:Nat}{s t:Nat->Nat}(a:Act)(ha:a={tmps:=CE (.slice Ap ps.length cp) (a.tmps.getD 3 undef) (a.tmps.getD 4 undef) (.pointer (some ⟨w0.heap.size+1,0,none⟩)) (.int .i64 (fr.length:Int)) (.slice Af fr.length cf) (a.tmps.getD 11 undef) (a.tmps.getD 12 undef) (a.tmps.getD 14 undef) (.pointer (some ⟨b18,0,none⟩)) (.pointer (some ⟨b19,0,none⟩)) (a.tmps.getD 38 undef) (fun i=>a.tmps.getD i undef),defers:=[]})(L:LQ w0 w old nw lo hi ss jF js jG ps fr b18 b19 Y0 Y2 Y3 Z0 Z2 Z3 Ap Af y0 y2 y3 z0 z2 z3 cp cf)(hf:ky fr.length s fr)(hcf:fr.length<=cf)(hn:fr.length<=11)(hsl:ss.length=fr.length)(hsm:fU ss jF js jG s t):Code.wp Tryz.prog (jI 9) (mZ w0) a w:=by
 obtain⟨g1,g2,g3,g4,g5⟩:=Jg hsm old nw
 have HT:=aa.mk (show NA old nw ss jF js jG ps fr.length s from fun hp ms hm he=>hsm.truth old nw (by omega) (by omega) (fun i hi=>he i (by omega)))
 have HBE:=aa.mk (hsm.Nq old nw lo hi)
 have HS:=aa.mk (show ∀i,i<fr.length->s i<fr.length from fun i hi=>by have:=hsm.ren.um i (by omega);omega)
 have HN:=aa.mk hn
 have HF:=aa.mk hf
 obtain⟨⟨q1,e1⟩,hq1⟩:∃x,eO old nw ss js=x:=⟨_,rfl⟩
 obtain⟨⟨q2,e1'⟩,hq2⟩:∃x,eO old nw jF jG=x:=⟨_,rfl⟩
 rw[hq1,hq2] at g1 g2 g5
 rw[hq1] at g3 g4
 have g1':e1'=e1:=g1
 subst g1'
 have HP:=aa.mk (Sd (n:=fr.length) (by omega) hf (xs:=q1) (ys:=q2) HS.out (by
  by_cases h0:e1'=0
  .have h1:q1.length=ss.length:=g3 h0
   have h2:q2.length=q1.length:=g2
   refine .inl ⟨by omega,by omega,fun i hi=>?_⟩
   rw[rdR,rdR]
   exact g5 i (by show i<q1.length;omega)
  .have h1:q1.length=0:=g4 h0
   have h2:q2.length=q1.length:=g2
   exact .inr ⟨List.length_eq_zero_iff.1 h1,List.length_eq_zero_iff.1 (by omega)⟩))
 have HS1:=aa.mk hq1
 have HS2:=aa.mk hq2
 obtain⟨⟨q3,e3⟩,hq3⟩:∃x,jP old nw ss js=x:=⟨_,rfl⟩
 have HB1:=aa.mk hq3
 have HB2:=aa.mk (hq3▸hsm.bounds old nw:jP old nw jF jG=(q3,e3))
 have HL3:=aa.mk (show q3.length<=1000 by
  have h1:(jP old nw ss js).1=q3:=by rw[hq3]
  rw[<- h1]
  exact Nn old nw ss js)
 obtain⟨⟨q5,e5⟩,hq5⟩:∃x,lJ old nw ss js=x:=⟨_,rfl⟩
 have HA1:=aa.mk hq5
 have HA2:=aa.mk (hq5▸hsm.apart old nw:lJ old nw jF jG=(q5,e5))
 have HL5:=aa.mk (show q5.length<=1000 by
  have h1:(lJ old nw ss js).1=q5:=by rw[hq5]
  rw[<- h1]
  exact Qz old nw ss js)
 have L0:=aa.mk L
 clear L hf hn hsl hsm g1 g2 g3 g4 g5 hq1 hq2 hq3 hq5
 obtain⟨u,hu⟩:∃u:Nat->Value,a={tmps:=CE (.slice Ap ps.length cp) (u 3) (u 4) (.pointer (some ⟨w0.heap.size+1,0,none⟩)) (.int .i64 (fr.length:Int)) (.slice Af fr.length cf) (u 11) (u 12) (u 14) (.pointer (some ⟨b18,0,none⟩)) (.pointer (some ⟨b19,0,none⟩)) (u 38) u,defers:=[]}:=⟨fun i=>a.tmps.getD i undef,ha⟩
 clear ha
 subst hu
 unfold CE
 refine dZ 9 (by kernel_rfl) (fun K hK=>?_)
 unfold jI
 conv=>arg 2;whnf
 unfold mZ
 have h10:=L0.out.b18.cell 0
 have h11:=L0.out.b18.cell 1
 have h12:=L0.out.b18.cell 2
 have mg:=L0.out.b18.cell 3
 simp only[List.getElem?_cons_zero,List.getElem?_cons_succ] at h10 h11 h12 mg
 go_wp2_with fail
 refine(tV (nw:=nw) L0.out.i18).mono ?_
 rintro e w1 ⟨⟨v1,rfl,wX⟩,hbx⟩
 rw[HS1.out] at wX ⊢
 dsimp only at wX ⊢
 obtain⟨A1,c1,rfl,Kn,Kr⟩:=Kd.dU wX
 have L1:=aa.mk (L0.out.later hbx)
 have C1:=aa.mk Kr
 have D1:=aa.mk Kn
 clear wX Kr Kn hbx L0 h10 h11 h12 mg
 go_wp2_with fail
 refine dZ 10 (by kernel_rfl) (fun K10 aqw=>?_)
 unfold jI
 conv=>arg 2;whnf
 unfold mZ
 have h20:=L1.out.b19.cell 0
 have h21:=L1.out.b19.cell 1
 have h22:=L1.out.b19.cell 2
 have h23:=L1.out.b19.cell 3
 simp only[List.getElem?_cons_zero,List.getElem?_cons_succ] at h20 h21 h22 h23
 go_wp2_with fail
 refine(tV (nw:=nw) L1.out.i19).mono ?_
 rintro e w2 ⟨⟨v2,rfl,wX⟩,hbx⟩
 rw[HS2.out] at wX ⊢
 dsimp only at wX ⊢
 obtain⟨A2,c2,rfl,Kn,Kr⟩:=Kd.dU wX
 have L2:=aa.mk (L1.out.later hbx)
 replace C1:=aa.mk (Kd.aK C1.out hbx)
 have C2:=aa.mk Kr
 have D2:=aa.mk Kn
 clear wX Kr Kn hbx L1 h20 h21 h22 h23
 go_wp2_with fail
 refine dZ 11 (by kernel_rfl) (fun K11 aqv=>?_)
 unfold jI
 conv=>arg 2;whnf
 unfold mZ
 have kQ:=L2.out.b18.cell 0
 have h31:=L2.out.b18.cell 1
 have h32:=L2.out.b18.cell 2
 have CB:=L2.out.b18.cell 3
 simp only[List.getElem?_cons_zero,List.getElem?_cons_succ] at kQ h31 h32 CB
 go_wp2_with fail
 refine(xH (nw:=nw) L2.out.i18).mono ?_
 rintro e w3 ⟨⟨v3,rfl,wX⟩,hbx⟩
 rw[HB1.out] at wX ⊢
 dsimp only at wX ⊢
 obtain⟨A3,c3,rfl,Kn,Kr⟩:=Kd.dU wX
 have L3:=aa.mk (L2.out.later hbx)
 replace C1:=aa.mk (Kd.aK C1.out hbx)
 replace C2:=aa.mk (Kd.aK C2.out hbx)
 have C3:=aa.mk Kr
 have D3:=aa.mk Kn
 clear wX Kr Kn hbx L2 kQ h31 h32 CB
 go_wp2_with fail
 refine dZ 12 (by kernel_rfl) (fun K12 aqu=>?_)
 unfold jI
 conv=>arg 2;whnf
 unfold mZ
 have pW:=L3.out.b19.cell 0
 have pV:=L3.out.b19.cell 1
 have BU:=L3.out.b19.cell 2
 have h43:=L3.out.b19.cell 3
 simp only[List.getElem?_cons_zero,List.getElem?_cons_succ] at pW pV BU h43
 go_wp2_with fail
 refine(xH (nw:=nw) L3.out.i19).mono ?_
 rintro e w4 ⟨⟨v4,rfl,wX⟩,hbx⟩
 rw[HB2.out] at wX ⊢
 dsimp only at wX ⊢
 obtain⟨A4,c4,rfl,Kn,Kr⟩:=Kd.dU wX
 have L4:=aa.mk (L3.out.later hbx)
 replace C1:=aa.mk (Kd.aK C1.out hbx)
 replace C2:=aa.mk (Kd.aK C2.out hbx)
 replace C3:=aa.mk (Kd.aK C3.out hbx)
 have C4:=aa.mk Kr
 have D4:=aa.mk Kn
 clear wX Kr Kn hbx L3 pW pV BU h43
 go_wp2_with fail
 refine dZ 13 (by kernel_rfl) (fun K13 aqt=>?_)
 unfold jI
 conv=>arg 2;whnf
 unfold mZ
 have h50:=L4.out.b18.cell 0
 have Di:=L4.out.b18.cell 1
 have h52:=L4.out.b18.cell 2
 have h53:=L4.out.b18.cell 3
 simp only[List.getElem?_cons_zero,List.getElem?_cons_succ] at h50 Di h52 h53
 go_wp2_with fail
 refine(yY (nw:=nw) L4.out.i18).mono ?_
 rintro e w5 ⟨⟨v5,rfl,wX⟩,hbx⟩
 rw[HA1.out] at wX ⊢
 dsimp only at wX ⊢
 obtain⟨A5,c5,rfl,Kn,Kr⟩:=Kd.dU wX
 have L5:=aa.mk (L4.out.later hbx)
 replace C1:=aa.mk (Kd.aK C1.out hbx)
 replace C2:=aa.mk (Kd.aK C2.out hbx)
 replace C3:=aa.mk (Kd.aK C3.out hbx)
 replace C4:=aa.mk (Kd.aK C4.out hbx)
 have C5:=aa.mk Kr
 have D5:=aa.mk Kn
 clear wX Kr Kn hbx L4 h50 Di h52 h53
 go_wp2_with fail
 refine dZ 14 (by kernel_rfl) (fun K14 aqs=>?_)
 unfold jI
 conv=>arg 2;whnf
 unfold mZ
 have zz:=L5.out.b19.cell 0
 have Lh:=L5.out.b19.cell 1
 have h62:=L5.out.b19.cell 2
 have h63:=L5.out.b19.cell 3
 simp only[List.getElem?_cons_zero,List.getElem?_cons_succ] at zz Lh h62 h63
 go_wp2_with fail
 refine(yY (nw:=nw) L5.out.i19).mono ?_
 rintro e w6 ⟨⟨v6,rfl,wX⟩,hbx⟩
 rw[HA2.out] at wX ⊢
 dsimp only at wX ⊢
 obtain⟨A6,c6,rfl,Kn,Kr⟩:=Kd.dU wX
 have L6:=aa.mk (L5.out.later hbx)
 replace C1:=aa.mk (Kd.aK C1.out hbx)
 replace C2:=aa.mk (Kd.aK C2.out hbx)
 replace C3:=aa.mk (Kd.aK C3.out hbx)
 replace C4:=aa.mk (Kd.aK C4.out hbx)
 replace C5:=aa.mk (Kd.aK C5.out hbx)
 have C6:=aa.mk Kr
 have D6:=aa.mk Kn
 clear wX Kr Kn hbx L5 zz Lh h62 h63
 go_wp2_with fail
 refine dZ 15 (by kernel_rfl) (fun K15 aqr=>?_)
 unfold jI
 conv=>arg 2;whnf
 unfold mZ
 go_wp2_with fail
 obtain⟨k1,hk1⟩:=HP.out
 have qU:=aa.mk hk1
 clear hk1
 refine(bu.calls k1 _ _ q1 _ _ q2 _ _ fr true _ C1.out D1.out C2.out D2.out L6.out.kf hcf qU.out).mono ?_
 rintro e w7 ⟨rfl,hbx⟩
 have L7:=aa.mk (L6.out.later hbx.below)
 have C3_:=aa.mk (Kd.aK C3.out hbx.below)
 have C4_:=aa.mk (Kd.aK C4.out hbx.below)
 have C5_:=aa.mk (Kd.aK C5.out hbx.below)
 have C6_:=aa.mk (Kd.aK C6.out hbx.below)
 clear hbx L6 C1 C2 C3 C4 C5 C6
 go_wp2_with fail
 refine(bX.calls (q3.length+1) _ _ q3 _ _ q3 true _ C3_.out D3.out C4_.out D4.out (Jo q3 HL3.out)).mono ?_
 rintro e w8 ⟨rfl,hbx⟩
 have L8:=aa.mk (L7.out.later hbx.below)
 have C5:=aa.mk (Kd.aK C5_.out hbx.below)
 have C6:=aa.mk (Kd.aK C6_.out hbx.below)
 clear hbx L7 C3_ C4_ C5_ C6_
 go_wp2_with fail
 refine(bE.calls (q5.length+1) _ _ q5 _ _ q5 true _ C5.out D5.out C6.out D6.out (Pv q5 HL5.out)).mono ?_
 rintro e w9 ⟨rfl,hbx⟩
 have L9:=aa.mk (L8.out.later hbx.below)
 clear hbx L8 C5 C6
 go_wp2_with fail
 refine acM _ ?_ L9.out HF.out HS.out HN.out HT.out HBE.out
 rfl
end Go.Proofs.YtkjoilgpmngndaaGreat
