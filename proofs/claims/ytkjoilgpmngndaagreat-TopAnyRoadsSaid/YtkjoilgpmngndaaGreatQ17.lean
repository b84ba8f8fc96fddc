import Derived.Test.YtkjoilgpmngndaaGreatQ16
set_option maxHeartbeats 40000000
set_option maxRecDepth 100000
set_option linter.all false
namespace Go.Proofs.YtkjoilgpmngndaaGreat.Wk
open Go.RowKit Go.Shelf au YtkjoilgpmngndaaGreatW.aj YtkjoilgpmngndaaGreatW.aJ
def ex.T4:Bool×List (List Nat×List Nat):=(true,[([],[]),([0],[0]),([],[]),([2],[2]),([],[]),([3,4],[3,4]),([5],[5]),([1,6,5],[1,6]),([0,1,2,3,4,5,6,7],[]),([8,7,7,0,1,2,3,4,5,6,7],[7,8])])
def ex.B4:List Nat:=[0,1,0,4,0,28,60,127,255,511]
theorem ex.yI:dW .any (opsOf Tryz.f60 4)=ex.T4:=by kernel_rfl
theorem ex.rC:bJ ex.T4.2 ex.B4=true:=by kernel_rfl
def ex.T9:Bool×List (List Nat×List Nat):=(true,[([],[]),([0],[0]),([],[]),([2],[2]),([],[]),([4],[4]),([3,5],[3,5]),([6],[6]),([1,7,6],[1,7]),([0,1,2,3,4,5,6,7,8],[]),([9,8,8,0,1,2,3,4,5,6,7,8],[8,9])])
def ex.B9:List Nat:=[0,1,0,4,0,16,60,124,255,511,1023]
theorem ex.Dk:dW .any (opsOf Tryz.f60 9)=ex.T9:=by kernel_rfl
theorem ex.vO:bJ ex.T9.2 ex.B9=true:=by kernel_rfl
theorem Gs{α:Type}(f:α->Int)(l:List α)(k:Nat)(h:k<l.length):(l.take (k+1)).map f=(l.take k).map f++[f l[k]]:=by
 rw[List.take_succ_eq_append_getElem h,List.map_append]
 rfl
def Td(g:Nat)(p:dP->Int):Prop:=∀(W:World) (x:dP),Calls Tryz.prog g #[.agg #[.int .i64 x.f0,.int .i64 x.f1]] W λe w'=>e= .returned (.int .i64 (p x))/\Below W.heap.size W w'
theorem Ue:Td 61 (λx=>x.f0):=λW x=>oM.calls x.f0 x.f1 x.f0 W rfl
theorem Rh:Td 101 (λx=>x.f1):=λW x=>nQ.calls x.f0 x.f1 x.f1 W rfl
theorem vJ(g:Nat)(hg:∀args w,(callFunc g args).run Tryz.prog w= .ok (.enter g args) w)(p:dP->Int)(hp:Td g p){A0:Option Addr}{c0:Nat}{Wk:List dP}{A1:Option Addr}{c1:Nat}{R:List aV}{w:World}(h:IsMap w A0 c0 Wk A1 c1 R)(hW:Wk.length<=1000)(hR:R.length<=1000):
  Calls Tryz.prog 60 #[.agg #[.slice A0 Wk.length c0,.slice A1 R.length c1],.agg #[.func (.func g) #[] #[]]] w λe w'=>(∃v0 v1,e= .returned (.agg #[v0,v1])/\(Kd.int .i64).R 3 w' w.heap.size (λ_=>True) v0 (Wk.map p)/\(Kd.int .i64).R 3 w' w.heap.size (λ_=>True) v1 (R.map (λr=>p r.f2)))/\Below w.heap.size w w':=by
 have H:=aa.mk h
 have HP:=aa.mk hp
 have HG:=aa.mk hg
 clear h hp hg
 go_enter Tryz.func60,Tryz.ntmps60
 have hb0:=ae (ae (ae (Below.refl w.heap.size w) (.cells #[.slice A0 Wk.length c0,.slice A1 R.length c1] 78)) (.cells #[.func (.func g) #[] #[]] 149)) (.cells #[.slice none 0 0,.slice none 0 0] 86)
 have B2:=aa.mk (((aR.new w [.slice A0 Wk.length c0,.slice A1 R.length c1] 78).alloc (.cells #[.func (.func g) #[] #[]] 149)).alloc (.cells #[.slice none 0 0,.slice none 0 0] 86))
 have B3:=aa.mk (show aR _ (w.heap.size+1) _ _ by simpa using (aR.new (w.alloc (.cells #[.slice A0 Wk.length c0,.slice A1 R.length c1] 78)) [.func (.func g) #[] #[]] 149).alloc (.cells #[.slice none 0 0,.slice none 0 0] 86))
 have B4:=aa.mk (show aR _ (w.heap.size+2) _ _ by simpa using aR.new ((w.alloc (.cells #[.slice A0 Wk.length c0,.slice A1 R.length c1] 78)).alloc (.cells #[.func (.func g) #[] #[]] 149)) [.slice none 0 0,.slice none 0 0] 86)
 have HB:=aa.mk hb0
 have hs0:w.heap.size+3<=(((w.alloc (.cells #[.slice A0 Wk.length c0,.slice A1 R.length c1] 78)).alloc (.cells #[.func (.func g) #[] #[]] 149)).alloc (.cells #[.slice none 0 0,.slice none 0 0] 86)).heap.size:=by simp
 have h20:=B2.out.cell 0
 have h21:=B2.out.cell 1
 simp only[eP,eO] at h20 h21
 clear hb0
 go_wp2_with fail
 clear h20 h21
 generalize(((w.alloc (.cells #[.slice A0 Wk.length c0,.slice A1 R.length c1] 78)).alloc (.cells #[.func (.func g) #[] #[]] 149)).alloc (.cells #[.slice none 0 0,.slice none 0 0] 86))=w3 at B2 B3 B4 HB hs0 ⊢
 go_loopw [12] (λv12 wr=>∃(k:Nat) (v:Value),k<=Wk.length/\v12= .int .i64 k/\w3.heap.size<=wr.heap.size/\aa (Below w.heap.size w wr)/\aa (aR wr w.heap.size [.slice A0 Wk.length c0,.slice A1 R.length c1] 78)/\aa (aR wr (w.heap.size+1) [.func (.func g) #[] #[]] 149)/\aa (aR wr (w.heap.size+2) [v,.slice none 0 0] 86)/\aa ((Kd.int .i64).R 3 wr w3.heap.size (λb=>w3.heap.size<=b) v ((Wk.take k).map p))) (λv12 _=>Wk.length-(intOf v12).toNat)
 case atStart=>exact⟨0,.slice none 0 0,Nat.zero_le _,rfl,Nat.le_refl _,HB,B2,B3,B4,⟨Kd.iK _ _ _ _ _⟩⟩
 case round=>
  clear HB B2 B3 B4
  obtain⟨k,v,hk,rfl,yT,HB,B2,B3,B4,HV⟩:=hrel
  by_cases hkl:k<Wk.length
  .have Yz:(k:Int)<Wk.length:=by omega
   obtain⟨ad,e,hc0,hc1⟩:=Cr (Kd.av H.out.work HB.out) k (by omega) Yz
   cases e
   simp only[Int.toNat_natCast] at hc0 hc1
   have Wn:iA Wk (k:Int)=Wk[k]:=by simp[iA,List.getD,hkl]
   rw[Wn] at hc0 hc1
   have Nt:=aa.mk (Gs p Wk k hkl)
   obtain⟨x,hx⟩:∃x,Wk[k]=x:=⟨_,rfl⟩
   rw[hx] at hc0 hc1 Nt
   have hlk:((Wk.take k).map p).length<=1000:=by simp;omega
   obtain⟨xs,hxs⟩:∃xs,(Wk.take k).map p=xs:=⟨_,rfl⟩
   rw[hxs] at HV Nt hlk
   clear hx Wn hxs
   go_wp2_with fail
   have B6:=aa.mk (aR.new wr [.int .i64 x.f0,.int .i64 x.f1] 88)
   have qK:=aa.mk (ae (Below.refl wr.heap.size wr) (.cells #[.int .i64 x.f0,.int .i64 x.f1] 88))
   clear hc0 hc1
   generalize hw4:wr.alloc (.cells #[.int .i64 x.f0,.int .i64 x.f1] 88)=w4 at B6 qK ⊢
   clear hw4
   have zV:=aa.mk (B2.out.below qK.out)
   have CS:=aa.mk (B3.out.below qK.out)
   have DX:=aa.mk (B4.out.below qK.out)
   have Sv:=aa.mk (Kd.bV HV.out qK.out)
   have jd:=aa.mk (HB.out.trans (qK.out.mono HB.out.size))
   have hs4:=Nat.le_trans yT qK.out.size
   have jB:=CS.out.cell 0
   have lH:=DX.out.cell 0
   have xN:=B6.out.cell 0
   have DD:=B6.out.cell 1
   simp only[eP,eO] at jB lH xN DD
   clear qK HB B2 B3 B4 HV yT
   refine dB (n:=10) (S:=λw'=>w'.cell? ⟨w.heap.size+1,0,none⟩=some (.func (.func g) #[] #[])/\w'.cell? ⟨w.heap.size+2,0,none⟩=some v/\w'.cell? ⟨wr.heap.size,0,none⟩=some (.int .i64 x.f0)/\w'.cell? ⟨wr.heap.size,1,none⟩=some (.int .i64 x.f1)) (ds:=[7,9]) #[O,O,O,O,O,O,O,O,O,O] (by kernel_rfl) rfl rfl ⟨jB,lH,xN,DD⟩ (λhHeld=>?_);refine bu ex.yI ex.rC (λak bN=>?_)
   have Sv:=aa.mk (Kd.cO Sv.out)
   have jd:=aa.mk (aM jd.out)
   have B6:=aa.mk (B6.out.move rfl:aR w4.drew _ _ _)
   have zV:=aa.mk (zV.out.move rfl:aR w4.drew _ _ _)
   have CS:=aa.mk (CS.out.move rfl:aR w4.drew _ _ _)
   have DX:=aa.mk (DX.out.move rfl:aR w4.drew _ _ _)
   have hs4:w3.heap.size<=w4.drew.heap.size:=hs4
   clear jB lH xN DD
   generalize w4.drew=wd at B6 Sv jd zV CS DX hs4 hHeld ⊢
   refine aZ 0 16 #[I,O,O,O,O,O,O,O,O,O] ak (h:=?_)
   refine dG 1 17 #[I,I,O,O,O,O,O,O,O,O] ak bN hHeld (hy:=by(rintro w' ⟨s0,s1,s2,s3⟩;go_simp;with_reducible rfl)) (h:=?_)
   refine aZ 2 18 #[I,I,I,O,O,O,O,O,O,O] ak (h:=?_)
   refine dG 3 19 #[I,I,I,I,O,O,O,O,O,O] ak bN hHeld (hy:=by(rintro w' ⟨s0,s1,s2,s3⟩;go_simp;with_reducible rfl)) (h:=?_)
   refine dG 4 20 #[I,I,I,I,I,O,O,O,O,O] ak bN hHeld (hy:=by(rintro w' ⟨s0,s1,s2,s3⟩;go_simp;with_reducible rfl)) (h:=?_)
   refine dO (i:=5) (N:=some 21) #[I,I,I,I,I,I,O,O,O,O] rfl rfl (aI ak.out (by kernel_rfl)) (by decide) (λK hK=>?_)
   refine call_ g #[.agg #[.int .i64 x.f0,.int .i64 x.f1]] (by rfl) rfl ?_ ?_
   .have he:=HG.out #[.agg #[.int .i64 x.f0,.int .i64 x.f1]]
    go_simp
   refine(HP.out _ x).mono ?_
   rintro e_ w_ ⟨rfl,hbc⟩
   refine⟨_,rfl,hK.out _ _ ⟨(CS.out.below hbc).cell 0,(DX.out.below hbc).cell 0,(B6.out.below hbc).cell 0,(B6.out.below hbc).cell 1⟩ (λhHeld=>?_)⟩
   clear hK K
   have B65:=aa.mk (B6.out.below hbc)
   have yF:=aa.mk (zV.out.below hbc)
   have EA:=aa.mk (CS.out.below hbc)
   have AA:=aa.mk (DX.out.below hbc)
   have HV5:=aa.mk (Kd.bV Sv.out hbc)
   have kv:=aa.mk (jd.out.trans (hbc.mono jd.out.size))
   have hs5:=Nat.le_trans hs4 hbc.size
   generalize hy:p x=y at Nt ⊢
   clear hy hbc zV CS DX Sv jd B6
   refine iY ?_
   refine dO (i:=6) (N:=some 22) #[I,I,I,I,I,I,I,O,O,O] rfl rfl (aI ak.out (by kernel_rfl)) (by decide) (λK hK=>?_)
   refine bT (w1:=?_) (v:=?_) (by rfl) rfl ?_ ?_
   rotate_left 2
   .go_simp
    constructor<;>rfl
   refine hK.out _ _ ⟨(EA.out.alloc (.cells #[.int .i64 y] 3)).cell 0,(AA.out.alloc (.cells #[.int .i64 y] 3)).cell 0,(B65.out.alloc (.cells #[.int .i64 y] 3)).cell 0,(B65.out.alloc (.cells #[.int .i64 y] 3)).cell 1⟩ (λhHeld=>?_)
   clear hK K
   have PT:=aa.mk (yF.out.alloc (.cells #[.int .i64 y] 3))
   have Jb:=aa.mk (EA.out.alloc (.cells #[.int .i64 y] 3))
   have I8:=aa.mk (AA.out.alloc (.cells #[.int .i64 y] 3))
   have Vr:=aa.mk (Kd.bK (Kd.bB (Kd.bE HV5.out) (λb hb=>(⟨hb.2.1,by have:=hb.2.2.1;omega⟩:w3.heap.size<=b/\b≠w_.heap.size))) (.cells #[.int .i64 y] 3))
   have uz:=aa.mk (ae kv.out (.cells #[.int .i64 y] 3))
   have hgl:=(aR.new w_ [.int .i64 y] 3).cell 0
   simp only[List.getElem?_cons_zero] at hgl
   have hs6:w3.heap.size<=(w_.alloc (.cells #[.int .i64 y] 3)).heap.size:=by simp;omega
   have hgt:w_.heap.size<(w_.alloc (.cells #[.int .i64 y] 3)).heap.size:=by simp
   generalize hgg:w_.heap.size=gl at Vr hgl hgt ⊢
   generalize hw6:w_.alloc (.cells #[.int .i64 y] 3)=w6 at PT Jb I8 Vr uz hgl hs6 hgt hHeld ⊢
   clear hw6 yF EA AA B65 HV5 kv hgg
   refine iY ?_
   refine dE (i:=7) (N:=some 23) #[I,I,I,I,I,I,I,I,O,O] rfl rfl (aI ak.out (by kernel_rfl)) (by decide) (λK hK=>?_)
   refine Kd.bO (Kd.int .i64) (w0:=w6) w3.heap.size (by rfl) (.tmp 17) (.tmp 22) 22 3 (.int .i64 0) 8 rfl Tryz.underlying22 info3 rfl (by decide) (by omega) v xs [y] (some ⟨gl,0,none⟩) 1 1 (λb=>w3.heap.size<=b/\b≠gl) (λ_=>False) rfl rfl Vr.out (kN hgl) (λx cs h=>h) (λ_ hk=>hk.elim) (λb hb=>⟨by omega,by omega⟩) (Below.refl _ _) (by omega) (by omega) ?_
   intro v7 w7 yZ sW OU BZ
   obtain⟨A7,n7,c7,rfl⟩:∃A n c,v7= .slice A n c:=by obtain⟨a_,b_,e_⟩:=Kd.mG yZ (by simp);exact⟨_,_,_,e_⟩
   refine hK.out _ _ ?_
   clear hK K
   have B27:=aa.mk (PT.out.move (sW.block _ (by omega)))
   have B37:=aa.mk (Jb.out.move (sW.block _ (by omega)))
   have PS:=aa.mk (I8.out.move (sW.block _ (by omega)))
   have P7:=aa.mk (Kd.bB yZ (λb hb=>hb.1))
   have hs7:=Nat.le_trans hs6 sW.size
   have Gi:=aa.mk (uz.out.trans (sW.mono (by omega)))
   have lH:=PS.out.cell 0
   have o6:=PS.out.frozen 0
   simp only[List.getElem?_cons_zero] at lH
   clear yZ sW OU BZ Vr PT Jb I8 uz hgl
   refine iY ?_
   refine aZ 8 24 #[I,I,I,I,I,I,I,I,I,O] ak (h:=?_)
   refine dE (i:=9) (N:=none) #[I,I,I,I,I,I,I,I,I,I] rfl rfl (aI ak.out (by kernel_rfl)) (by decide) (λK hK=>?_)
   have eY:=lH
   have ig:=o6
   refine gW (w1:=?_) (by rfl) rfl ?_ ?_
   rotate_left
   .go_simp
    rfl
   refine hK.out _ _ ?_
   clear hK K eY ig
   have B4z:=aa.mk (show aR _ _ _ _ from(df PS.out 0 (.slice A7 n7 c7)))
   have B2z:=aa.mk (B27.out.move (Below.heap_setCell w7 ⟨w.heap.size+2,0,none⟩ (.slice A7 n7 c7) _ (by simp only;omega)))
   have B3z:=aa.mk (B37.out.move (Below.heap_setCell w7 ⟨w.heap.size+2,0,none⟩ (.slice A7 n7 c7) _ (by simp only;omega)))
   have HRz:=aa.mk (Kd.dx P7.out (p:=⟨w.heap.size+2,0,none⟩) (λb hb=>by simp only;omega) (.slice A7 n7 c7))
   have HBz:=And.intro (show w3.heap.size<=(w7.setCell ⟨w.heap.size+2,0,none⟩ (.slice A7 n7 c7)).heap.size by simpa[World.setCell] using hs7) (aa.mk (Gi.out.setCell (p:=⟨w.heap.size+2,0,none⟩) (by simp) (.slice A7 n7 c7)))
   refine dK (bG ak.out (by kernel_rfl)) ?_
   go_wp2_with fail
   exact⟨⟨k+1,.slice A7 n7 c7,by omega,rfl,HBz.1,HBz.2,B2z,B3z,B4z,⟨by rw[Nt.out];exact HRz.out⟩⟩,by simp[intOf];omega⟩
  .obtain rfl:k=Wk.length:=by omega
   rw[List.take_length] at HV
   have h20:=B2.out.cell 0
   have h21:=B2.out.cell 1
   simp only[eP,eO] at h20 h21
   have IZ:=aa.mk (Kd.bB (Kd.bE HV.out) (λb hb=>(⟨hb.1,hb.2.2.1⟩:w3.heap.size<=b/\b<wr.heap.size)))
   clear HV
   go_wp2_with fail
   clear h20 h21
   generalize hwa:wr=wA at yT HB B2 B3 B4 IZ ⊢
   clear hwa
   go_loopw [29] (λv29 wr=>∃(k:Nat) (v1:Value),k<=R.length/\v29= .int .i64 k/\wA.heap.size<=wr.heap.size/\aa (Below w.heap.size w wr)/\aa (aR wr w.heap.size [.slice A0 Wk.length c0,.slice A1 R.length c1] 78)/\aa (aR wr (w.heap.size+1) [.func (.func g) #[] #[]] 149)/\aa (aR wr (w.heap.size+2) [v,v1] 86)/\aa ((Kd.int .i64).R 3 wr w3.heap.size (λb=>w3.heap.size<=b/\b<wA.heap.size) v (Wk.map p))/\aa ((Kd.int .i64).R 3 wr wA.heap.size (λb=>wA.heap.size<=b) v1 ((R.take k).map (λr=>p r.f2)))) (λv29 _=>R.length-(intOf v29).toNat)
   case atStart=>exact⟨0,.slice none 0 0,Nat.zero_le _,rfl,Nat.le_refl _,HB,B2,B3,B4,IZ,⟨Kd.iK _ _ _ _ _⟩⟩
   case round=>
    clear HB B2 B3 B4 IZ
    obtain⟨k,v1,hk,rfl,hsw,HB,B2,B3,B4,IZ,HV⟩:=hrel
    by_cases hkl:k<R.length
    .have Yz:(k:Int)<R.length:=by omega
     obtain⟨ad,e,hc0,hc1,hc2,hc3⟩:=sN (Kd.av H.out.roads HB.out) k (by omega) Yz
     cases e
     simp only[Int.toNat_natCast] at hc0 hc1 hc2 hc3
     have Wn:bZ R (k:Int)=R[k]:=by simp[bZ,List.getD,hkl]
     rw[Wn] at hc0 hc1 hc2 hc3
     have Nt:=aa.mk (Gs (λr:aV=>p r.f2) R k hkl)
     obtain⟨q,hq⟩:∃x,R[k]=x:=⟨_,rfl⟩
     rw[hq] at hc0 hc1 hc2 hc3 Nt
     have hlk:((R.take k).map (λr:aV=>p r.f2)).length<=1000:=by simp;omega
     obtain⟨xs,hxs⟩:∃xs,(R.take k).map (λr:aV=>p r.f2)=xs:=⟨_,rfl⟩
     rw[hxs] at HV Nt hlk
     clear hq Wn hxs
     obtain⟨qa,qb,x⟩:=q
     simp only at hc0 hc1 hc2 hc3 Nt
     go_wp2_with fail
     have B6:=aa.mk (aR.new wr [.int .i64 qa,.int .i64 qb,.int .i64 x.f0,.int .i64 x.f1] 141)
     have qK:=aa.mk (ae (Below.refl wr.heap.size wr) (.cells #[.int .i64 qa,.int .i64 qb,.int .i64 x.f0,.int .i64 x.f1] 141))
     clear hc0 hc1 hc2 hc3
     generalize hw4:wr.alloc (.cells #[.int .i64 qa,.int .i64 qb,.int .i64 x.f0,.int .i64 x.f1] 141)=w4 at B6 qK ⊢
     clear hw4
     have zV:=aa.mk (B2.out.below qK.out)
     have CS:=aa.mk (B3.out.below qK.out)
     have DX:=aa.mk (B4.out.below qK.out)
     have Sv:=aa.mk (Kd.bV HV.out qK.out)
     have Sw:=aa.mk (Kd.bV IZ.out qK.out)
     have jd:=aa.mk (HB.out.trans (qK.out.mono HB.out.size))
     have hs4:=Nat.le_trans hsw qK.out.size
     have jB:=CS.out.cell 0
     have lH:=DX.out.cell 1
     have xN:=B6.out.cell 2
     have DD:=B6.out.cell 3
     simp only[eP,eO] at jB lH xN DD
     clear qK HB B2 B3 B4 HV IZ hsw
     refine dB (n:=11) (S:=λw'=>w'.cell? ⟨w.heap.size+1,0,none⟩=some (.func (.func g) #[] #[])/\w'.cell? ⟨w.heap.size+2,1,none⟩=some v1/\w'.cell? ⟨wr.heap.size,2,none⟩=some (.int .i64 x.f0)/\w'.cell? ⟨wr.heap.size,3,none⟩=some (.int .i64 x.f1)) (ds:=[8,10]) #[O,O,O,O,O,O,O,O,O,O,O] (by kernel_rfl) rfl rfl ⟨jB,lH,xN,DD⟩ (λhHeld=>?_);refine bu ex.Dk ex.vO (λak bN=>?_)
     have Sv:=aa.mk (Kd.cO Sv.out)
     have Sw:=aa.mk (Kd.cO Sw.out)
     have jd:=aa.mk (aM jd.out)
     have B6:=aa.mk (B6.out.move rfl:aR w4.drew _ _ _)
     have zV:=aa.mk (zV.out.move rfl:aR w4.drew _ _ _)
     have CS:=aa.mk (CS.out.move rfl:aR w4.drew _ _ _)
     have DX:=aa.mk (DX.out.move rfl:aR w4.drew _ _ _)
     have hs4:wA.heap.size<=w4.drew.heap.size:=hs4
     clear jB lH xN DD
     generalize w4.drew=wd at B6 Sv Sw jd zV CS DX hs4 hHeld ⊢
     refine aZ 0 33 #[I,O,O,O,O,O,O,O,O,O,O] ak (h:=?_)
     refine dG 1 34 #[I,I,O,O,O,O,O,O,O,O,O] ak bN hHeld (hy:=by(rintro w' ⟨s0,s1,s2,s3⟩;go_simp;with_reducible rfl)) (h:=?_)
     refine aZ 2 35 #[I,I,I,O,O,O,O,O,O,O,O] ak (h:=?_)
     refine dG 3 36 #[I,I,I,I,O,O,O,O,O,O,O] ak bN hHeld (hy:=by(rintro w' ⟨s0,s1,s2,s3⟩;go_simp;with_reducible rfl)) (h:=?_)
     refine aZ 4 37 #[I,I,I,I,I,O,O,O,O,O,O] ak (h:=?_)
     refine dG 5 38 #[I,I,I,I,I,I,O,O,O,O,O] ak bN hHeld (hy:=by(rintro w' ⟨s0,s1,s2,s3⟩;go_simp;with_reducible rfl)) (h:=?_)
     refine dO (i:=6) (N:=some 39) #[I,I,I,I,I,I,I,O,O,O,O] rfl rfl (aI ak.out (by kernel_rfl)) (by decide) (λK hK=>?_)
     refine call_ g #[.agg #[.int .i64 x.f0,.int .i64 x.f1]] (by rfl) rfl ?_ ?_
     .have he:=HG.out #[.agg #[.int .i64 x.f0,.int .i64 x.f1]]
      go_simp
     refine(HP.out _ x).mono ?_
     rintro e_ w_ ⟨rfl,hbc⟩
     refine⟨_,rfl,hK.out _ _ ⟨(CS.out.below hbc).cell 0,(DX.out.below hbc).cell 1,(B6.out.below hbc).cell 2,(B6.out.below hbc).cell 3⟩ (λhHeld=>?_)⟩
     clear hK K
     have B65:=aa.mk (B6.out.below hbc)
     have yF:=aa.mk (zV.out.below hbc)
     have EA:=aa.mk (CS.out.below hbc)
     have AA:=aa.mk (DX.out.below hbc)
     have DT:=aa.mk (Kd.bV Sw.out hbc)
     have HV5:=aa.mk (Kd.bV Sv.out hbc)
     have kv:=aa.mk (jd.out.trans (hbc.mono jd.out.size))
     have hs5:=Nat.le_trans hs4 hbc.size
     generalize hy:p x=y at Nt ⊢
     clear hy hbc zV CS DX Sv Sw jd B6
     refine iY ?_
     refine dO (i:=7) (N:=some 40) #[I,I,I,I,I,I,I,I,O,O,O] rfl rfl (aI ak.out (by kernel_rfl)) (by decide) (λK hK=>?_)
     refine bT (w1:=?_) (v:=?_) (by rfl) rfl ?_ ?_
     rotate_left 2
     .go_simp
      constructor<;>rfl
     refine hK.out _ _ ⟨(EA.out.alloc (.cells #[.int .i64 y] 3)).cell 0,(AA.out.alloc (.cells #[.int .i64 y] 3)).cell 1,(B65.out.alloc (.cells #[.int .i64 y] 3)).cell 2,(B65.out.alloc (.cells #[.int .i64 y] 3)).cell 3⟩ (λhHeld=>?_)
     clear hK K
     have PT:=aa.mk (yF.out.alloc (.cells #[.int .i64 y] 3))
     have Jb:=aa.mk (EA.out.alloc (.cells #[.int .i64 y] 3))
     have I8:=aa.mk (AA.out.alloc (.cells #[.int .i64 y] 3))
     have ZM:=aa.mk (Kd.bK DT.out (.cells #[.int .i64 y] 3))
     have Vr:=aa.mk (Kd.bK (Kd.bB (Kd.bE HV5.out) (λb hb=>(⟨hb.2.1,by have:=hb.2.2.1;omega⟩:wA.heap.size<=b/\b≠w_.heap.size))) (.cells #[.int .i64 y] 3))
     have uz:=aa.mk (ae kv.out (.cells #[.int .i64 y] 3))
     have hgl:=(aR.new w_ [.int .i64 y] 3).cell 0
     simp only[List.getElem?_cons_zero] at hgl
     have hs6:wA.heap.size<=(w_.alloc (.cells #[.int .i64 y] 3)).heap.size:=by simp;omega
     have hgt:w_.heap.size<(w_.alloc (.cells #[.int .i64 y] 3)).heap.size:=by simp
     generalize hgg:w_.heap.size=gl at Vr hgl hgt ⊢
     generalize hw6:w_.alloc (.cells #[.int .i64 y] 3)=w6 at PT Jb I8 Vr ZM uz hgl hs6 hgt hHeld ⊢
     clear hw6 yF EA AA B65 HV5 DT kv hgg
     refine iY ?_
     refine dE (i:=8) (N:=some 41) #[I,I,I,I,I,I,I,I,I,O,O] rfl rfl (aI ak.out (by kernel_rfl)) (by decide) (λK hK=>?_)
     refine Kd.bO (Kd.int .i64) (w0:=w6) wA.heap.size (by rfl) (.tmp 34) (.tmp 40) 22 3 (.int .i64 0) 8 rfl Tryz.underlying22 info3 rfl (by decide) (by omega) v1 xs [y] (some ⟨gl,0,none⟩) 1 1 (λb=>wA.heap.size<=b/\b≠gl) (λ_=>False) rfl rfl Vr.out (kN hgl) (λx cs h=>h) (λ_ hk=>hk.elim) (λb hb=>⟨by omega,by omega⟩) (Below.refl _ _) (by omega) (by omega) ?_
     intro v7 w7 yZ sW OU BZ
     obtain⟨A7,n7,c7,rfl⟩:∃A n c,v7= .slice A n c:=by obtain⟨a_,b_,e_⟩:=Kd.mG yZ (by simp);exact⟨_,_,_,e_⟩
     refine hK.out _ _ ?_
     clear hK K
     have B27:=aa.mk (PT.out.move (sW.block _ (by omega)))
     have B37:=aa.mk (Jb.out.move (sW.block _ (by omega)))
     have PS:=aa.mk (I8.out.move (sW.block _ (by omega)))
     have ajg:=aa.mk (Kd.gQ ZM.out (λb hb _=>sW.block b hb.2))
     have P7:=aa.mk (Kd.bB yZ (λb hb=>hb.1))
     have hs7:=Nat.le_trans hs6 sW.size
     have Gi:=aa.mk (uz.out.trans (sW.mono (by omega)))
     have lH:=PS.out.cell 1
     have o6:=PS.out.frozen 1
     simp only[eP,eO] at lH
     clear yZ sW OU BZ Vr ZM PT Jb I8 uz hgl
     refine iY ?_
     refine aZ 9 42 #[I,I,I,I,I,I,I,I,I,I,O] ak (h:=?_)
     refine dE (i:=10) (N:=none) #[I,I,I,I,I,I,I,I,I,I,I] rfl rfl (aI ak.out (by kernel_rfl)) (by decide) (λK hK=>?_)
     have eY:=lH
     have ig:=o6
     refine gW (w1:=?_) (by rfl) rfl ?_ ?_
     rotate_left
     .go_simp
      rfl
     refine hK.out _ _ ?_
     clear hK K eY ig
     have B4z:=aa.mk (show aR _ _ _ _ from(df PS.out 1 (.slice A7 n7 c7)))
     have B2z:=aa.mk (B27.out.move (Below.heap_setCell w7 ⟨w.heap.size+2,1,none⟩ (.slice A7 n7 c7) _ (by simp only;omega)))
     have B3z:=aa.mk (B37.out.move (Below.heap_setCell w7 ⟨w.heap.size+2,1,none⟩ (.slice A7 n7 c7) _ (by simp only;omega)))
     have ajf:=aa.mk (Kd.dx ajg.out (p:=⟨w.heap.size+2,1,none⟩) (λb hb=>by simp only;omega) (.slice A7 n7 c7))
     have HRz:=aa.mk (Kd.dx P7.out (p:=⟨w.heap.size+2,1,none⟩) (λb hb=>by simp only;omega) (.slice A7 n7 c7))
     have HBz:=And.intro (show wA.heap.size<=(w7.setCell ⟨w.heap.size+2,1,none⟩ (.slice A7 n7 c7)).heap.size by simpa[World.setCell] using hs7) (aa.mk (Gi.out.setCell (p:=⟨w.heap.size+2,1,none⟩) (by simp) (.slice A7 n7 c7)))
     refine dK (bG ak.out (by kernel_rfl)) ?_
     go_wp2_with fail
     exact⟨⟨k+1,.slice A7 n7 c7,by omega,rfl,HBz.1,HBz.2,B2z,B3z,B4z,ajf,⟨by rw[Nt.out];exact HRz.out⟩⟩,by simp[intOf];omega⟩
    .obtain rfl:k=R.length:=by omega
     rw[List.take_length] at HV
     obtain⟨Av,nv,cv,rfl⟩:∃A n c,v= .slice A n c:=by
      obtain⟨a_,b_,e_,_,_⟩:=Kd.cB IZ.out
      exact⟨_,_,_,e_⟩
     obtain⟨Au,nu,cu,rfl⟩:∃A n c,v1= .slice A n c:=by
      obtain⟨a_,b_,e_,_,_⟩:=Kd.cB HV.out
      exact⟨_,_,_,e_⟩
     have B4':=aa.mk (show aR wr (w.heap.size+1+1) [.slice Av nv cv,.slice Au nu cu] 86 from B4.out)
     have lH:=B4'.out.cell 0
     have oI:=B4'.out.cell 1
     have o6:=B4'.out.frozen 0
     have tH:=B4'.out.frozen 1
     simp only[eP,eO] at lH oI
     go_wp2_with fail
     refine bodyPost_ret (results_cell_row rfl _ _ (w.heap.size+1+1) 86 #[.slice Av nv cv,.slice Au nu cu] (0,0) _ rfl (B4'.out.set2 _ _) Tryz.underlying86 rfl (by kernel_rfl)) rfl ?_
     refine⟨⟨_,_,rfl,?_,?_⟩,(HB.out.setCell (p:=⟨w.heap.size+1+1,0,none⟩) (by simp only;omega) _).setCell (p:=⟨w.heap.size+1+1,1,none⟩) (by simp only;omega) _⟩
     .exact Kd.bB (Kd.ed (Kd.dx (Kd.dx IZ.out (p:=⟨w.heap.size+1+1,0,none⟩) (λb hb=>by simp only;omega) _) (p:=⟨w.heap.size+1+1,1,none⟩) (λb hb=>by simp only;omega) _) (by omega)) (λ_ _=>trivial)
     .exact Kd.bB (Kd.ed (Kd.dx (Kd.dx HV.out (p:=⟨w.heap.size+1+1,0,none⟩) (λb hb=>by simp only;omega) _) (p:=⟨w.heap.size+1+1,1,none⟩) (λb hb=>by simp only;omega) _) (by omega)) (λ_ _=>trivial)
def tf.T4:Bool×List (List Nat×List Nat):=(true,[([],[]),([],[]),([1],[1]),([],[]),([],[]),([4],[4]),([],[]),([6],[6]),([5,7],[5,7]),([8],[8]),([],[]),([10],[10]),([],[]),([11,12],[11,12]),([13],[13]),([3,9,14],[3,9,14]),([2,15],[2,15]),([16],[16]),([0,17],[0,17]),([18,15,0,1,2,3,4,5,6,7,8,9,10,11,12,13,14,15,16,17,18],[0,18])])
def tf.B4:List Nat:=[0,0,2,0,0,16,0,64,240,496,0,1024,0,7168,15360,32760,65534,131070,262143,524287]
theorem tf.yI:dW .any (opsOf Tryz.f59 4)=tf.T4:=by kernel_rfl
theorem tf.rC:bJ tf.T4.2 tf.B4=true:=by kernel_rfl
def wX(R:List aV)(l tr:List Int):Nat->Int
 |0=>0
 |k+1=>wX R l tr k+rd tr (il R (rd l (k:Int)) (rd l ((k+1:Nat):Int)))
def Ci(cs tw:List Int):Nat->Int
 |0=>0
 |k+1=>Ci cs tw k+rd tw (rd cs (k:Int))
def kY(R:List aV)(l cs tw tr:List Int):Int:=wX R l tr (l.length-1)+Ci cs tw cs.length
structure uq(R:List aV)(l cs tw tr:List Int):Prop where
 roads:∀k,k+1<l.length->0<=il R (rd l (k:Int)) (rd l ((k+1:Nat):Int))/\il R (rd l (k:Int)) (rd l ((k+1:Nat):Int))<tr.length/\0<=rd tr (il R (rd l (k:Int)) (rd l ((k+1:Nat):Int)))/\rd tr (il R (rd l (k:Int)) (rd l ((k+1:Nat):Int)))<=1000
 works:∀k,k<cs.length->0<=rd cs (k:Int)/\rd cs (k:Int)<tw.length/\0<=rd tw (rd cs (k:Int))/\rd tw (rd cs (k:Int))<=1000
theorem vT{R:List aV}{l cs tw tr:List Int}(h:uq R l cs tw tr):∀k,k+1<=l.length->0<=wX R l tr k/\wX R l tr k<=1000*k
 |0,_=>by simp[wX]
 |k+1,hk=>by
  have:=vT h k (by omega)
  have h1:=h.roads k (by omega)
  unfold wX
  omega
theorem Ch{R:List aV}{l cs tw tr:List Int}(h:uq R l cs tw tr):∀k,k<=cs.length->0<=Ci cs tw k/\Ci cs tw k<=1000*k
 |0,_=>by simp[Ci]
 |k+1,hk=>by
  have:=Ch h k (by omega)
  have h1:=h.works k (by omega)
  unfold Ci
  omega
theorem rP{A0:Option Addr}{c0:Nat}{Wk:List dP}{A1:Option Addr}{c1:Nat}{R:List aV}{w:World}(h:IsMap w A0 c0 Wk A1 c1 R)
  (l cs tw tr:List Int) {Al Ac Aw Ar:Option Addr} {cl cc cw cr:Nat} (hl:Kd.C (Kd.int .i64) w Al l.length l) (hlb:l.length<1000000) (hl0:0<l.length) (hcs:Kd.C (Kd.int .i64) w Ac cs.length cs) (hcb:cs.length<1000000)
  (ug:Kd.C (Kd.int .i64) w Aw tw.length tw) (htr:Kd.C (Kd.int .i64) w Ar tr.length tr) (hok:uq R l cs tw tr):
  Calls Tryz.prog 59 #[.agg #[.slice A0 Wk.length c0,.slice A1 R.length c1],.agg #[.slice Al l.length cl,.slice Ac cs.length cc],.agg #[.slice Aw tw.length cw,.slice Ar tr.length cr]] w λe w'=>e= .returned (.int .i64 (kY R l cs tw tr))/\Below w.heap.size w w':=by
 have H:=aa.mk h
 have HL:=aa.mk hl
 have Nv:=aa.mk hcs
 have TD:=aa.mk ug
 have HTR:=aa.mk htr
 have DU:=aa.mk hok
 clear h hl hcs ug htr hok
 go_enter Tryz.func59,Tryz.ntmps59
 have B3:=aa.mk (((aR.new w [.slice A0 Wk.length c0,.slice A1 R.length c1] 78).alloc (.cells #[.slice Al l.length cl,.slice Ac cs.length cc] 80)).alloc (.cells #[.slice Aw tw.length cw,.slice Ar tr.length cr] 86))
 have B4:=aa.mk (show aR _ (w.heap.size+1) _ _ by simpa using (aR.new (w.alloc (.cells #[.slice A0 Wk.length c0,.slice A1 R.length c1] 78)) [.slice Al l.length cl,.slice Ac cs.length cc] 80).alloc (.cells #[.slice Aw tw.length cw,.slice Ar tr.length cr] 86))
 have B5:=aa.mk (show aR _ (w.heap.size+1+1) _ _ by simpa using aR.new ((w.alloc (.cells #[.slice A0 Wk.length c0,.slice A1 R.length c1] 78)).alloc (.cells #[.slice Al l.length cl,.slice Ac cs.length cc] 80)) [.slice Aw tw.length cw,.slice Ar tr.length cr] 86)
 have HB:=aa.mk (ae (ae (ae (Below.refl w.heap.size w) (.cells #[.slice A0 Wk.length c0,.slice A1 R.length c1] 78)) (.cells #[.slice Al l.length cl,.slice Ac cs.length cc] 80)) (.cells #[.slice Aw tw.length cw,.slice Ar tr.length cr] 86))
 have hs0:w.heap.size+3<=(((w.alloc (.cells #[.slice A0 Wk.length c0,.slice A1 R.length c1] 78)).alloc (.cells #[.slice Al l.length cl,.slice Ac cs.length cc] 80)).alloc (.cells #[.slice Aw tw.length cw,.slice Ar tr.length cr] 86)).heap.size:=by simp
 go_wp2_with fail
 generalize(((w.alloc (.cells #[.slice A0 Wk.length c0,.slice A1 R.length c1] 78)).alloc (.cells #[.slice Al l.length cl,.slice Ac cs.length cc] 80)).alloc (.cells #[.slice Aw tw.length cw,.slice Ar tr.length cr] 86))=w2 at B3 B4 B5 HB hs0 ⊢
 go_loopw [6,7] (λv6 v7 wr=>∃(j:Nat) (i:Int),i=(j:Int)+1/\j+1<=l.length/\v7= .int .i64 i/\v6= .int .i64 (wX R l tr j)/\aa (Below w2.heap.size w2 wr)) (λ_ v7 _=>l.length-(intOf v7).toNat)
 case atStart=>exact⟨0,1,rfl,by omega,rfl,rfl,⟨Below.refl _ _⟩⟩
 case round=>
  obtain⟨j,i,hi,hjl,rfl,rfl,HR⟩:=hrel
  have F8:=aa.mk (HB.out.trans (HR.out.mono HB.out.size))
  have Xz:=aa.mk (B3.out.below HR.out)
  have B4r:=aa.mk (B4.out.below HR.out)
  have B5r:=aa.mk (B5.out.below HR.out)
  have yT:=HR.out.size
  have jB:=Xz.out.cell 0
  have h31:=Xz.out.cell 1
  have lH:=B4r.out.cell 0
  have oI:=B4r.out.cell 1
  have h50:=B5r.out.cell 0
  have CY:=B5r.out.cell 1
  simp only[eP,eO] at jB h31 lH oI h50 CY
  by_cases hij:i<l.length
  .obtain⟨ad,e,hp⟩:=Kd.cK (Kd.av HL.out F8.out) (j:Int) (by omega) (by omega)
   cases e
   obtain⟨ad0,e,hq⟩:=Kd.cK (Kd.av HL.out F8.out) i (by omega) (by omega)
   cases e
   simp only[Int.toNat_natCast] at hp
   have hi0:(0:Int)<=i:=by omega
   have hj0:(j:Int)<l.length:=by omega
   have hw:wrap64 (i-1)=(j:Int):=by unfold wrap64;omega
   have hi1:i=((j+1:Nat):Int):=by omega
   have hro:=DU.out.roads j (by omega)
   have hwb:=vT DU.out j (by omega)
   have hws:wX R l tr (j+1)=wX R l tr j+rd tr (il R (rd l (j:Int)) (rd l ((j+1:Nat):Int))):=rfl
   rw[<- hi1] at hro hws
   obtain⟨y0,hy0⟩:∃x,rd l (j:Int)=x:=⟨_,rfl⟩
   obtain⟨y1,hy1⟩:∃x,rd l i=x:=⟨_,rfl⟩
   rw[hy0] at hp hro hws
   rw[hy1] at hq hro hws
   obtain⟨ri,Yq⟩:∃x,il R y0 y1=x:=⟨_,rfl⟩
   rw[Yq] at hro hws
   obtain⟨ahg,ahf,abC,abB⟩:=hro
   obtain⟨ar,e,ht⟩:=Kd.cK (Kd.av HTR.out F8.out) ri ahg ahf
   cases e
   obtain⟨y,hy⟩:∃x,rd tr ri=x:=⟨_,rfl⟩
   rw[hy] at ht hws abC abB
   obtain⟨sm,hsm⟩:∃x,wX R l tr j=x:=⟨_,rfl⟩
   rw[hsm] at hwb hws
   rw[hsm]
   have hsum:wrap64 (sm+y)=sm+y:=IntWalk.wrap64_in _ (by omega)
   have HI:=aa.mk hi
   have Xe:=aa.mk hws
   have HRI:=aa.mk Yq
   clear hy0 hy1 hi1 hi hws Yq hy hsm hwb abC abB
   go_wp2_with fail
   refine dB (n:=20) (S:=λw'=>w'.cell? ⟨w.heap.size,0,none⟩=some (.slice A0 Wk.length c0)/\w'.cell? ⟨w.heap.size,1,none⟩=some (.slice A1 R.length c1)/\w'.cell? ⟨w.heap.size+1,0,none⟩=some (.slice (some ad) l.length cl)/\w'.cell? (ad.add j)=some (.int .i64 y0)/\w'.cell? (ad.add i.toNat)=some (.int .i64 y1)/\w'.cell? ⟨w.heap.size+1+1,1,none⟩=some (.slice (some ar) tr.length cr)/\w'.cell? (ar.add ri.toNat)=some (.int .i64 y)) (ds:=[]) #[O,O,O,O,O,O,O,O,O,O,O,O,O,O,O,O,O,O,O,O] (by kernel_rfl) rfl rfl ⟨jB,h31,lH,hp,hq,CY,ht⟩ (λhHeld=>?_);refine bu tf.yI tf.rC (λak bN=>?_)
   have HH:=aa.mk (H.out.below (aM F8.out))
   have PI:=aa.mk (aM HR.out)
   clear F8 HR Xz B4r B5r jB h31 lH oI h50 CY hp hq ht
   generalize wr.drew=wd at HH PI hHeld ⊢
   refine aZ 0 17 #[I,O,O,O,O,O,O,O,O,O,O,O,O,O,O,O,O,O,O,O] ak (h:=?_)
   refine aZ 1 18 #[I,I,O,O,O,O,O,O,O,O,O,O,O,O,O,O,O,O,O,O] ak (h:=?_)
   refine dG 2 19 #[I,I,I,O,O,O,O,O,O,O,O,O,O,O,O,O,O,O,O,O] ak bN hHeld (hy:=by(rintro w' ⟨s0,s1,s2,s3,s4,s5,s6⟩;go_simp;with_reducible rfl)) (h:=?_)
   refine dG 3 20 #[I,I,I,I,O,O,O,O,O,O,O,O,O,O,O,O,O,O,O,O] ak bN hHeld (hy:=by(rintro w' ⟨s0,s1,s2,s3,s4,s5,s6⟩;go_simp;with_reducible rfl)) (h:=?_)
   refine aZ 4 21 #[I,I,I,I,I,O,O,O,O,O,O,O,O,O,O,O,O,O,O,O] ak (h:=?_)
   refine dG 5 22 #[I,I,I,I,I,I,O,O,O,O,O,O,O,O,O,O,O,O,O,O] ak bN hHeld (hy:=by(rintro w' ⟨s0,s1,s2,s3,s4,s5,s6⟩;go_simp;with_reducible rfl)) (h:=?_)
   refine aZ 6 23 #[I,I,I,I,I,I,I,O,O,O,O,O,O,O,O,O,O,O,O,O] ak (h:=?_)
   refine aZ 7 24 #[I,I,I,I,I,I,I,I,O,O,O,O,O,O,O,O,O,O,O,O] ak (h:=?_)
   refine aZ 8 25 #[I,I,I,I,I,I,I,I,I,O,O,O,O,O,O,O,O,O,O,O] ak (h:=?_)
   refine dG 9 26 #[I,I,I,I,I,I,I,I,I,I,O,O,O,O,O,O,O,O,O,O] ak bN hHeld (hy:=by(rintro w' ⟨s0,s1,s2,s3,s4,s5,s6⟩;go_simp;with_reducible rfl)) (h:=?_)
   refine aZ 10 27 #[I,I,I,I,I,I,I,I,I,I,I,O,O,O,O,O,O,O,O,O] ak (h:=?_)
   refine dG 11 28 #[I,I,I,I,I,I,I,I,I,I,I,I,O,O,O,O,O,O,O,O] ak bN hHeld (hy:=by(rintro w' ⟨s0,s1,s2,s3,s4,s5,s6⟩;go_simp;with_reducible rfl)) (h:=?_)
   refine aZ 12 29 #[I,I,I,I,I,I,I,I,I,I,I,I,I,O,O,O,O,O,O,O] ak (h:=?_)
   refine aZ 13 30 #[I,I,I,I,I,I,I,I,I,I,I,I,I,I,O,O,O,O,O,O] ak (h:=?_)
   refine dG 14 31 #[I,I,I,I,I,I,I,I,I,I,I,I,I,I,I,O,O,O,O,O] ak bN hHeld (hy:=by(rintro w' ⟨s0,s1,s2,s3,s4,s5,s6⟩;go_simp;with_reducible rfl)) (h:=?_)
   refine dO (i:=15) (N:=some 32) #[I,I,I,I,I,I,I,I,I,I,I,I,I,I,I,I,O,O,O,O] rfl rfl (aI ak.out (by kernel_rfl)) (by decide) (λK hK=>?_)
   refine bW Tryz.func97 (by kernel_rfl) rfl #[.agg #[.slice A0 Wk.length c0,.slice A1 R.length c1],.int .i64 y0,.int .i64 y1] (by rfl) rfl rfl (by(try simp only[List.map_toArray,List.map_cons,List.map_nil]);rfl) ?_
   refine(wo y0 y1 HH.out).mono ?_
   rintro e_ w_ ⟨rfl,hbx⟩
   refine⟨_,rfl,hK.out _ _ ⟨(hbx.cell (World.block_lt_of_cell? _ _ hHeld.1)).trans hHeld.1,(hbx.cell (World.block_lt_of_cell? _ _ hHeld.2.1)).trans hHeld.2.1,(hbx.cell (World.block_lt_of_cell? _ _ hHeld.2.2.1)).trans hHeld.2.2.1,(hbx.cell (World.block_lt_of_cell? _ _ hHeld.2.2.2.1)).trans hHeld.2.2.2.1,(hbx.cell (World.block_lt_of_cell? _ _ hHeld.2.2.2.2.1)).trans hHeld.2.2.2.2.1,(hbx.cell (World.block_lt_of_cell? _ _ hHeld.2.2.2.2.2.1)).trans hHeld.2.2.2.2.2.1,(hbx.cell (World.block_lt_of_cell? _ _ hHeld.2.2.2.2.2.2)).trans hHeld.2.2.2.2.2.2⟩ (λhHeld=>?_)⟩
   clear hK K
   have HRx:=aa.mk (PI.out.trans (hbx.mono PI.out.size))
   rw[HRI.out]
   clear hbx HH PI
   refine iY ?_
   refine aZ 16 33 #[I,I,I,I,I,I,I,I,I,I,I,I,I,I,I,I,I,O,O,O] ak (h:=?_)
   refine dG 17 34 #[I,I,I,I,I,I,I,I,I,I,I,I,I,I,I,I,I,I,O,O] ak bN hHeld (hy:=by(rintro w' ⟨s0,s1,s2,s3,s4,s5,s6⟩;go_simp;with_reducible rfl)) (h:=?_)
   refine aZ 18 35 #[I,I,I,I,I,I,I,I,I,I,I,I,I,I,I,I,I,I,I,O] ak (h:=?_)
   refine aZ 19 6 #[I,I,I,I,I,I,I,I,I,I,I,I,I,I,I,I,I,I,I,I] ak (h:=?_)
   refine dK (bG ak.out (by kernel_rfl)) ?_
   go_wp2_with fail
   go_roundw
   case rel=>exact⟨j+1,i+1,by have:=HI.out;omega,by have:=HI.out;omega,by have:=HI.out;go_num,by rw[Xe.out],HRx⟩
   case measure=>have:=HI.out;simp[intOf];omega
  .have hij1:decide (i<(l.length:Int))=false:=by simpa using hij
   have SH:=aa.mk (show l.length-1=j by omega)
   clear hi hij
   have hwb:=vT DU.out j (by omega)
   obtain⟨sm,hsm⟩:∃x,wX R l tr j=x:=⟨_,rfl⟩
   rw[hsm] at hwb
   rw[hsm]
   have FZ:=aa.mk hsm
   clear hsm
   go_wp2_with fail
   go_loopw [6,39] (λv6 v39 wq=>∃k:Nat,k<=cs.length/\v39= .int .i64 k/\v6= .int .i64 (sm+Ci cs tw k)/\wq=wr) (λ_ v39 _=>cs.length-(intOf v39).toNat)
   case atStart=>exact⟨0,Nat.zero_le _,rfl,by simp[Ci],rfl⟩
   case round=>
    obtain⟨k,hk,rfl,rfl,rfl⟩:=hrel
    by_cases hkl:k<cs.length
    .obtain⟨ad,e,hx⟩:=Kd.cK (Kd.av Nv.out F8.out) (k:Int) (by omega) (by omega)
     cases e
     simp only[Int.toNat_natCast] at hx
     have hwo:=DU.out.works k hkl
     have YR:=Ch DU.out k hk
     have hws:Ci cs tw (k+1)=Ci cs tw k+rd tw (rd cs (k:Int)):=rfl
     obtain⟨n,hn⟩:∃x,rd cs (k:Int)=x:=⟨_,rfl⟩
     rw[hn] at hx hwo hws
     obtain⟨hn0,hn1,hn2,hn3⟩:=hwo
     obtain⟨aw,e,ht⟩:=Kd.cK (Kd.av TD.out F8.out) n hn0 hn1
     cases e
     obtain⟨y,hy⟩:∃x,rd tw n=x:=⟨_,rfl⟩
     rw[hy] at ht hws hn2 hn3
     obtain⟨sn,hsn⟩:∃x,Ci cs tw k=x:=⟨_,rfl⟩
     rw[hsn] at YR hws
     rw[hsn]
     have hsum:wrap64 (sm+sn+y)=sm+sn+y:=IntWalk.wrap64_in _ (by omega)
     have Xe:=aa.mk hws
     clear hn hy hsn hws
     go_wp2_with fail
     go_roundw
     case rel=>exact⟨k+1,by omega,by go_num,by rw[Xe.out,Int.add_assoc],trivial⟩
     case measure=>simp[intOf];omega
    .obtain rfl:k=cs.length:=by omega
     go_wp2_with fail
     go_ret
     exact⟨fC (by unfold kY;rw[SH.out,FZ.out]),F8.out⟩
end Go.Proofs.YtkjoilgpmngndaaGreat.Wk
