import Derived.Laws.Cover3
import Derived.Test.YtkjoilgpmngndaaGreatQ12
import Derived.Test.YtkjoilgpmngndaaGreatQ17
set_option linter.all false
namespace Go.Proofs.YtkjoilgpmngndaaGreat
open Go.RowKit Go.Shelf Go.Proofs.YtkjoilgpmngndaaGreat.av Go.Proofs.YtkjoilgpmngndaaGreatW.aA Go.Proofs.YtkjoilgpmngndaaGreatW.aJ
theorem UZ(a:Option Addr)(l c:Nat)(w:World):(binOp .eql 22 (.slice a l c) (.slice none 0 0)).run Tryz.prog w= .ok (.bool a.isNone) w:=by
 simp only[binOp]
 simp[run_equal_slice_nil w 22 3 a l c Tryz.underlying22]
theorem Zd(a:Option Addr)(l c:Nat)(w:World):(binOp .neq 22 (.slice a l c) (.slice none 0 0)).run Tryz.prog w= .ok (.bool (!a.isNone)) w:=run_neq_slice_nil w 22 3 a l c Tryz.underlying22
attribute [local go_sem] UZ Zd
theorem info3:(Tryz.prog.info? 3).map (fun i=>(i.zero,i.size,i.bytes))=some (some (.int .i64 0),1,8):=by kernel_rfl
set_option maxRecDepth 100000 in
set_option maxHeartbeats 4000000 in
theorem Im{ad:Addr}{c:Nat}{xs:List Int}(w:World)(hC:(Kd.int .i64).C w (some ad) xs.length xs)(hx:xs.length<=1000):
  Calls Tryz.prog 95 #[.slice (some ad) xs.length c] w fun e w'=>∃v,e= .returned v/\(Kd.int .i64).R 3 w' w.heap.size (fun _=>True) v xs/\Below w.heap.size w w':=by
 have HC:=aa.mk hC
 clear hC
 go_enter Tryz.func95,Tryz.ntmps95
 go_wp2_with (first|((with_reducible refine bY (N:=5) rfl ?_);refine Kd.KU (Kd.int .i64) w.heap.size 3 ?hg (N:=5) ?hd (xs:=([]:List Int)) (inner:=[]) (ok:=fun _=>True) (okp:=fun _=>True) ?hr ?hp (fun _ hk=>hk) trivial (Below.refl _ _) (Nat.le_refl _) (by simp) ?_;(case hd=>rfl);(case hg=>rfl);(case hr=>first|(go_simp;done)|(go_simp;rfl));(case hp=>exact(dS.none _ _));intro v1 w1 hr1 hb1 hg1 sQ;have QO:=aa.mk (Kd.aK HC.out hb1);have hsz1:=hb1.size;have HR1:=aa.mk hr1;have HB1:=aa.mk hb1;clear hr1 hb1 hg1 sQ)|((with_reducible refine cO (b:= .append) (xs:=#[.tmp 5,.tmp 6]) rfl ?_);refine Kd.kF (Kd.int .i64) (w0:=w) w.heap.size rfl (.tmp 5) (.tmp 6) 22 3 (.int .i64 0) 8 rfl Tryz.underlying22 info3 rfl (by decide) (by omega) v1 [] xs _ _ _ (fun _=>True) (fun _=>False) rfl rfl HR1.out QO.out (fun x cs h=>h) (fun _ hk=>hk.elim) (fun _ _=>trivial) HB1.out hsz1 ?aL ?_;(case aL=>(simp only[List.length_nil];omega));intro vn wn hon hbn hgn fP;have uU:=aa.mk hon;have BZ:=aa.mk hbn;clear hon hbn hgn fP))
 go_ret
 exact⟨_,rfl,uU.out,BZ.out⟩
set_option maxRecDepth 100000 in
set_option maxHeartbeats 4000000 in
theorem SY{w:World}{g:Nat}{l:Nat->Int}(h:aR w g (bJ l) 121)(n:Nat)(hn:n<=8):(Kd.int .i64).C w (some ⟨g,0,none⟩) n ((List.range n).map l):=by
 refine⟨by simp,by omega,fun h0=>⟨_,rfl,fun j p hj=>?_⟩⟩
 obtain⟨hjl,hjp⟩:=List.getElem?_eq_some_iff.1 hj
 simp only[List.length_map,List.length_range] at hjl
 refine⟨[.int .i64 p],rfl,rfl,fun i u hu=>?_⟩
 obtain rfl:i=0:=by
  rcases Nat.eq_zero_or_pos i with e|e
  .exact e
  .rw[List.getElem?_eq_none (by simp only[List.length_cons,List.length_nil];omega)] at hu
   cases hu
 obtain rfl:Value.int .i64 p=u:=by simpa using hu
 rw[Iy]
 have hc:=h.cell j
 rw[gJ l j (by omega)] at hc
 have hp:l j=p:=by rw[<- hjp];simp
 rw[<- hp,show j*(Kd.int .i64).sz+0=j from by show j*1+0=j;omega]
 simpa using hc
set_option maxRecDepth 100000 in
set_option maxHeartbeats 40000000 in
theorem ML{A0:Option Addr}{c0:Nat}{old:List Int}{nw:Int}{A2:Option Addr}{c2:Nat}{ss:List bH}{A3:Option Addr}{c3:Nat}{js:List bS}{w:World}{gw mb:Nat}(hw:Xl w gw mb A0 c0 old nw A2 c2 ss A3 c3 js)(hss:ss.length<=8)(h0:0<ss.length)(l:Nat->Int):
  Calls Tryz.prog 51 #[.pointer (some ⟨gw,0,none⟩),sS l] w fun e w'=>∃v,e= .returned v/\(Kd.int .i64).R 3 w' w.heap.size (fun _=>True) v ((List.range ss.length).map l)/\Below w.heap.size w w':=by
 have HW:=aa.mk hw
 clear hw
 unfold sS
 go_enter Tryz.func51,Tryz.ntmps51
 have hc2:=HW.out.blk.cell 2
 simp only[List.getElem?_cons_zero,List.getElem?_cons_succ] at hc2
 have hgw:=HW.out.blk.lt
 have hl0:(0:Int)<=(ss.length:Int):=by omega
 have hl8:(ss.length:Int)<=8:=by omega
 go_wp2_with fail
 have HB1:=aa.mk (ae (Below.refl w.heap.size w) (.cells #[.int .i64 (l 0),.int .i64 (l 1),.int .i64 (l 2),.int .i64 (l 3),.int .i64 (l 4),.int .i64 (l 5),.int .i64 (l 6),.int .i64 (l 7)] 121))
 have B1:=aa.mk (show aR (w.alloc (.cells #[.int .i64 (l 0),.int .i64 (l 1),.int .i64 (l 2),.int .i64 (l 3),.int .i64 (l 4),.int .i64 (l 5),.int .i64 (l 6),.int .i64 (l 7)] 121)) w.heap.size (bJ l) 121 from aR.new w (bJ l) 121)
 have hs1:w.heap.size<=(w.alloc (.cells #[.int .i64 (l 0),.int .i64 (l 1),.int .i64 (l 2),.int .i64 (l 3),.int .i64 (l 4),.int .i64 (l 5),.int .i64 (l 6),.int .i64 (l 7)] 121)).heap.size:=by simp
 generalize w.alloc (.cells #[.int .i64 (l 0),.int .i64 (l 1),.int .i64 (l 2),.int .i64 (l 3),.int .i64 (l 4),.int .i64 (l 5),.int .i64 (l 6),.int .i64 (l 7)] 121)=w1 at HB1 B1 hs1 ⊢
 have hC:=SY B1.out ss.length hss
 obtain⟨X,hX⟩:∃X,(List.range ss.length).map l=X:=⟨_,rfl⟩
 have hXl:X.length=ss.length:=by rw[<- hX];simp
 rw[hX] at hC
 have HX:=aa.mk hX
 clear hX
 have hcl:=Im (c:=8) (xs:=X) w1 (by rw[hXl];exact hC) (by rw[hXl];omega)
 rw[hXl] at hcl
 refine hcl.mono ?_
 clear hcl hC hXl
 rintro e w2 ⟨v,rfl,hR,hb2⟩
 have HR:=aa.mk hR
 have HB2:=aa.mk (HB1.out.trans (hb2.mono HB1.out.size))
 clear hR hb2
 go_wp2_with fail
 go_ret
 rw[HX.out]
 exact⟨_,rfl,Kd.jD HR.out hs1,HB2.out⟩
def oo(old:List Int)(nw:Int)(ss:List bH)(js:List bS)(lo hi:Int)(m:Nat):Option (Nat×(Nat->Int)):=(moveF (iU old nw ss js lo hi) (kz ss) ss.length nw.toNat ss.length (fun _=>0) (m:Int)).map (fun l=>(m,l))
def qg(old:List Int)(nw:Int)(ss:List bH)(js:List bS)(lo hi:Int):List Int×Int×Int:=
 if jM old nw ss js lo hi=0 then(match (List.range (ss.length+1)).findSome? (oo old nw ss js lo hi) with|none=>([],0,7)|some (m,l)=>((List.range ss.length).map l,(m:Int),0)) else([],0,jM old nw ss js lo hi)
theorem Nt{old:List Int}{nw:Int}{ss:List bH}{js:List bS}{lo hi:Int}(h:jM old nw ss js lo hi=0):gU old nw ss js=0:=by
 unfold jM at h
 by_cases hc:gU old nw ss js=0
 .exact hc
 .rw[if_neg hc] at h
  exact absurd h hc
set_option maxRecDepth 100000 in
set_option maxHeartbeats 40000000 in
theorem BD{A0:Option Addr}{c0:Nat}{old:List Int}{nw:Int}{A2:Option Addr}{c2:Nat}{ss:List bH}{A3:Option Addr}{c3:Nat}{js:List bS}{w:World}(h:uX w A0 c0 old A2 c2 ss A3 c3 js)(lo hi:Int):
  Calls Tryz.prog 17 #[.agg #[.slice A0 old.length c0,.int .i64 nw,.slice A2 ss.length c2,.slice A3 js.length c3],.agg #[.int .i64 lo,.int .i64 hi]] w fun e w'=>(∃v,e= .returned (.tuple #[v,.int .i64 (qg old nw ss js lo hi).2.1,.int .i64 (qg old nw ss js lo hi).2.2])/\(Kd.int .i64).R 3 w' w.heap.size (fun _=>True) v (qg old nw ss js lo hi).1)/\Below w.heap.size w w':=by
 have H:=aa.mk h
 clear h
 go_enter Tryz.func17,Tryz.ntmps17
 go_wp2_with fail
 go_step3
 go_wp2_with fail
 have HB0:=aa.mk (ae (ae (Below.refl w.heap.size w) (.cells #[.slice A0 old.length c0,.int .i64 nw,.slice A2 ss.length c2,.slice A3 js.length c3] 43)) (.cells #[.int .i64 lo,.int .i64 hi] 52))
 have zI:=aa.mk (show aR ((w.alloc (.cells #[.slice A0 old.length c0,.int .i64 nw,.slice A2 ss.length c2,.slice A3 js.length c3] 43)).alloc (.cells #[.int .i64 lo,.int .i64 hi] 52)) w.heap.size [.slice A0 old.length c0,.int .i64 nw,.slice A2 ss.length c2,.slice A3 js.length c3] 43 from(aR.new w [.slice A0 old.length c0,.int .i64 nw,.slice A2 ss.length c2,.slice A3 js.length c3] 43).alloc (.cells #[.int .i64 lo,.int .i64 hi] 52))
 have IQ:=aa.mk (show aR ((w.alloc (.cells #[.slice A0 old.length c0,.int .i64 nw,.slice A2 ss.length c2,.slice A3 js.length c3] 43)).alloc (.cells #[.int .i64 lo,.int .i64 hi] 52)) (w.heap.size+1) [.int .i64 lo,.int .i64 hi] 52 by have hB:=aR.new (w.alloc (.cells #[.slice A0 old.length c0,.int .i64 nw,.slice A2 ss.length c2,.slice A3 js.length c3] 43)) [.int .i64 lo,.int .i64 hi] 52;simp only[World.size_alloc] at hB;exact hB)
 have hs0:w.heap.size+1<((w.alloc (.cells #[.slice A0 old.length c0,.int .i64 nw,.slice A2 ss.length c2,.slice A3 js.length c3] 43)).alloc (.cells #[.int .i64 lo,.int .i64 hi] 52)).heap.size:=by simp
 generalize(w.alloc (.cells #[.slice A0 old.length c0,.int .i64 nw,.slice A2 ss.length c2,.slice A3 js.length c3] 43)).alloc (.cells #[.int .i64 lo,.int .i64 hi] 52)=w0 at HB0 zI IQ hs0 ⊢
 refine(KJ (H.out.below HB0.out) lo hi).mono ?_
 rintro e w1 ⟨v,rfl,hv0,hv1,hb1⟩
 have xK:=aa.mk (zI.out.below hb1)
 have xJ:=aa.mk (IQ.out.below hb1)
 have HB1:=aa.mk (HB0.out.trans (hb1.mono HB0.out.size))
 clear hb1 HB0 zI IQ
 by_cases ha:jM old nw ss js lo hi=0
 rotate_left
 .have hab:(jM old nw ss js lo hi !=0)=true:=by simp[ha]
  have HF:=aa.mk (show qg old nw ss js lo hi=([],0,jM old nw ss js lo hi) by unfold qg;rw[if_neg ha])
  obtain rfl:=hv1 ha
  clear hv0 hv1 ha
  go_wp2_with fail
  rw[Exit.noGoto_ret]
  go_ret3
  rw[HF.out]
  exact⟨⟨_,rfl,Kd.jL _ _ _ _ _⟩,ae HB1.out _⟩
 obtain⟨gw,mb,rfl,hgw,hmb,hw1⟩:=hv0 ha
 obtain⟨ho0,IW,hs1,Dh,hj,hol,hn1,Kl,hst,Si,hjo⟩:=kI (Nt ha)
 have HF:=aa.mk (show qg old nw ss js lo hi=(match (List.range (ss.length+1)).findSome? (oo old nw ss js lo hi) with|none=>([],0,7)|some (m,l)=>((List.range ss.length).map l,(m:Int),0)) by unfold qg;rw[if_pos ha])
 have HW1:=aa.mk hw1
 have HST:=aa.mk hst
 have NM:=aa.mk hol
 rw[ha]
 clear ha hv0 hv1 hw1 hol hst Si hjo hj
 have h20:=xK.out.cell 2
 simp only[List.getElem?_cons_zero,List.getElem?_cons_succ] at h20
 go_wp2_with fail
 have HE4:=aa.mk (show Env w (((w1.alloc (.cells #[.pointer (some ⟨gw,0,none⟩)] 124)).alloc (.cells #[.int .i64 0,.int .i64 0,.int .i64 0,.int .i64 0,.int .i64 0,.int .i64 0,.int .i64 0,.int .i64 0] 121)).alloc (.cells #[.func (.func 49) #[] #[.pointer (some ⟨w1.heap.size,0,none⟩),.pointer (some ⟨w1.heap.size+1,0,none⟩),.pointer (some ⟨w.heap.size+1,0,none⟩),.pointer (some ⟨w1.heap.size+1+1,0,none⟩)]] 129)) w1.heap.size (w1.heap.size+1) (w.heap.size+1) (w1.heap.size+1+1) gw mb lo hi A0 c0 old nw A2 c2 ss A3 c3 js from
  {below:=ae (ae (ae HB1.out (.cells #[.pointer (some ⟨gw,0,none⟩)] 124)) (.cells #[.int .i64 0,.int .i64 0,.int .i64 0,.int .i64 0,.int .i64 0,.int .i64 0,.int .i64 0,.int .i64 0] 121)) (.cells #[.func (.func 49) #[] #[.pointer (some ⟨w1.heap.size,0,none⟩),.pointer (some ⟨w1.heap.size+1,0,none⟩),.pointer (some ⟨w.heap.size+1,0,none⟩),.pointer (some ⟨w1.heap.size+1+1,0,none⟩)]] 129)
   p:=((aR.new w1 [.pointer (some ⟨gw,0,none⟩)] 124).alloc (.cells #[.int .i64 0,.int .i64 0,.int .i64 0,.int .i64 0,.int .i64 0,.int .i64 0,.int .i64 0,.int .i64 0] 121)).alloc (.cells #[.func (.func 49) #[] #[.pointer (some ⟨w1.heap.size,0,none⟩),.pointer (some ⟨w1.heap.size+1,0,none⟩),.pointer (some ⟨w.heap.size+1,0,none⟩),.pointer (some ⟨w1.heap.size+1+1,0,none⟩)]] 129)
   found:=⟨fun _=>0,by have hB:=(aR.new (w1.alloc (.cells #[.pointer (some ⟨gw,0,none⟩)] 124)) (bJ (fun _=>0)) 121).alloc (.cells #[.func (.func 49) #[] #[.pointer (some ⟨w1.heap.size,0,none⟩),.pointer (some ⟨w1.heap.size+1,0,none⟩),.pointer (some ⟨w.heap.size+1,0,none⟩),.pointer (some ⟨w1.heap.size+1+1,0,none⟩)]] 129);simp only[World.size_alloc] at hB;exact hB⟩
   lim:=(((xJ.out.alloc (.cells #[.pointer (some ⟨gw,0,none⟩)] 124)).alloc (.cells #[.int .i64 0,.int .i64 0,.int .i64 0,.int .i64 0,.int .i64 0,.int .i64 0,.int .i64 0,.int .i64 0] 121)).alloc (.cells #[.func (.func 49) #[] #[.pointer (some ⟨w1.heap.size,0,none⟩),.pointer (some ⟨w1.heap.size+1,0,none⟩),.pointer (some ⟨w.heap.size+1,0,none⟩),.pointer (some ⟨w1.heap.size+1+1,0,none⟩)]] 129))
   mv:=by have hB:=aR.new ((w1.alloc (.cells #[.pointer (some ⟨gw,0,none⟩)] 124)).alloc (.cells #[.int .i64 0,.int .i64 0,.int .i64 0,.int .i64 0,.int .i64 0,.int .i64 0,.int .i64 0,.int .i64 0] 121)) [.func (.func 49) #[] #[.pointer (some ⟨w1.heap.size,0,none⟩),.pointer (some ⟨w1.heap.size+1,0,none⟩),.pointer (some ⟨w.heap.size+1,0,none⟩),.pointer (some ⟨w1.heap.size+1+1,0,none⟩)]] 129;simp only[World.size_alloc] at hB;exact hB
   wk:=⟨((HW1.out.blk.alloc (.cells #[.pointer (some ⟨gw,0,none⟩)] 124)).alloc (.cells #[.int .i64 0,.int .i64 0,.int .i64 0,.int .i64 0,.int .i64 0,.int .i64 0,.int .i64 0,.int .i64 0] 121)).alloc (.cells #[.func (.func 49) #[] #[.pointer (some ⟨w1.heap.size,0,none⟩),.pointer (some ⟨w1.heap.size+1,0,none⟩),.pointer (some ⟨w.heap.size+1,0,none⟩),.pointer (some ⟨w1.heap.size+1+1,0,none⟩)]] 129),HW1.out.jm.move ((Below.heap_alloc _ _ _ (by have:=HW1.out.jm.lt;simp;omega)).trans ((Below.heap_alloc _ _ _ (by have:=HW1.out.jm.lt;simp;omega)).trans (Below.heap_alloc _ _ _ HW1.out.jm.lt)))⟩
   ne:=⟨by omega,by have:=xJ.out.lt;omega,by omega,by have:=HW1.out.blk.lt;omega,by have:=HW1.out.jm.lt;omega⟩
   lo:=by have:=HB1.out.size;omega})
 have B24:=aa.mk (((xK.out.alloc (.cells #[.pointer (some ⟨gw,0,none⟩)] 124)).alloc (.cells #[.int .i64 0,.int .i64 0,.int .i64 0,.int .i64 0,.int .i64 0,.int .i64 0,.int .i64 0,.int .i64 0] 121)).alloc (.cells #[.func (.func 49) #[] #[.pointer (some ⟨w1.heap.size,0,none⟩),.pointer (some ⟨w1.heap.size+1,0,none⟩),.pointer (some ⟨w.heap.size+1,0,none⟩),.pointer (some ⟨w1.heap.size+1+1,0,none⟩)]] 129))
 generalize(((w1.alloc (.cells #[.pointer (some ⟨gw,0,none⟩)] 124)).alloc (.cells #[.int .i64 0,.int .i64 0,.int .i64 0,.int .i64 0,.int .i64 0,.int .i64 0,.int .i64 0,.int .i64 0] 121)).alloc (.cells #[.func (.func 49) #[] #[.pointer (some ⟨w1.heap.size,0,none⟩),.pointer (some ⟨w1.heap.size+1,0,none⟩),.pointer (some ⟨w.heap.size+1,0,none⟩),.pointer (some ⟨w1.heap.size+1+1,0,none⟩)]] 129))=w4 at HE4 B24 ⊢
 have h24:=B24.out.cell 2
 simp only[List.getElem?_cons_zero,List.getElem?_cons_succ] at h24
 go_step3
 go_wp2_with fail
 have acR:=HB1.out.size
 have alE:=aa.mk acR
 clear HB1 xK xJ HW1 B24 h24 h20 acR
 obtain⟨gp,Ow⟩:∃g,w1.heap.size=g:=⟨_,rfl⟩
 obtain⟨gf,hgf⟩:∃g,gp+1=g:=⟨_,rfl⟩
 obtain⟨gm,hgm⟩:∃g,gf+1=g:=⟨_,rfl⟩
 obtain⟨gl,hgl⟩:∃g,w.heap.size+1=g:=⟨_,rfl⟩
 rw[Ow,hgf,hgm,hgl] at HE4
 rw[Ow,hgf,hgm,hgl]
 clear Ow hgf hgm hgl alE
 go_loopw [10,11,26] (fun v10 v11 v26 wr=>∃k:Nat,k<=ss.length+1/\v26= .int .i64 k/\v11= .bool false/\aa (Env w wr gp gf gl gm gw mb lo hi A0 c0 old nw A2 c2 ss A3 c3 js)/\aa (∀j:Nat,j<k->oo old nw ss js lo hi j=none)) (fun _ _ v26 _=>ss.length+1-(intOf v26).toNat)
 case atStart=>exact⟨0,Nat.zero_le _,rfl,rfl,HE4,⟨fun j hj=>absurd hj (Nat.not_lt_zero _)⟩⟩
 case round=>
  clear HE4
  obtain⟨k,hk,rfl,rfl,HE,HJ⟩:=hrel
  by_cases hkl:k<ss.length+1
  .have D8:decide ((k:Int)<(ss.length:Int)+1)=true:=by simp;omega
   have hmv:=MJ (gp:=gp) (gf:=gf) (gl:=gl) (gm:=gm) (gw:=gw) (mb:=mb) (lo:=lo) (hi:=hi) H.out Dh HST.out NM.out IW hn1 Kl ss.length (Nat.le_refl _) (fun _=>0) (k:Int) (by omega) (by omega) wr HE.out
   rw[show((ss.length-ss.length:Nat):Int)=0 by omega] at hmv
   unfold sS at hmv
   have HMV:=aa.mk hmv
   have X5:oo old nw ss js lo hi k=(moveF (iU old nw ss js lo hi) (kz ss) ss.length nw.toNat ss.length (fun _=>0) (k:Int)).map (fun l=>(k,l)):=rfl
   have hm0:=HE.out.mv.cell 0
   simp only[List.getElem?_cons_zero] at hm0
   clear hmv
   go_wp2_with fail
   refine HMV.out.mono ?_
   clear HMV hm0
   rintro e w5 ⟨rfl,hr1,hr2,hr3⟩
   have UF:=aa.mk (HE.out.keep hr3 hr2)
   cases hres:moveF (iU old nw ss js lo hi) (kz ss) ss.length nw.toNat ss.length (fun _=>0) (k:Int) with
   |none=>
    rw[hres] at X5
    have HBM:=aa.mk (show oo old nw ss js lo hi k=none from X5)
    clear hres X5 hr1 hr2 hr3 HE
    simp only[Option.isSome_none]
    go_wp2_with fail
    go_roundw
    case rel=>exact⟨k+1,by omega,by go_num,rfl,UF,⟨fun j hj=>if e:j=k then(by rw[e];exact HBM.out) else HJ.out j (by omega)⟩⟩
    case measure=>simp[intOf];omega
   |some l=>
    rw[hres] at X5
    have HBM:=aa.mk (nY HJ.out (show oo old nw ss js lo hi k=some (k,l) from X5) hkl)
    have HR1:=aa.mk (hr1 l hres)
    clear hres X5 hr1 hr2 hr3 HE
    simp only[Option.isSome_some]
    have hp0:=UF.out.p.cell 0
    simp only[List.getElem?_cons_zero] at hp0
    have SX:=HR1.out.cell 0
    have SV:=HR1.out.cell 1
    have SS:=HR1.out.cell 2
    have SQ:=HR1.out.cell 3
    have SN:=HR1.out.cell 4
    have SL:=HR1.out.cell 5
    have SK:=HR1.out.cell 6
    have SI:=HR1.out.cell 7
    simp only[bJ,List.getElem?_cons_zero,List.getElem?_cons_succ] at SX SV SS SQ SN SL SK SI
    go_wp2_with fail
    clear hp0 SX SV SS SQ SN SL SK SI
    refine(ML UF.out.wk Dh hs1 l).mono ?_
    rintro e w6 ⟨v,rfl,hR,hb6⟩
    have HR:=aa.mk hR
    have IG:=aa.mk (UF.out.below.trans (hb6.mono UF.out.below.size))
    have hs5:=UF.out.below.size
    clear hR hb6
    go_wp2_with fail
    rw[Exit.noGoto_ret]
    go_ret3
    rw[HF.out,HBM.out]
    exact⟨⟨_,rfl,Kd.jD HR.out hs5⟩,IG.out⟩
  .obtain rfl:k=ss.length+1:=by omega
   have D8:decide (((ss.length+1:Nat):Int)<(ss.length:Int)+1)=false:=by simp
   have HN:=aa.mk (show(List.range (ss.length+1)).findSome? (oo old nw ss js lo hi)=none from List.findSome?_eq_none_iff.2 (fun j hj=>HJ.out j (List.mem_range.1 hj)))
   go_wp2_with fail
   rw[Exit.noGoto_ret]
   go_ret3
   rw[HF.out,HN.out]
   exact⟨⟨_,rfl,Kd.jL _ _ _ _ _⟩,HE.out.below⟩
end Go.Proofs.YtkjoilgpmngndaaGreat
namespace Go.Proofs.YtkjoilgpmngndaaGreat
open Go.RowKit Go.Shelf Go.Proofs.YtkjoilgpmngndaaGreat.av Go.Proofs.YtkjoilgpmngndaaGreatW.aA Go.Proofs.YtkjoilgpmngndaaGreatW.aJ
structure Ren(n:Nat)(s t:Nat->Nat):Prop where
 um:∀i,i<n->s i<n
 vD:∀i,i<n->t i<n
 ts:∀i,i<n->t (s i)=i
 st:∀i,i<n->s (t i)=i
theorem Ren.symm{n:Nat}{s t:Nat->Nat}(h:Ren n s t):Ren n t s:=⟨h.vD,h.um,h.st,h.ts⟩
theorem Ren.inj{n:Nat}{s t:Nat->Nat}(h:Ren n s t){i k:Nat}(hi:i<n)(hk:k<n)(e:s i=s k):i=k:=by
 rw[<- h.ts i hi,<- h.ts k hk,e]
theorem Ren.perm{n:Nat}{s t:Nat->Nat}(h:Ren n s t):((List.range n).map s).Perm (List.range n):=by
 refine(List.perm_ext_iff_of_nodup ?_ List.nodup_range).2 fun a=>?_
 .refine(List.pairwise_map).2 ?_
  refine List.Pairwise.imp_of_mem ?_ (List.nodup_range (n:=n))
  intro a b ha hb hab e
  exact hab (h.inj (List.mem_range.1 ha) (List.mem_range.1 hb) e)
 .simp only[List.mem_map,List.mem_range]
  constructor
  .rintro⟨i,hi,rfl⟩
   exact h.um i hi
  .intro ha
   exact⟨t a,h.vD a ha,h.st a ha⟩
theorem vF{l l':List Int}(h:l.Perm l'):l.sum=l'.sum:=by
 induction h with
 |nil=>rfl
 |cons x _ ih=>simp[ih]
 |swap x y l=>simp only[List.sum_cons];omega
 |trans _ _ ih1 ih2=>exact ih1.trans ih2
structure fU(ss ss':List bH)(js mG:List bS)(s t:Nat->Nat):Prop where
 ren:Ren ss.length s t
 len:ss'.length=ss.length
 aiT:mG.length=js.length
 get:∀i,i<ss.length->aG ss' i=aG ss (s i)
 jns:∀i k,i<ss.length->k<ss.length->jn mG i k=jn js (s i) (s k)
 jok:mG.all (ni ss.length)=js.all (ni ss.length)
theorem pQ{α:Type}{p q:α->Bool}{l:List α}(h:∀x ∈ l,p x=q x):l.filter p=l.filter q:=by
 induction l with
 |nil=>rfl
 |cons a l ih=>
  rw[List.filter_cons,List.filter_cons,h a List.mem_cons_self,ih (fun x hx=>h x (List.mem_cons_of_mem _ hx))]
theorem uw{α β:Type}{f g:α->β}{l:List α}(h:∀x ∈ l,f x=g x):l.map f=l.map g:=List.map_congr_left h
def pY(s:Nat->Nat)(x:IS):IS:=(s x.1,x.2)
theorem nL{ss ss':List bH}{js mG:List bS}{s t:Nat->Nat}(h:fU ss ss' js mG s t)(d:Int):((dI ss' d ss'.length).map (pY s)).Perm (dI ss d ss.length):=by
 have e:(dI ss' d ss'.length).map (pY s)=(((List.range ss.length).map s).filter (fun i=>(aG ss i).f0==d)).map (fun i=>(i,aG ss i)):=by
  unfold dI
  rw[h.len,List.map_map,List.filter_map,List.map_map]
  rw[pQ (q:=((fun i=>(aG ss i).f0==d)∘s)) (fun x hx=>by rw[h.get x (List.mem_range.1 hx)];rfl)]
  refine uw fun x hx=>?_
  have hx':=List.mem_range.1 (List.mem_filter.1 hx).1
  show(s x,aG ss' x)=(s x,aG ss (s x))
  rw[h.get x hx']
 rw[e]
 exact(h.ren.perm.filter _).map _
theorem AB{ss:List bH}{d:Int}{k:Nat}{x:IS}(h:x ∈ dI ss d k):x.1<k:=by
 unfold dI at h
 obtain⟨i,hi,rfl⟩:=List.mem_map.1 h
 exact List.mem_range.1 (List.mem_filter.1 hi).1
theorem xX(s:Nat->Nat)(xs:List IS):gK (xs.map (pY s))=gK xs:=by
 unfold gK
 rw[List.map_map]
 rfl
theorem yl(s:Nat->Nat)(xs:List IS):gL (xs.map (pY s))=gL xs:=by
 unfold gL
 rw[List.map_map]
 rfl
theorem Ra(s:Nat->Nat)(xs:List IS):mW (xs.map (pY s))=mW xs:=by
 unfold mW
 rw[List.map_map]
 rfl
theorem uz{xs ys:List IS}(h:xs.Perm ys):gK xs=gK ys:=vF (h.map _)
theorem uD{xs ys:List IS}(h:xs.Perm ys):gL xs=gL ys:=vF (h.map _)
theorem Pb{xs ys:List IS}(h:xs.Perm ys):mW xs=mW ys:=vF (h.map _)
theorem fU.gK{ss ss':List bH}{js mG:List bS}{s t:Nat->Nat}(h:fU ss ss' js mG s t)(d:Int):gK (dI ss' d ss'.length)=gK (dI ss d ss.length):=by
 rw[<- xX s,uz (nL h d)]
theorem fU.gL{ss ss':List bH}{js mG:List bS}{s t:Nat->Nat}(h:fU ss ss' js mG s t)(d:Int):gL (dI ss' d ss'.length)=gL (dI ss d ss.length):=by
 rw[<- yl s,uD (nL h d)]
theorem fU.mW{ss ss':List bH}{js mG:List bS}{s t:Nat->Nat}(h:fU ss ss' js mG s t)(d:Int):mW (dI ss' d ss'.length)=mW (dI ss d ss.length):=by
 rw[<- Ra s,Pb (nL h d)]
theorem P9{s:Nat->Nat}{p p':Int->Bool}{xs ys:List IS}(h:(xs.map (pY s)).Perm ys)(hp:∀x ∈ xs,p' (x.1:Int)=p (s x.1:Int)):
  ((lV p' xs).map (pY s)).Perm (lV p ys)/\((kD p' xs).map (pY s)).Perm (kD p ys):=by
 constructor
 .have e:(lV p' xs).map (pY s)=(xs.map (pY s)).filter (fun x=>p (x.1:Int)):=by
   unfold lV
   rw[List.filter_map]
   exact congrArg _ (pQ fun x hx=>hp x hx)
  rw[e]
  exact h.filter _
 .have e:(kD p' xs).map (pY s)=(xs.map (pY s)).filter (fun x=>!p (x.1:Int)):=by
   unfold kD
   rw[List.filter_map]
   exact congrArg _ (pQ fun x hx=>by rw[hp x hx];rfl)
  rw[e]
  exact h.filter _
theorem fU.part{ss ss':List bH}{js mG:List bS}{s t:Nat->Nat}(h:fU ss ss' js mG s t)(old:List Int)(d:Int){p p':Int->Bool}(hp:∀i:Nat,i<ss.length->p' (i:Int)=p (s i:Int)):je old ss' d p'=je old ss d p:=by
 have hq:=P9 (p:=p) (p':=p') (nL h d) (fun x hx=>hp x.1 (by have:=AB hx;rw[h.len] at this;exact this))
 unfold je
 rw[<- xX s (lV p' _),<- yl s (kD p' _),<- yl s (lV p' _),<- xX s (kD p' _),uz hq.1,uD hq.2,uD hq.1,uz hq.2]
theorem fU.size{ss ss':List bH}{js mG:List bS}{s t:Nat->Nat}(h:fU ss ss' js mG s t)(old:List Int){l l':Nat->Int}(hl:∀i,i<ss.length->l' i=l (s i))(D:Int):mM old ss' l' D=mM old ss l D:=by
 have e:∀d:Nat,je old ss' (d:Int) (fun i=>l' i.toNat==D)=je old ss (d:Int) (fun i=>l i.toNat==D):=fun d=>
  h.part old d (fun i hi=>by show(l' (i:Int).toNat==D)=(l (s i:Int).toNat==D);rw[Int.toNat_natCast,Int.toNat_natCast,hl i hi])
 unfold mM jd
 simp only[e]
theorem fU.own{ss ss':List bH}{js mG:List bS}{s t:Nat->Nat}(h:fU ss ss' js mG s t)(i:Nat)(hi:i<ss.length):kz ss' i=kz ss (s i):=by
 unfold kz
 rw[if_pos (by rw[h.len];exact hi),if_pos (h.ren.um i hi),h.get i hi]
theorem TA(ss:List bH)(p:bH->Bool):ss.all p=(List.range ss.length).all (fun i=>p (aG ss i)):=by
 rw[Bool.eq_iff_iff,List.all_eq_true,List.all_eq_true]
 constructor
 .intro h i hi
  have hi':=List.mem_range.1 hi
  refine h _ ?_
  have e:aG ss i=ss[i]:=by simp[aG,fI,List.getD,hi']
  rw[e]
  exact List.getElem_mem hi'
 .intro h x hx
  obtain⟨i,hi,rfl⟩:=List.mem_iff_getElem.1 hx
  have:=h i (List.mem_range.2 hi)
  have e:aG ss i=ss[i]:=by simp[aG,fI,List.getD,hi]
  rw[e] at this
  exact this
theorem uR{α:Type}{p q:α->Bool}{l:List α}(h:∀x ∈ l,p x=q x):l.all p=l.all q:=by
 induction l with
 |nil=>rfl
 |cons a l ih=>
  rw[List.all_cons,List.all_cons,h a List.mem_cons_self,ih (fun x hx=>h x (List.mem_cons_of_mem _ hx))]
theorem fU.all{ss ss':List bH}{js mG:List bS}{s t:Nat->Nat}(h:fU ss ss' js mG s t)(p:bH->Bool):ss'.all p=ss.all p:=by
 rw[TA ss',TA ss,h.len]
 refine Eq.trans ?_ (h.ren.perm.all_eq (f:=fun i=>p (aG ss i)))
 rw[List.all_map]
 exact uR fun i hi=>by rw[h.get i (List.mem_range.1 hi)];rfl
theorem fU.UL{ss ss':List bH}{js mG:List bS}{s t:Nat->Nat}(h:fU ss ss' js mG s t)(no:Nat):jc no ss'=jc no ss:=by
 unfold jc
 simp only[h.mW]
theorem fU.chk{ss ss':List bH}{js mG:List bS}{s t:Nat->Nat}(h:fU ss ss' js mG s t)(old:List Int)(nw:Int):gU old nw ss' mG=gU old nw ss js:=by
 unfold gU
 rw[h.all,h.UL,h.len,h.aiT,h.jok]
theorem fU.cons{ss ss':List bH}{js mG:List bS}{s t:Nat->Nat}(h:fU ss ss' js mG s t)(old:List Int)(nw:Int):gY old nw ss' mG=gY old nw ss js:=by
 have e:yQ old ss'=yQ old ss:=by
  funext d
  unfold yQ
  rw[h.gK,h.gL]
 unfold gY
 rw[h.chk,e]
theorem fU.zm{ss ss':List bH}{js mG:List bS}{s t:Nat->Nat}(h:fU ss ss' js mG s t)(old:List Int)(nw:Int):eO old nw ss' mG=(if gY old nw ss js=0 then((List.range ss.length).map (fun i=>Uv (je old ss (aG ss (s i)).f0 (fun x=>x==(s i:Int)))),0) else([],gY old nw ss js)):=by
 unfold eO
 rw[h.cons]
 refine congrArg (fun z=>if gY old nw ss js=0 then(z,(0:Int)) else([],gY old nw ss js)) ?_
 unfold iL
 rw[h.len]
 refine uw fun i hi=>?_
 have hi':=List.mem_range.1 hi
 show Uv (je old ss' (aG ss' i).f0 (fun x=>x==(i:Int)))=_
 rw[h.get i hi',h.part old _ (p:=fun x=>x==(s i:Int)) (fun k hk=>?_)]
 show((k:Int)==(i:Int))=((s k:Int)==(s i:Int))
 rw[Bool.eq_iff_iff,beq_iff_eq,beq_iff_eq]
 constructor
 .intro e
  rw[Int.ofNat_inj.1 e]
 .intro e
  rw[h.ren.inj hk hi' (Int.ofNat_inj.1 e)]
theorem fU.bounds{ss ss':List bH}{js mG:List bS}{s t:Nat->Nat}(h:fU ss ss' js mG s t)(old:List Int)(nw:Int):jP old nw ss' mG=jP old nw ss js:=by
 have e:∀d:Nat,mM old ss' (kz ss') (d:Int)=mM old ss (kz ss) (d:Int):=fun d=>h.size old h.own d
 unfold jP jX
 rw[h.cons]
 simp only[e]
theorem tH(l:Nat->Int)(d:Int)(k:Nat):(di l d k).Nodup:=List.nodup_range.filter _
theorem gu{l:Nat->Int}{d:Int}{k x:Nat}:x ∈ di l d k↔x<k/\l x=d:=by
 unfold di
 rw[List.mem_filter,List.mem_range,beq_iff_eq]
theorem fU.conn{ss ss':List bH}{js mG:List bS}{s t:Nat->Nat}(h:fU ss ss' js mG s t){l l':Nat->Int}(hl:∀i,i<ss.length->l' i=l (s i))(D:Int):qf (jn mG) (di l' D ss'.length)=qf (jn js) (di l D ss.length):=by
 rw[Bool.eq_iff_iff,yx (zq mG) (tH _ _ _),yx (zq js) (tH _ _ _),h.len]
 constructor
 .refine tY.map s (fun x hx y hy=>?_) (fun y=>?_)
  .rw[h.jns x y (gu.1 hx).1 (gu.1 hy).1]
  .constructor
   .intro hy
    obtain⟨h1,h2⟩:=gu.1 hy
    exact⟨t y,gu.2 ⟨h.ren.vD y h1,by rw[hl _ (h.ren.vD y h1),h.ren.st y h1,h2]⟩,(h.ren.st y h1).symm⟩
   .rintro⟨x,hx,rfl⟩
    obtain⟨h1,h2⟩:=gu.1 hx
    exact gu.2 ⟨h.ren.um x h1,by rw[<- hl x h1,h2]⟩
 .refine tY.map t (fun x hx y hy=>?_) (fun y=>?_)
  .have hx1:=(gu.1 hx).1
   have hy1:=(gu.1 hy).1
   rw[h.jns _ _ (h.ren.vD x hx1) (h.ren.vD y hy1),h.ren.st x hx1,h.ren.st y hy1]
  .constructor
   .intro hy
    obtain⟨h1,h2⟩:=gu.1 hy
    exact⟨s y,gu.2 ⟨h.ren.um y h1,by rw[<- hl y h1,h2]⟩,(h.ren.ts y h1).symm⟩
   .rintro⟨x,hx,rfl⟩
    obtain⟨h1,h2⟩:=gu.1 hx
    exact gu.2 ⟨h.ren.vD x h1,by rw[hl _ (h.ren.vD x h1),h.ren.st x h1,h2]⟩
theorem fU.apart{ss ss':List bH}{js mG:List bS}{s t:Nat->Nat}(h:fU ss ss' js mG s t)(old:List Int)(nw:Int):lJ old nw ss' mG=lJ old nw ss js:=by
 have e:qP ss' mG=qP ss js:=by
  funext d
  unfold qP
  rw[h.conn h.own]
 unfold lJ ku
 rw[h.chk,e]
theorem fU.right{ss ss':List bH}{js mG:List bS}{s t:Nat->Nat}(h:fU ss ss' js mG s t)(old:List Int)(nw lo hi:Int){l l':Nat->Int}(hl:∀i,i<ss.length->l' i=l (s i)):iU old nw ss' mG lo hi l'=iU old nw ss js lo hi l:=by
 unfold iU
 refine uR fun d _=>?_
 unfold okB
 rw[h.size old hl,h.conn hl]
def qz(own g:Nat->Int)(n r:Nat):Nat:=(List.range r).countP (fun j=>g (n-(j+1)) !=own (n-(j+1)))
theorem yK(own g:Nat->Int)(n r:Nat):qz own g n (r+1)=qz own g n r+(if g (n-(r+1))≠own (n-(r+1)) then 1 else 0):=by
 unfold qz
 rw[List.range_succ,List.countP_append,List.countP_singleton]
 by_cases h:g (n-(r+1))=own (n-(r+1))<;>simp[h]
theorem PT(own g:Nat->Int)(n r:Nat):qz own g n r<=r:=by
 have:=List.countP_le_length (p:=fun j=>g (n-(j+1)) !=own (n-(j+1))) (l:=List.range r)
 rw[List.length_range] at this
 exact this
theorem vL(R:(Nat->Int)->Bool)(own:Nat->Int)(n nn:Nat):∀(r:Nat),r<=n->∀(l:Nat->Int) (many:Int),0<=many ->
  ((moveF R own n nn r l many).isSome=true↔∃g:Nat->Int,(∀i,i<n-r\/n<=i->g i=l i)/\(∀i,n-r<=i->i<n->∃d:Nat,d<nn/\g i=d)/\(qz own g n r:Int)=many/\R g=true):=by
 intro r
 induction r with
 |zero=>
  intro _ l many hm
  unfold moveF
  constructor
  .intro h
   by_cases h0:0<many
   .rw[if_pos h0] at h
    cases h
   .rw[if_neg h0] at h
    by_cases hR:R l=true
    .exact⟨l,fun _ _=>rfl,fun i h1 h2=>absurd h2 (by omega),by simp[qz];omega,hR⟩
    .rw[if_neg hR] at h
     cases h
  .rintro⟨g,h1,_,h3,h4⟩
   have e:g=l:=funext fun i=>h1 i (by omega)
   subst e
   have:qz own g n 0=0:=rfl
   rw[if_neg (by omega),if_pos h4]
   rfl
 |succ r ih=>
  intro hr l many hm
  obtain⟨q,hq⟩:∃q,n-(r+1)=q:=⟨_,rfl⟩
  have hqr:n-r=q+1:=by omega
  unfold moveF
  rw[hq]
  constructor
  .intro h
   by_cases h0:((r+1:Nat):Int)<many
   .rw[if_pos h0] at h
    cases h
   .rw[if_neg h0,List.findSome?_isSome_iff] at h
    obtain⟨d,hd,h⟩:=h
    have hd':=List.mem_range.1 hd
    by_cases hl:0<=(if(d:Int)≠own q then many-1 else many)
    .rw[if_pos hl] at h
     obtain⟨g,g1,g2,g3,g4⟩:=(ih (by omega) _ _ hl).1 h
     have gq:g q=d:=by rw[g1 q (by omega)];simp[oG]
     refine⟨g,fun i hi=>?_,fun i h1 h2=>?_,?_,g4⟩
     .rw[g1 i (by omega)]
      unfold oG
      rw[if_neg (by omega)]
     .by_cases e:i=q
      .subst e
       exact⟨d,hd',gq⟩
      .exact g2 i (by omega) h2
     .rw[yK,hq,gq]
      push_cast
      rw[g3]
      by_cases e:(d:Int)=own q<;>simp[e]
    .rw[if_neg hl] at h
     cases h
  .rintro⟨g,g1,g2,g3,g4⟩
   have hle:=PT own g n (r+1)
   rw[if_neg (by omega),List.findSome?_isSome_iff]
   obtain⟨d,hd,gq⟩:=g2 q (by omega) (by omega)
   rw[yK,hq,gq] at g3
   refine⟨d,List.mem_range.2 hd,?_⟩
   have h3:(qz own g n r:Int)=(if(d:Int)≠own q then many-1 else many):=by
    by_cases e:(d:Int)=own q
    .rw[if_neg (fun h=>h e)] at g3 ⊢
     omega
    .rw[if_pos e] at g3 ⊢
     omega
   rw[if_pos (by omega)]
   refine(ih (by omega) _ _ (by omega)).2 ⟨g,fun i hi=>?_,fun i h1 h2=>g2 i (by omega) h2,h3,g4⟩
   unfold oG
   by_cases e:i=q
   .rw[if_pos e,e,gq]
   .rw[if_neg e,g1 i (by omega)]
theorem MI(own g:Nat->Int)(n:Nat):qz own g n n=(List.range n).countP (fun i=>g i !=own i):=by
 have h:Ren n (fun j=>n-(j+1)) (fun j=>n-(j+1)):=⟨fun i hi=>by show n-(i+1)<n;omega,fun i hi=>by show n-(i+1)<n;omega,fun i hi=>by show n-(n-(i+1)+1)=i;omega,fun i hi=>by show n-(n-(i+1)+1)=i;omega⟩
 rw[<- h.perm.countP_eq,List.countP_map]
 rfl
theorem Na{n:Nat}{s t:Nat->Nat}(h:Ren n s t){own own' g g':Nat->Int}(ho:∀i,i<n->own' i=own (s i))(hg:∀i,i<n->g' i=g (s i)):(List.range n).countP (fun i=>g' i !=own' i)=(List.range n).countP (fun i=>g i !=own i):=by
 refine Eq.trans ?_ (h.perm.countP_eq (fun i=>g i !=own i))
 rw[List.countP_map]
 refine List.countP_congr fun i hi=>?_
 have hi':=List.mem_range.1 hi
 show(g' i !=own' i)=true↔(g (s i) !=own (s i))=true
 rw[ho i hi',hg i hi']
theorem JO{n nn:Nat}{s t:Nat->Nat}(h:Ren n s t){R R':(Nat->Int)->Bool}{own own':Nat->Int}(ho:∀i,i<n->own' i=own (s i))(hR:∀g g':Nat->Int,(∀i,i<n->g' i=g (s i))->R' g'=R g)(many:Nat)(hm:(moveF R own n nn n (fun _=>0) (many:Int)).isSome=true):(moveF R' own' n nn n (fun _=>0) (many:Int)).isSome=true:=by
 obtain⟨g,g1,g2,g3,g4⟩:=(vL R own n nn n (Nat.le_refl _) _ _ (by omega)).1 hm
 have hg:∀i,i<n->(fun i=>if i<n then g (s i) else 0) i=g (s i):=fun i hi=>by
  show(if i<n then g (s i) else 0)=g (s i)
  rw[if_pos hi]
 refine(vL R' own' n nn n (Nat.le_refl _) _ _ (by omega)).2 ⟨fun i=>if i<n then g (s i) else 0,fun i hi=>?_,fun i h1 h2=>?_,?_,?_⟩
 .show(if i<n then g (s i) else 0)=0
  rw[if_neg (by omega)]
 .obtain⟨d,hd,e⟩:=g2 (s i) (by omega) (h.um i h2)
  exact⟨d,hd,by show(if i<n then g (s i) else 0)=_;rw[if_pos h2,e]⟩
 .rw[MI] at g3 ⊢
  rw[Na h ho hg,g3]
 .rw[hR g _ hg,g4]
theorem PU{n nn:Nat}{s t:Nat->Nat}(h:Ren n s t){R R':(Nat->Int)->Bool}{own own':Nat->Int}(ho:∀i,i<n->own' i=own (s i))(hR:∀g g':Nat->Int,(∀i,i<n->g' i=g (s i))->R' g'=R g)(many:Nat):(moveF R' own' n nn n (fun _=>0) (many:Int)).isSome=(moveF R own n nn n (fun _=>0) (many:Int)).isSome:=by
 rw[Bool.eq_iff_iff]
 constructor
 .refine JO h.symm (fun i hi=>?_) (fun g g' hg=>?_) many
  .rw[ho _ (h.vD i hi),h.st i hi]
  .refine(hR g' g fun i hi=>?_).symm
   rw[hg _ (h.um i hi),h.ts i hi]
 .exact JO h ho hR many
theorem tL{α:Type}{f f':Nat->Option (Nat×α)}(h1:∀m x,f m=some x->x.1=m)(h2:∀m x,f' m=some x->x.1=m)(h:∀m,(f' m).isSome=(f m).isSome):∀l:List Nat,(l.findSome? f').map (fun x=>x.1)=(l.findSome? f).map (fun x=>x.1)
 |[]=>rfl
 |m::l=>by
  rw[List.findSome?_cons,List.findSome?_cons]
  have hm:=h m
  cases e:f m with
  |none=>
   rw[e] at hm
   cases e':f' m with
   |none=>exact tL h1 h2 h l
   |some y=>rw[e'] at hm;cases hm
  |some x=>
   rw[e] at hm
   cases e':f' m with
   |none=>rw[e'] at hm;cases hm
   |some y=>
    show some y.1=some x.1
    rw[h1 m x e,h2 m y e']
theorem fU.Nq{ss ss':List bH}{js mG:List bS}{s t:Nat->Nat}(h:fU ss ss' js mG s t)(old:List Int)(nw lo hi:Int):(qg old nw ss' mG lo hi).2=(qg old nw ss js lo hi).2:=by
 have ea:jM old nw ss' mG lo hi=jM old nw ss js lo hi:=by
  unfold jM
  rw[h.chk,h.cons]
 have ef:((List.range (ss'.length+1)).findSome? (oo old nw ss' mG lo hi)).map (fun x=>x.1)=((List.range (ss.length+1)).findSome? (oo old nw ss js lo hi)).map (fun x=>x.1):=by
  rw[h.len]
  refine tL (fun m x e=>?_) (fun m x e=>?_) (fun m=>?_) _
  .unfold oo at e
   obtain⟨y,_,rfl⟩:=Option.map_eq_some_iff.1 e
   rfl
  .unfold oo at e
   obtain⟨y,_,rfl⟩:=Option.map_eq_some_iff.1 e
   rfl
  .unfold oo
   rw[Option.isSome_map,Option.isSome_map,h.len]
   exact PU h.ren h.own (fun g g' hg=>h.right old nw lo hi hg) m
 unfold qg
 rw[ea]
 by_cases h0:jM old nw ss js lo hi=0
 .rw[if_pos h0,if_pos h0]
  cases e:(List.range (ss.length+1)).findSome? (oo old nw ss js lo hi) with
  |none=>
   rw[e] at ef
   cases e':(List.range (ss'.length+1)).findSome? (oo old nw ss' mG lo hi) with
   |none=>rfl
   |some y=>rw[e'] at ef;cases ef
  |some x=>
   rw[e] at ef
   cases e':(List.range (ss'.length+1)).findSome? (oo old nw ss' mG lo hi) with
   |none=>rw[e'] at ef;cases ef
   |some y=>
    rw[e'] at ef
    have:y.1=x.1:=Option.some.inj ef
    show((y.1:Int),(0:Int))=((x.1:Int),(0:Int))
    rw[this]
 .rw[if_neg h0,if_neg h0]
end Go.Proofs.YtkjoilgpmngndaaGreat
namespace Go.Proofs.YtkjoilgpmngndaaGreat
open Go.RowKit Go.Shelf Go.Proofs.YtkjoilgpmngndaaGreat.av Go.Proofs.YtkjoilgpmngndaaGreatW.aA
theorem PH{ps:List Int}{xs ys:List IS}(h:xs.Perm ys):nC ps xs=nC ps ys:=by
 unfold nC
 exact vF (h.map _)
theorem RH(s:Nat->Nat)(ps ps':List Int)(xs:List IS)(h:∀x ∈ xs,rd ps' (x.1:Int)=rd ps (s x.1:Int)):nC ps (xs.map (pY s))=nC ps' xs:=by
 unfold nC
 rw[List.map_map]
 exact congrArg List.sum (uw fun x hx=>(h x hx).symm)
theorem fU.truth{ss ss':List bH}{js mG:List bS}{s t:Nat->Nat}(h:fU ss ss' js mG s t)(old:List Int)(nw:Int){ps ps':List Int}(hp:ps.length=ss.length)(hp':ps'.length=ss.length)(he:∀i:Nat,i<ss.length->rd ps' (i:Int)=rd ps (s i:Int)):kK old nw ss' mG ps'=kK old nw ss js ps:=by
 have hx:∀(d:Int) (x:IS),x ∈ dI ss' d ss'.length->rd ps' (x.1:Int)=rd ps (s x.1:Int):=fun d x hx=>he x.1 (by have:=AB hx;rw[h.len] at this;exact this)
 have e1:∀d:Int,nC ps' (dI ss' d ss'.length)=nC ps (dI ss d ss.length):=fun d=>by
  rw[<- RH s ps ps' _ (hx d),PH (nL h d)]
 have e2:∀d:Int,(dI ss' d ss'.length).all (MX ps')=(dI ss d ss.length).all (MX ps):=fun d=>by
  rw[<- (nL h d).all_eq (f:=MX ps),List.all_map]
  refine uR fun x hx'=>?_
  show aY (rd ps' (x.1:Int)) _ _=aY (rd ps (s x.1:Int)) _ _
  rw[hx d x hx']
  rfl
 simp only[h.len] at e1 e2
 unfold kK
 simp only[h.chk,hp,hp',h.len,e1,e2]
end Go.Proofs.YtkjoilgpmngndaaGreat
