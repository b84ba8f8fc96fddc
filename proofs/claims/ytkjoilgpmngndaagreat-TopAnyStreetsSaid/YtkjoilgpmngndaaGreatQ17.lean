import Derived.Test.YtkjoilgpmngndaaGreatQ16
set_option linter.all false
namespace Go.Proofs.YtkjoilgpmngndaaGreat
open Go.RowKit Go.Shelf Go.Proofs.YtkjoilgpmngndaaGreat.av Go.Proofs.YtkjoilgpmngndaaGreatW.aA Go.Proofs.YtkjoilgpmngndaaGreatW.aJ
attribute [local go_sem] Oper.semAt_some
def moveF(R:(Nat->Int)->Bool)(own:Nat->Int)(n nn:Nat):Nat->(Nat->Int)->Int->Option (Nat->Int)
 |0,l,many=>if 0<many then none else if R l=true then some l else none
 |r+1,l,many=>if((r+1:Nat):Int)<many then none else
   (List.range nn).findSome? (fun d:Nat=>if 0<=(if(d:Int)≠own (n-(r+1)) then many-1 else many) then moveF R own n nn r (oG l (n-(r+1)) (d:Int)) (if(d:Int)≠own (n-(r+1)) then many-1 else many) else none)
structure Env(w0 w:World)(gp gf gl gm gw mb:Nat)(lo hi:Int)(A0:Option Addr)(c0:Nat)(old:List Int)(nw:Int)(A2:Option Addr)(c2:Nat)(ss:List bH)(A3:Option Addr)(c3:Nat)(js:List bS):Prop where
 below:Below w0.heap.size w0 w
 p:aR w gp [.pointer (some ⟨gw,0,none⟩)] 124
 found:∃lf,aR w gf (bJ lf) 121
 lim:aR w gl [.int .i64 lo,.int .i64 hi] 52
 mv:aR w gm [.func (.func 49) #[] #[.pointer (some ⟨gp,0,none⟩),.pointer (some ⟨gf,0,none⟩),.pointer (some ⟨gl,0,none⟩),.pointer (some ⟨gm,0,none⟩)]] 129
 wk:Xl w gw mb A0 c0 old nw A2 c2 ss A3 c3 js
 ne:gp≠gf/\gl≠gf/\gm≠gf/\gw≠gf/\mb≠gf
 lo:w0.heap.size<=gf
theorem Env.keep{w0 w w':World}{gp gf gl gm gw mb:Nat}{lo hi:Int}{A0:Option Addr}{c0:Nat}{old:List Int}{nw:Int}{A2:Option Addr}{c2:Nat}{ss:List bH}{A3:Option Addr}{c3:Nat}{js:List bS}(h:Env w0 w gp gf gl gm gw mb lo hi A0 c0 old nw A2 c2 ss A3 c3 js)(k:bq w.heap.size (fun b=>b=gf) w w')(hf:∃lf,aR w' gf (bJ lf) 121):Env w0 w' gp gf gl gm gw mb lo hi A0 c0 old nw A2 c2 ss A3 c3 js:=
 ⟨h.below.trans ⟨k.os,k.tape,k.output,k.size,fun i hi=>k.block i (by have:=h.below.size;omega) (by have:=h.lo;omega)⟩,h.p.move (k.block _ h.p.lt h.ne.1),hf,h.lim.move (k.block _ h.lim.lt h.ne.2.1),h.mv.move (k.block _ h.mv.lt h.ne.2.2.1),⟨h.wk.blk.move (k.block _ h.wk.blk.lt h.ne.2.2.2.1),h.wk.jm.move (k.block _ h.wk.jm.lt h.ne.2.2.2.2)⟩,h.ne,h.lo⟩
theorem Env.under{w0 w w':World}{gp gf gl gm gw mb:Nat}{lo hi:Int}{A0:Option Addr}{c0:Nat}{old:List Int}{nw:Int}{A2:Option Addr}{c2:Nat}{ss:List bH}{A3:Option Addr}{c3:Nat}{js:List bS}(h:Env w0 w gp gf gl gm gw mb lo hi A0 c0 old nw A2 c2 ss A3 c3 js)(k:Below w.heap.size w w'):Env w0 w' gp gf gl gm gw mb lo hi A0 c0 old nw A2 c2 ss A3 c3 js:=
 h.keep (bq.of_below k (Nat.le_refl _)) (by obtain⟨lf,hl⟩:=h.found;exact⟨lf,hl.below k⟩)
def aeY(gf:Nat)(r:Option (Nat->Int))(w w':World):Prop:=(∀l',r=some l'->aR w' gf (bJ l') 121)/\(∃lf,aR w' gf (bJ lf) 121)/\bq w.heap.size (fun b=>b=gf) w w'
theorem nY{α:Type}{F:Nat->Option α}{k nn:Nat}{x:α}(h:∀j,j<k->F j=none)(hk:F k=some x)(hkn:k<nn):(List.range nn).findSome? F=some x:=by
 induction nn with
 |zero=>omega
 |succ n ih=>
  rw[List.range_succ,List.findSome?_append]
  by_cases e:k<n
  .rw[ih e];rfl
  .obtain rfl:k=n:=by omega
   rw[List.findSome?_eq_none_iff.2 (fun j hj=>h j (List.mem_range.1 hj))]
   simp[hk]
set_option maxRecDepth 100000 in
set_option maxHeartbeats 40000000 in
theorem MJ{gp gf gl gm gw mb:Nat}{lo hi:Int}{A0:Option Addr}{c0:Nat}{old:List Int}{nw:Int}{A2:Option Addr}{c2:Nat}{ss:List bH}{A3:Option Addr}{c3:Nat}{js:List bS}{w0:World}(h:uX w0 A0 c0 old A2 c2 ss A3 c3 js)(hss:ss.length<=8)(hst:∀s ∈ ss,iP old.length nw s)(hol:∀n ∈ old,0<=n/\n<=10000)(IW:old.length<=4)(hn1:1<=nw)(Kl:nw<=4):
  ∀(r:Nat),r<=ss.length->∀(l:Nat->Int) (many:Int),0<=many->many<=8->∀(w:World),Env w0 w gp gf gl gm gw mb lo hi A0 c0 old nw A2 c2 ss A3 c3 js ->
  Calls Tryz.prog 49 #[sS l,.int .i64 ((ss.length-r:Nat):Int),.int .i64 many,.pointer (some ⟨gp,0,none⟩),.pointer (some ⟨gf,0,none⟩),.pointer (some ⟨gl,0,none⟩),.pointer (some ⟨gm,0,none⟩)] w fun e w'=>e= .returned (.bool (moveF (iU old nw ss js lo hi) (kz ss) ss.length nw.toNat r l many).isSome)/\aeY gf (moveF (iU old nw ss js lo hi) (kz ss) ss.length nw.toNat r l many) w w':=by
 have H:=aa.mk h
 have HST:=aa.mk hst
 have NM:=aa.mk hol
 obtain⟨nn,hnn⟩:∃n:Nat,nw.toNat=n:=⟨_,rfl⟩
 have Ua:=aa.mk (show nw=(nn:Int) by omega)
 rw[hnn]
 have ZT:nn<=4:=by omega
 have YI:=aa.mk hn1
 have HN4:=aa.mk Kl
 clear h hst hol hnn hn1 Kl
 intro r
 induction r with
 |zero=>
  intro _ l many hm0 hm8 w hE
  have HE:=aa.mk hE
  have hE0:=aa.mk hE
  clear hE
  unfold sS
  go_enter Tryz.func49,Tryz.ntmps49
  have hp0:=HE.out.p.cell 0
  have hw2:=HE.out.wk.blk.cell 2
  simp only[List.getElem?_cons_zero,List.getElem?_cons_succ,Nat.sub_zero] at hp0 hw2 ⊢
  have Ow:=HE.out.p.lt
  have hgw:=HE.out.wk.blk.lt
  by_cases hmb:0<many
  .have ZU:decide (0<many)=true:=by simp;omega
   have HM:=aa.mk (show moveF (iU old nw ss js lo hi) (kz ss) ss.length nn 0 l many=none by unfold moveF;rw[if_pos hmb])
   go_wp2_with fail
   go_ret
   rw[HM.out]
   exact⟨rfl,fun l' e=>(by cases e),(by obtain⟨lf,hl⟩:=HE.out.found;exact⟨lf,hl.alloc _⟩),(bq.refl _ _ _).alloc (Nat.le_refl _) _⟩
  .have ZU:decide (0<many)=false:=by simp;omega
   have HM:=aa.mk (show moveF (iU old nw ss js lo hi) (kz ss) ss.length nn 0 l many=if iU old nw ss js lo hi l=true then some l else none by unfold moveF;rw[if_neg hmb])
   have hl0:=HE.out.lim.cell 0
   have hl1:=HE.out.lim.cell 1
   simp only[List.getElem?_cons_zero,List.getElem?_cons_succ] at hl0 hl1
   have hgl:=HE.out.lim.lt
   obtain⟨lf,hlf⟩:=HE.out.found
   have SX:=hlf.cell 0
   have SV:=hlf.cell 1
   have SS:=hlf.cell 2
   have SQ:=hlf.cell 3
   have SN:=hlf.cell 4
   have SL:=hlf.cell 5
   have SK:=hlf.cell 6
   have SI:=hlf.cell 7
   have aej:=hlf.frozen 0
   have aei:=hlf.frozen 1
   have aeh:=hlf.frozen 2
   have aeg:=hlf.frozen 3
   have aef:=hlf.frozen 4
   have aee:=hlf.frozen 5
   have aed:=hlf.frozen 6
   have aec:=hlf.frozen 7
   simp only[bJ,List.getElem?_cons_zero,List.getElem?_cons_succ] at SX SV SS SQ SN SL SK SI
   have hgf:=hlf.lt
   have HLF:=aa.mk hlf
   have HNE:=aa.mk HE.out.ne
   have Qg:=HE.out.ne.2.1
   have aqa:=HE.out.ne.1
   clear hlf hmb
   go_wp2_with fail
   have HK:=aa.mk (show bq w.heap.size (fun b=>b=gf) w (((((((((w.setCell ⟨gf,0,none⟩ (.int .i64 (l 0))).setCell ⟨gf,1,none⟩ (.int .i64 (l 1))).setCell ⟨gf,2,none⟩ (.int .i64 (l 2))).setCell ⟨gf,3,none⟩ (.int .i64 (l 3))).setCell ⟨gf,4,none⟩ (.int .i64 (l 4))).setCell ⟨gf,5,none⟩ (.int .i64 (l 5))).setCell ⟨gf,6,none⟩ (.int .i64 (l 6))).setCell ⟨gf,7,none⟩ (.int .i64 (l 7))).alloc (.cells #[.int .i64 (l 0),.int .i64 (l 1),.int .i64 (l 2),.int .i64 (l 3),.int .i64 (l 4),.int .i64 (l 5),.int .i64 (l 6),.int .i64 (l 7)] 121)) from((((((((((bq.refl w.heap.size (fun b=>b=gf) w).setCell (p:=⟨gf,0,none⟩) (.inl rfl) (.int .i64 (l 0))).setCell (p:=⟨gf,1,none⟩) (.inl rfl) (.int .i64 (l 1))).setCell (p:=⟨gf,2,none⟩) (.inl rfl) (.int .i64 (l 2))).setCell (p:=⟨gf,3,none⟩) (.inl rfl) (.int .i64 (l 3))).setCell (p:=⟨gf,4,none⟩) (.inl rfl) (.int .i64 (l 4))).setCell (p:=⟨gf,5,none⟩) (.inl rfl) (.int .i64 (l 5))).setCell (p:=⟨gf,6,none⟩) (.inl rfl) (.int .i64 (l 6))).setCell (p:=⟨gf,7,none⟩) (.inl rfl) (.int .i64 (l 7)))).alloc (by simp[World.setCell]) (.cells #[.int .i64 (l 0),.int .i64 (l 1),.int .i64 (l 2),.int .i64 (l 3),.int .i64 (l 4),.int .i64 (l 5),.int .i64 (l 6),.int .i64 (l 7)] 121))
   have BF:=aa.mk (show aR (((((((((w.setCell ⟨gf,0,none⟩ (.int .i64 (l 0))).setCell ⟨gf,1,none⟩ (.int .i64 (l 1))).setCell ⟨gf,2,none⟩ (.int .i64 (l 2))).setCell ⟨gf,3,none⟩ (.int .i64 (l 3))).setCell ⟨gf,4,none⟩ (.int .i64 (l 4))).setCell ⟨gf,5,none⟩ (.int .i64 (l 5))).setCell ⟨gf,6,none⟩ (.int .i64 (l 6))).setCell ⟨gf,7,none⟩ (.int .i64 (l 7))).alloc (.cells #[.int .i64 (l 0),.int .i64 (l 1),.int .i64 (l 2),.int .i64 (l 3),.int .i64 (l 4),.int .i64 (l 5),.int .i64 (l 6),.int .i64 (l 7)] 121)) gf (bJ l) 121 from(HLF.out.acA _ _ _ _ _ _ _ _).alloc (.cells #[.int .i64 (l 0),.int .i64 (l 1),.int .i64 (l 2),.int .i64 (l 3),.int .i64 (l 4),.int .i64 (l 5),.int .i64 (l 6),.int .i64 (l 7)] 121))
   clear SX SV SS SQ SN SL SK SI aej aei aeh aeg aef aee aed aec HLF
   generalize((((((((w.setCell ⟨gf,0,none⟩ (.int .i64 (l 0))).setCell ⟨gf,1,none⟩ (.int .i64 (l 1))).setCell ⟨gf,2,none⟩ (.int .i64 (l 2))).setCell ⟨gf,3,none⟩ (.int .i64 (l 3))).setCell ⟨gf,4,none⟩ (.int .i64 (l 4))).setCell ⟨gf,5,none⟩ (.int .i64 (l 5))).setCell ⟨gf,6,none⟩ (.int .i64 (l 6))).setCell ⟨gf,7,none⟩ (.int .i64 (l 7))).alloc (.cells #[.int .i64 (l 0),.int .i64 (l 1),.int .i64 (l 2),.int .i64 (l 3),.int .i64 (l 4),.int .i64 (l 5),.int .i64 (l 6),.int .i64 (l 7)] 121)=w8 at HK BF ⊢
   have HE8:=aa.mk (HE.out.keep HK.out ⟨l,BF.out⟩)
   refine(Ju HE8.out.wk (H.out.below HE8.out.below) hss HST.out NM.out IW YI.out HN4.out l lo hi).mono ?_
   rintro e w9 ⟨rfl,Sq⟩
   have BF9:=aa.mk (BF.out.below Sq)
   have HK9:=aa.mk (HK.out.trans (bq.of_below Sq HK.out.size))
   clear Sq BF HK HE8
   cases hr:iU old nw ss js lo hi l
   .rw[hr,if_neg (by simp)] at HM
    go_wp2_with fail
    go_ret
    rw[HM.out]
    exact⟨rfl,fun l' e=>(by cases e),⟨_,BF9.out⟩,HK9.out⟩
   .rw[hr,if_pos rfl] at HM
    go_wp2_with fail
    go_ret
    rw[HM.out]
    exact⟨rfl,fun l' e=>(by cases e;exact BF9.out),⟨_,BF9.out⟩,HK9.out⟩
 |succ r ih=>
  intro hr l many hm0 hm8 w hE
  have HE:=aa.mk hE
  have IH:=aa.mk (ih (by omega))
  clear hE ih
  unfold sS
  go_enter Tryz.func49,Tryz.ntmps49
  have hp0:=HE.out.p.cell 0
  have hw2:=HE.out.wk.blk.cell 2
  have hw1:=HE.out.wk.blk.cell 1
  simp only[List.getElem?_cons_zero,List.getElem?_cons_succ] at hp0 hw2 hw1
  have Ow:=HE.out.p.lt
  have hgw:=HE.out.wk.blk.lt
  obtain⟨st,hst⟩:∃s,ss.length-(r+1)=s:=⟨_,rfl⟩
  have hsl:st<ss.length:=by omega
  have hsn:((ss.length:Int)-(st:Int))=((r+1:Nat):Int):=by omega
  have apQ:(st:Int)<8:=by omega
  have ak0:=aa.mk hst
  have HS1:=aa.mk (show((ss.length-r:Nat):Int)=(st:Int)+1 by omega)
  rw[hst]
  clear hst
  by_cases hmb:((r+1:Nat):Int)<many
  .have ZU:decide ((ss.length:Int)-(st:Int)<many)=true:=by rw[hsn];simpa using hmb
   have HM:=aa.mk (show moveF (iU old nw ss js lo hi) (kz ss) ss.length nn (r+1) l many=none by unfold moveF;rw[if_pos hmb])
   clear hsn
   go_wp2_with fail
   go_ret
   rw[HM.out]
   exact⟨rfl,fun l' e=>(by cases e),(by obtain⟨lf,hl⟩:=HE.out.found;exact⟨lf,hl.alloc _⟩),(bq.refl _ _ _).alloc (Nat.le_refl _) _⟩
  .have ZU:decide ((ss.length:Int)-(st:Int)<many)=false:=by rw[hsn];simpa using hmb
   have heq:((st:Int)==(ss.length:Int))=false:=by simp;omega
   obtain⟨F,hF⟩:∃F:Nat->Option (Nat->Int),F=fun d:Nat=>if 0<=(if(d:Int)≠kz ss st then many-1 else many) then moveF (iU old nw ss js lo hi) (kz ss) ss.length nn r (oG l st (d:Int)) (if(d:Int)≠kz ss st then many-1 else many) else none:=⟨_,rfl⟩
   have HM:=aa.mk (show moveF (iU old nw ss js lo hi) (kz ss) ss.length nn (r+1) l many=(List.range nn).findSome? F by unfold moveF;rw[if_neg hmb,ak0.out,hF])
   have HF:=aa.mk hF
   obtain⟨ad,e,h0,h1,h2,h3,h4⟩:=qO (H.out.below HE.out.below).Lg (st:Int) (by omega) (by omega)
   cases e
   simp only[Int.toNat_natCast] at h0 h1 h2 h3 h4
   have how:(fI ss (st:Int)).f1=kz ss st:=by unfold kz;rw[if_pos hsl];rfl
   rw[how] at h1
   have hs0:(0:Int)<=(st:Int):=by omega
   have apR:(st:Int)<(ss.length:Int):=by omega
   obtain⟨ow,ac1⟩:∃o,kz ss st=o:=⟨_,rfl⟩
   rw[ac1] at h1 HF
   have hbl:=World.block_lt_of_cell? _ _ h1
   simp only at hbl
   clear hsn hmb how hF ac1 h0 h2 h3 h4
   go_wp2_with fail
   clear h1 hbl
   have NV:=aa.mk (HE.out.under (ae (Below.refl _ _) (.cells #[.int .i64 (l 0),.int .i64 (l 1),.int .i64 (l 2),.int .i64 (l 3),.int .i64 (l 4),.int .i64 (l 5),.int .i64 (l 6),.int .i64 (l 7)] 121)))
   have B71:=aa.mk (show aR (w.alloc (.cells #[.int .i64 (l 0),.int .i64 (l 1),.int .i64 (l 2),.int .i64 (l 3),.int .i64 (l 4),.int .i64 (l 5),.int .i64 (l 6),.int .i64 (l 7)] 121)) w.heap.size (bJ l) 121 from aR.new w (bJ l) 121)
   have qU:=aa.mk (show bq w.heap.size (fun b=>b=gf) w (w.alloc (.cells #[.int .i64 (l 0),.int .i64 (l 1),.int .i64 (l 2),.int .i64 (l 3),.int .i64 (l 4),.int .i64 (l 5),.int .i64 (l 6),.int .i64 (l 7)] 121)) from(bq.refl _ _ _).alloc (Nat.le_refl _) (.cells #[.int .i64 (l 0),.int .i64 (l 1),.int .i64 (l 2),.int .i64 (l 3),.int .i64 (l 4),.int .i64 (l 5),.int .i64 (l 6),.int .i64 (l 7)] 121))
   obtain⟨g7,XZ⟩:∃g,w.heap.size=g:=⟨_,rfl⟩
   have aqe:gf<g7:=by obtain⟨lf,hl⟩:=HE.out.found;rw[<- XZ];exact hl.lt
   have HG7:=aa.mk XZ
   rw[XZ] at B71
   rw[XZ] at Ow hgw
   rw[XZ]
   clear XZ hp0 hw1 hw2
   generalize w.alloc (.cells #[.int .i64 (l 0),.int .i64 (l 1),.int .i64 (l 2),.int .i64 (l 3),.int .i64 (l 4),.int .i64 (l 5),.int .i64 (l 6),.int .i64 (l 7)] 121)=w1 at NV B71 qU ⊢
   go_loopw [51] (fun v wr=>∃k:Nat,k<=nn/\v= .int .i64 k/\aa (Env w0 wr gp gf gl gm gw mb lo hi A0 c0 old nw (some ad) c2 ss A3 c3 js)/\(∃lx:Nat->Int,aa (aR wr g7 (bJ lx) 121)/\aa (∀i,i≠st->lx i=l i))/\aa (bq w.heap.size (fun b=>b=gf) w wr)/\aa (∀j:Nat,j<k->F j=none)) (fun v _=>nn-(intOf v).toNat)
   case atStart=>exact⟨0,Nat.zero_le _,rfl,NV,⟨l,B71,⟨fun _ _=>rfl⟩⟩,qU,⟨fun j hj=>absurd hj (Nat.not_lt_zero _)⟩⟩
   case round=>
    clear NV B71 qU
    obtain⟨k,hk,rfl,NV,⟨lx,B7,UC⟩,HK,HJ⟩:=hrel
    by_cases hkl:k<nn
    .have D8:decide ((k:Int)<nw)=true:=by have:=Ua.out;simp;omega
     have hp0:=NV.out.p.cell 0
     have Vv:=NV.out.mv.cell 0
     simp only[List.getElem?_cons_zero,List.getElem?_cons_succ] at hp0 Vv
     have hcs:=B7.out.cell st
     have hcf:=B7.out.frozen st
     rw[gJ lx st (by omega)] at hcs
     have VG:=B7.out.lt
     have QN:=aa.mk (show F k=if 0<=(if(k:Int)≠ow then many-1 else many) then moveF (iU old nw ss js lo hi) (kz ss) ss.length nn r (oG l st (k:Int)) (if(k:Int)≠ow then many-1 else many) else none by rw[HF.out])
     have xD:=aa.mk (show aR (wr.setCell ⟨g7,st,none⟩ (.int .i64 (k:Int))) g7 (bJ (oG l st (k:Int))) 121 by
      have hu:oG lx st (k:Int)=oG l st (k:Int):=by
       funext i
       unfold oG
       by_cases e:i=st
       .rw[if_pos e,if_pos e]
       .rw[if_neg e,if_neg e];exact UC.out i e
      rw[<- hu,<- Bd _ _ st (by omega)]
      exact B7.out.setAt st _)
     have HKK:=aa.mk (show bq w.heap.size (fun b=>b=gf) w (wr.setCell ⟨g7,st,none⟩ (.int .i64 (k:Int))) from HK.out.setCell (p:=⟨g7,st,none⟩) (.inr (by simp only;have:=HG7.out;omega)) _)
     have Ud:=aa.mk (show Env w0 (wr.setCell ⟨g7,st,none⟩ (.int .i64 (k:Int))) gp gf gl gm gw mb lo hi A0 c0 old nw (some ad) c2 ss A3 c3 js from HE.out.keep HKK.out (by obtain⟨lf,hl⟩:=NV.out.found;exact⟨lf,gF hl (by simp only;omega) _⟩))
     have hgm:=NV.out.mv.lt
     have aqc:gm≠g7:=by have:=HE.out.mv.lt;have:=HG7.out;omega
     obtain⟨ml,QW⟩:∃m,(if(k:Int)≠ow then many-1 else many)=m:=⟨_,rfl⟩
     rw[QW] at QN
     have HML:=aa.mk QW
     have adC:=xD.out.frozen 0
     have Xa:=xD.out.cell 0
     have W9:=xD.out.cell 1
     have WZ:=xD.out.cell 2
     have WY:=xD.out.cell 3
     have WX:=xD.out.cell 4
     have WW:=xD.out.cell 5
     have WV:=xD.out.cell 6
     have WU:=xD.out.cell 7
     simp only[bJ,List.getElem?_cons_zero,List.getElem?_cons_succ] at Xa W9 WZ WY WX WW WV WU
     by_cases hne:(k:Int)=ow
     .have ajk:((k:Int) !=ow)=false:=by simp[hne]
      rw[if_neg (by simpa using hne)] at QW
      subst QW
      rw[if_pos hm0] at QN
      have hge:decide (0<=many)=true:=by simpa using hm0
      clear hne HML
      go_wp2_with fail
      have ihk:=IH.out (oG l st (k:Int)) many hm0 hm8 _ Ud.out
      rw[HS1.out] at ihk
      unfold sS at ihk
      refine ihk.mono ?_
      clear ihk Xa W9 WZ WY WX WW WV WU hp0 Vv hcs hcf adC
      generalize wr.setCell ⟨g7,st,none⟩ (.int .i64 (k:Int))=ws at xD HKK Ud ⊢
      rintro e w5 ⟨rfl,hr1,hr2,hr3⟩
      have aav:=xD.out.lt
      have B75:=aa.mk (xD.out.move (hr3.block _ aav (by omega)))
      have UF:=aa.mk (Ud.out.keep hr3 hr2)
      have NT:=aa.mk (HKK.out.trans (hr3.mono (by have:=HKK.out.size;omega) (fun _ _ h=>h)))
      cases hres:moveF (iU old nw ss js lo hi) (kz ss) ss.length nn r (oG l st (k:Int)) many with
      |none=>
       rw[hres] at QN
       have HFN:=aa.mk QN.out
       clear hres hr1 hr2 hr3 xD HKK Ud HK NV B7 UC
       simp only[Option.isSome_none]
       go_wp2_with fail
       go_roundw
       case rel=>exact⟨k+1,by omega,by go_num,UF,⟨oG l st (k:Int),B75,⟨fun i hi=>by unfold oG;rw[if_neg hi]⟩⟩,NT,⟨fun j hj=>if e:j=k then(by rw[e];exact HFN.out) else HJ.out j (by omega)⟩⟩
       case measure=>simp[intOf];omega
      |some l'=>
       rw[hres] at QN
       have HFS:=aa.mk (nY HJ.out QN.out hkl)
       have HR1:=aa.mk (hr1 l' hres)
       have HR2:=aa.mk hr2
       clear hres hr1 hr2 hr3 xD HKK Ud HK NV B7 UC
       simp only[Option.isSome_some]
       go_wp2_with fail
       go_ret
       rw[HM.out,HFS.out]
       exact⟨rfl,fun l2 e=>(by cases e;exact HR1.out),HR2.out,NT.out⟩
     .have ajk:((k:Int) !=ow)=true:=by simp[hne]
      rw[if_pos (by simpa using hne)] at QW
      subst QW
      clear hne HML
      have hwm:wrap64 (many-1)=many-1:=IntWalk.wrap64_in _ (by omega)
      by_cases Sl:0<=many-1
      .rw[if_pos Sl] at QN
       have hge:decide (0<=many-1)=true:=by simpa using Sl
       go_wp2_with fail
       have ihk:=IH.out (oG l st (k:Int)) (many-1) Sl (by omega) _ Ud.out
       rw[HS1.out] at ihk
       unfold sS at ihk
       refine ihk.mono ?_
       clear ihk Xa W9 WZ WY WX WW WV WU hp0 Vv hcs hcf adC
       generalize wr.setCell ⟨g7,st,none⟩ (.int .i64 (k:Int))=ws at xD HKK Ud ⊢
       rintro e w5 ⟨rfl,hr1,hr2,hr3⟩
       have aav:=xD.out.lt
       have B75:=aa.mk (xD.out.move (hr3.block _ aav (by omega)))
       have UF:=aa.mk (Ud.out.keep hr3 hr2)
       have NT:=aa.mk (HKK.out.trans (hr3.mono (by have:=HKK.out.size;omega) (fun _ _ h=>h)))
       cases hres:moveF (iU old nw ss js lo hi) (kz ss) ss.length nn r (oG l st (k:Int)) (many-1) with
       |none=>
        rw[hres] at QN
        have HFN:=aa.mk QN.out
        clear hres hr1 hr2 hr3 xD HKK Ud HK NV B7 UC
        simp only[Option.isSome_none]
        go_wp2_with fail
        go_roundw
        case rel=>exact⟨k+1,by omega,by go_num,UF,⟨oG l st (k:Int),B75,⟨fun i hi=>by unfold oG;rw[if_neg hi]⟩⟩,NT,⟨fun j hj=>if e:j=k then(by rw[e];exact HFN.out) else HJ.out j (by omega)⟩⟩
        case measure=>simp[intOf];omega
       |some l'=>
        rw[hres] at QN
        have HFS:=aa.mk (nY HJ.out QN.out hkl)
        have HR1:=aa.mk (hr1 l' hres)
        have HR2:=aa.mk hr2
        clear hres hr1 hr2 hr3 xD HKK Ud HK NV B7 UC
        simp only[Option.isSome_some]
        go_wp2_with fail
        go_ret
        rw[HM.out,HFS.out]
        exact⟨rfl,fun l2 e=>(by cases e;exact HR1.out),HR2.out,NT.out⟩
      .rw[if_neg Sl] at QN
       have HFN:=aa.mk QN.out
       have hge:decide (0<=many-1)=false:=by simpa using Sl
       clear Xa W9 WZ WY WX WW WV WU hp0 Vv
       go_wp2_with fail
       go_roundw
       case rel=>exact⟨k+1,by omega,by go_num,Ud,⟨oG l st (k:Int),xD,⟨fun i hi=>by unfold oG;rw[if_neg hi]⟩⟩,HKK,⟨fun j hj=>if e:j=k then(by rw[e];exact HFN.out) else HJ.out j (by omega)⟩⟩
       case measure=>simp[intOf];omega
    .obtain rfl:k=nn:=by omega
     have D8:decide ((k:Int)<nw)=false:=by have:=Ua.out;simp;omega
     have hN:(List.range k).findSome? F=none:=List.findSome?_eq_none_iff.2 (fun j hj=>HJ.out j (List.mem_range.1 hj))
     have HN:=aa.mk hN
     clear hN
     go_wp2_with fail
     go_ret
     rw[HM.out,HN.out]
     exact⟨rfl,fun l' e=>(by cases e),NV.out.found,HK.out⟩
end Go.Proofs.YtkjoilgpmngndaaGreat
