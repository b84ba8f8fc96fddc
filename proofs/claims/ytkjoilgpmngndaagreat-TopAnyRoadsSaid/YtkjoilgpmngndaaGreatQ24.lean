import Derived.Test.YtkjoilgpmngndaaGreatQ23
set_option linter.all false
namespace Go.Proofs.YtkjoilgpmngndaaGreat
open Go.RowKit Go.Shelf au YtkjoilgpmngndaaGreatW.aj YtkjoilgpmngndaaGreatW.aJ YtkjoilgpmngndaaGreatW.ek
theorem Og(g:Nat)(first cap:Array Value)(hg:∀args w,(callFunc g args).run Tryz.prog w= .ok (.enter g args) w)(p:Int->Bool)(x:Int)(gp:Nat)(w:World)
  (hc:w.cell? ⟨gp,0,none⟩=some (.func (.func g) first cap)) (hp:iD g first cap p w):
  Calls Tryz.prog 158 ((#[]:Array Value).push (j6 x)++#[.pointer (some ⟨gp,0,none⟩)]) w λe w'=>e= .returned (.bool (!p x))/\Below w.heap.size w w':=by
 simp only[Array.empty_append,List.push_toArray,List.append_toArray,List.nil_append,List.cons_append,j6]
 have YD:gp<w.heap.size:=World.block_lt_of_cell? w _ hc
 have HP:=aa.mk hp
 clear hp
 go_enter Tryz.func158,Tryz.ntmps158
 go_wp2_with fail
 have hc:=HP.out _ x (Below.refl _ _)
 simp only[j6] at hc
 refine hc.mono ?_
 rintro e w' ⟨rfl,hb⟩
 obtain⟨b,hb1⟩:∃b,p x=b:=⟨_,rfl⟩
 rw[hb1]
 go_wp2
 go_ret
 exact⟨bP (by rw[hb1]),bQ (Below.refl _ _) hb⟩
theorem GV(g:Nat)(first cap:Array Value)(hg:∀args w,(callFunc g args).run Tryz.prog w= .ok (.enter g args) w)(p:Int->Bool)(A:Option Addr)(c:Nat)(xs:List Int)(w:World)
  (hr:Kd.C (Kd.int .i64) w A xs.length xs) (hlen:xs.length<=9223372036854775807) (hp:iD g first cap p w):
  Calls Tryz.prog 134 #[.slice A xs.length c,.func (.func g) first cap] w λe w'=>e= .returned (.bool (xs.all p))/\Below w.heap.size w w':=by
 go_enter Tryz.func134,Tryz.ntmps134
 have HR:=aa.mk hr
 have HP:=aa.mk hp
 clear hr hp
 go_wp2_with fail
 have hB:Below w.heap.size w (w.alloc (.cells #[.func (.func g) first cap] 118)):=(Below.refl _ _).alloc (Nat.le_refl _) _
 refine(oC 158 #[.pointer (some ⟨w.heap.size,0,none⟩)] (enters Tryz.func158 (by kernel_rfl) rfl) (λx=>!p x) A c xs _ (Kd.av HR.out hB) hlen ?_).mono ?_
 .intro W x hW
  refine Og g first cap hg p x w.heap.size W ?_ (HP.out.later (hB.trans (hW.mono hB.size)))
  rw[hW.cell (p:=⟨w.heap.size,0,none⟩) (by simp)]
  simp
 rintro e w' ⟨rfl,hb⟩
 have hn:=aa.mk (List.any_eq_not_all_not (l:=xs) (p:=λx=>!p x))
 obtain⟨j,hj⟩:∃j,(xs.any λx=>!p x)=j:=⟨_,rfl⟩
 rw[hj] at hn ⊢
 clear hj
 go_wp2
 go_ret
 exact⟨bP (by rw[hn.out];simp),bQ hB hb⟩
theorem E8(n:Int)(w:World):Calls Tryz.prog 135 #[.int .i64 n] w λe w'=>e= .returned (.bool (aK n 0 10000))/\Below w.heap.size w w':=by
 refine(kM.calls n (aK n 0 10000) w ?_).mono ?_
 .unfold kM.f fB.f aK
  by_cases h:0<=n<;>simp[h]
 .rintro e w' ⟨h1,h2⟩
  exact⟨h1,h2.below⟩
theorem nk(n lo hi:Int)(w:World):
  Calls Tryz.prog 136 #[.int .i64 n,.int .i64 lo,.int .i64 hi] w λe w'=>e= .returned (.bool (aK n lo hi))/\Below w.heap.size w w':=by
 refine(fB.calls n lo hi (aK n lo hi) w ?_).mono ?_
 .unfold fB.f aK
  by_cases h:lo<=n<;>simp[h]
 .rintro e w' ⟨h1,h2⟩
  exact⟨h1,h2.below⟩
structure Two(base:Nat)(w:World)(v1 v2:Value)(l1 l2:List Int):Prop where
 r1:(Kd.int .i64).R 3 w base (λ_=>True) v1 l1
 r2:(Kd.int .i64).R 3 w base (λ_=>True) v2 l2
 ne:∀k,v1.ownBlock=some k->some k≠v2.ownBlock
theorem Two.nil(base:Nat)(w:World):Two base w (.slice none 0 0) (.slice none 0 0) [] []:=⟨Kd.iK _ _ _ _ _,Kd.iK _ _ _ _ _,λk hk=>by simp[Value.ownBlock] at hk⟩
theorem Two.symm{base:Nat}{w:World}{v1 v2:Value}{l1 l2:List Int}(h:Two base w v1 v2 l1 l2):Two base w v2 v1 l2 l1:=⟨h.r2,h.r1,λk hk e=>h.ne k e.symm hk.symm⟩
theorem Two.below{base:Nat}{w w':World}{v1 v2:Value}{l1 l2:List Int}(h:Two base w v1 v2 l1 l2)(hb:Below w.heap.size w w'):Two base w' v1 v2 l1 l2:=⟨Kd.bV h.r1 hb,Kd.bV h.r2 hb,h.ne⟩
theorem Two.app1{base:Nat}{w w':World}{v1 v2 v:Value}{l1 l2 l:List Int}(h:Two base w v1 v2 l1 l2)(hR:(Kd.int .i64).R 3 w' base (λ_=>True) v l)(hg:w.grownBy w' v1.ownBlock)(hat:v.ownBlock=v1.ownBlock\/∃b,v.ownBlock=some b/\w.heap.size<=b):Two base w' v v2 l l2:=by
 refine⟨hR,Kd.Sj h.r2 rfl hg h.ne,λk hk=>?_⟩
 rcases hat with hat|⟨b,hb,hle⟩
 .exact h.ne k (hat▸hk)
 .intro e
  have:=(Kd.bE h.r2).1 k e.symm
  rw[hb] at hk
  injection hk with hk
  omega
theorem Two.Po{base:Nat}{w w':World}{v1 v2 v:Value}{l1 l2 l:List Int}(h:Two base w v1 v2 l1 l2)(hR:(Kd.int .i64).R 3 w' base (λ_=>True) v l)(hg:w.grownBy w' v2.ownBlock)(hat:v.ownBlock=v2.ownBlock\/∃b,v.ownBlock=some b/\w.heap.size<=b):Two base w' v1 v l1 l:=(h.symm.app1 hR hg hat).symm
structure Nz(w0 w1 c s q0 q1 r0 r1 left p0 p1:Int):Prop where
 b0:0<=w0/\w0<=1000
 b1:0<=w1/\w1<=1000
 bc:0<=c/\c<=10000
 sum:w0+w1=s
 pos:0<s
 m0:0<=c*w0/\c*w0<=10000000
 m1:0<=c*w1/\c*w1<=10000000
 d0:c*w0/s=q0
 d1:c*w1/s=q1
 e0:0<=q0/\q0<=10000
 e1:0<=q1/\q1<=10000
 t0:c*w0%s=r0
 t1:c*w1%s=r1
 lf:c-q0-q1=left
 l01:left=0\/left=1
 parts:if left=0 then p0=q0/\p1=q1 else if r0-r1<0 then p0=q0/\p1=q1+1 else p0=q0+1/\p1=q1
theorem Nz.aa5{w0 w1 c s q0 q1 r0 r1 left p0 p1:Int}(h:Nz w0 w1 c s q0 q1 r0 r1 left p0 p1):Xa c w0 w1 s r0 r1:=by
 have h1:=h.m0
 have h2:=h.m1
 have h3:=h.pos
 have h4:=h.b0
 have h5:=h.b1
 have h6:=h.sum
 refine⟨by omega,IntWalk.i64_in _ (by omega),IntWalk.i64_in _ (by omega),?_,?_,?_,?_⟩
 .rw[Int.tmod_eq_emod_of_nonneg h1.1,h.t0]
 .rw[Int.tmod_eq_emod_of_nonneg h2.1,h.t1]
 .have:=Int.emod_nonneg (c*w0) (b:=s) (by omega)
  have h7:=Int.emod_lt_of_pos (c*w0) h3
  rw[h.t0] at this h7
  omega
 .have:=Int.emod_nonneg (c*w1) (b:=s) (by omega)
  have h7:=Int.emod_lt_of_pos (c*w1) h3
  rw[h.t1] at this h7
  omega
structure DB(w:World)(g2 g6:Nat)(aw:Addr)(cw:Nat)(c w0 w1 s:Int):Prop where
 l:aR w g2 [.slice (some aw) 2 cw] 22
 c:aR w (g2+1) [.int .i64 c] 3
 s:aR w g6 [.int .i64 s] 3
 a0:w.cell? (aw.add 0)=some (.int .i64 w0)
 a1:w.cell? (aw.add 1)=some (.int .i64 w1)
theorem DB.later{w w':World}{g2 g6:Nat}{aw:Addr}{cw:Nat}{c w0 w1 s:Int}{B:Nat}(h:DB w g2 g6 aw cw c w0 w1 s)(hb:Below B w w')(hB:g2+1<g6/\g6<B/\aw.block<B):DB w' g2 g6 aw cw c w0 w1 s:=
 ⟨h.l.move (hb.block _ (by omega)),h.c.move (hb.block _ (by omega)),h.s.move (hb.block _ (by omega)),(hb.cell (p:=aw.add 0) hB.2.2).trans h.a0,(hb.cell (p:=aw.add 1) hB.2.2).trans h.a1⟩
theorem aR.second(w:World)(o:Obj)(cs:List Value)(t:TypeId):aR ((w.alloc o).alloc (.cells cs.toArray t)) (w.heap.size+1) cs t:=by
 have h:=aR.new (w.alloc o) cs t
 have e:(w.alloc o).heap.size=w.heap.size+1:=by simp
 rw[e] at h
 exact h
theorem Tg{w:World}{aw:Addr}{w0 w1:Int}(h:(Kd.int .i64).C w (some aw) 2 [w0,w1]):w.cell? (aw.add 0)=some (.int .i64 w0)/\w.cell? (aw.add 1)=some (.int .i64 w1):=by
 obtain⟨ad,e,h0⟩:=Kd.cK h 0 (by omega) (by omega)
 cases e
 obtain⟨ad,e,h1⟩:=Kd.cK h 1 (by omega) (by omega)
 cases e
 exact⟨h0,h1⟩
theorem add1(a:Addr):a.add 1=⟨a.block,a.off+1,none⟩:=by simp[Addr.add]
theorem add0(a:Addr):a.add 0=a:=by simp[Addr.add]
theorem qB{w:World}{base:Nat}{ok:Nat->Prop}{v:Value}{xs:List Int}(h:(Kd.int .i64).R 3 w base ok v xs)(i:Nat)(hi:i<xs.length):∃g c,v= .slice (some ⟨g,0,none⟩) xs.length c/\w.cell? ⟨g,i,none⟩=some (.int .i64 (xs.getD i 0)):=by
 obtain⟨ad,c,rfl⟩:=Kd.mG h (by omega)
 obtain⟨g,rfl⟩:=Kd.FV h
 have:=(Kd.jE (0:Int) h (i:Int) (by omega) (by omega)).1
 exact⟨g,c,rfl,this⟩
theorem OG(w0 w1:Int)(h0:0<=w0/\w0<=1000)(h1:0<=w1/\w1<=1000):dH.f 3 [w0,w1]=some (w0+w1):=by
 simp[dH.f,dH.l0,rd,wrap64]
 omega
set_option maxRecDepth 100000 in
set_option maxHeartbeats 40000000 in
theorem Ga{w:World}{aw:Addr}{cw:Nat}{w0 w1 c s q0 q1 r0 r1 left p0 p1:Int}(h:(Kd.int .i64).C w (some aw) 2 [w0,w1])(hcw:2<=cw)(hd:Nz w0 w1 c s q0 q1 r0 r1 left p0 p1):
  Calls Tryz.prog 113 #[.slice (some aw) 2 cw,.int .i64 c] w λe w'=>(∃v,e= .returned (.tuple #[v,.int .i64 0])/\(Kd.int .i64).R 3 w' w.heap.size (λ_=>True) v [p0,p1])/\Below w.heap.size w w':=by
 have HC:=aa.mk h
 have HD:=aa.mk hd
 have hpos:=hd.pos
 have hb0:=hd.b0
 have hb1:=hd.b1
 have hbc:=hd.bc
 have HS:=aa.mk hd.sum
 clear h hd
 go_enter Tryz.func113,Tryz.ntmps113
 go_wp2_with fail
 have HB3:=aa.mk (ae (ae (Below.refl w.heap.size w) (.cells #[.slice (some aw) 2 cw] 22)) (.cells #[.int .i64 c] 3))
 have B2:=aa.mk ((aR.new w [.slice (some aw) 2 cw] 22).alloc (.cells #[.int .i64 c] 3))
 have B3:=aa.mk (aR.second w (.cells #[.slice (some aw) 2 cw] 22) [.int .i64 c] 3)
 have hs3:w.heap.size+1<((w.alloc (.cells #[.slice (some aw) 2 cw] 22)).alloc (.cells #[.int .i64 c] 3)).heap.size:=by simp
 generalize(w.alloc (.cells #[.slice (some aw) 2 cw] 22)).alloc (.cells #[.int .i64 c] 3)=w3 at HB3 B2 B3 hs3 ⊢
 have hall:[w0,w1].all (λn=>aK n 0 10000)=true:=by simp[aK];omega
 have hcall:=GV 135 #[] #[] (enters Tryz.func135 (by kernel_rfl) rfl) (λn=>aK n 0 10000) (some aw) cw [w0,w1] w3 (Kd.av HC.out HB3.out) (by simp) (λW x _=>E8 x W)
 rw[hall] at hcall
 refine hcall.mono ?_
 clear hall hcall
 rintro e w4 ⟨rfl,hb⟩
 have jd:=aa.mk (HB3.out.trans (hb.mono HB3.out.size))
 have zV:=aa.mk (B2.out.below hb)
 have CS:=aa.mk (B3.out.below hb)
 have hs4:=Nat.lt_of_lt_of_le hs3 hb.size
 clear hb HB3 B2 B3 hs3
 have h20:=zV.out.cell 0
 have jB:=CS.out.cell 0
 simp only[List.getElem?_cons_zero] at h20 jB
 go_wp2_with fail
 have hwb:aK c 0 100000=true:=by simp[aK];omega
 have hcall:=nk c 0 100000 w4
 rw[hwb] at hcall
 refine hcall.mono ?_
 clear hcall hwb
 rintro e w5 ⟨rfl,hb⟩
 have kv:=aa.mk (jd.out.trans (hb.mono jd.out.size))
 have yF:=aa.mk (zV.out.below hb)
 have EA:=aa.mk (CS.out.below hb)
 have hs5:=Nat.lt_of_lt_of_le hs4 hb.size
 clear hb jd zV CS hs4 h20 jB
 have h20:=yF.out.cell 0
 have jB:=EA.out.cell 0
 simp only[List.getElem?_cons_zero] at h20 jB
 go_wp2_with fail
 refine(dH.calls 3 (some aw) cw [w0,w1] (w0+w1) w5 (Kd.av HC.out kv.out) (by simpa using hcw) (OG w0 w1 hb0 hb1)).mono ?_
 rintro e w6 ⟨rfl,hb⟩
 replace hb:=hb.below
 rw[HS.out]
 have uz:=aa.mk (kv.out.trans (hb.mono kv.out.size))
 have PT:=aa.mk (yF.out.below hb)
 have Jb:=aa.mk (EA.out.below hb)
 have hs6:=Nat.lt_of_lt_of_le hs5 hb.size
 clear hb kv yF EA hs5 h20 jB
 have h20:=(PT.out.alloc (.cells #[.int .i64 s] 3)).cell 0
 have jB:=(Jb.out.alloc (.cells #[.int .i64 s] 3)).cell 0
 have xN:=(aR.new w6 [.int .i64 s] 3).cell 0
 simp only[List.getElem?_cons_zero] at h20 jB xN
 have hnz:(s==0)=false:=by simp;omega
 go_wp2_with fail
 have hsz:w6.heap.size<(w6.alloc (.cells #[.int .i64 s] 3)).heap.size:=by simp
 have Gi:=aa.mk (ae uz.out (.cells #[.int .i64 s] 3))
 have haw:aw.block<w.heap.size:=World.block_lt_of_cell? w (aw.add 0) (Tg HC.out).1
 have E7:=aa.mk (DB.mk (PT.out.alloc (.cells #[.int .i64 s] 3)) (Jb.out.alloc (.cells #[.int .i64 s] 3)) (aR.new w6 [.int .i64 s] 3) ((Gi.out.cell (p:=aw.add 0) haw).trans (Tg HC.out).1) ((Gi.out.cell (p:=aw.add 1) haw).trans (Tg HC.out).2))
 clear uz PT Jb h20 jB xN
 generalize w6.alloc (.cells #[.int .i64 s] 3)=w7 at hsz Gi E7 ⊢
 generalize w6.heap.size=g6 at hsz hs6 E7 ⊢
 have he7:w.heap.size+1<g6/\g6<w7.heap.size/\aw.block<w7.heap.size:=by omega
 have hw7:w.heap.size<=w7.heap.size:=by omega
 clear haw hsz hs6
 go_loopw [7,8,9,35] (λv7 v8 v9 v35 wr=>w7.heap.size<=wr.heap.size/\aa (Below w.heap.size w wr)/\aa (DB wr w.heap.size g6 aw cw c w0 w1 s)/\((v35= .int .i64 0/\v9= .int .i64 c/\aa (Two w7.heap.size wr v7 v8 [] []))\/(v35= .int .i64 1/\v9= .int .i64 (c-q0)/\aa (Two w7.heap.size wr v7 v8 [q0] [0]))\/(v35= .int .i64 2/\v9= .int .i64 left/\aa (Two w7.heap.size wr v7 v8 [q0,q1] [0,1])))) (λ_ _ _ v35 _=>2-(intOf v35).toNat)
 case atStart=>exact⟨Nat.le_refl _,Gi,E7,.inl ⟨rfl,rfl,⟨Two.nil _ _⟩⟩⟩
 case round=>
  clear Gi E7
  obtain⟨yT,HB,E,h⟩:=hrel
  have h20:=E.out.l.cell 0
  have jB:=E.out.c.cell 0
  have xN:=E.out.s.cell 0
  have ha0:wr.cell? aw=some (.int .i64 w0):=by have:=E.out.a0;rw[add0] at this;exact this
  have ha1:wr.cell? ⟨aw.block,aw.off+1,none⟩=some (.int .i64 w1):=by have:=E.out.a1;rw[add1] at this;exact this
  simp only[List.getElem?_cons_zero] at h20 jB xN
  rcases h with⟨rfl,rfl,HT⟩|⟨rfl,rfl,HT⟩|⟨rfl,rfl,HT⟩
  .have hm:=HD.out.m0
   have he:=HD.out.e0
   have hq:=HD.out.d0
   go_wp2_with (first|((with_reducible refine cz (b:= .append) (xs:=#[.tmp 40,.tmp 46]) rfl ?_);at_builtin;refine Kd.jk (Kd.int .i64) (w0:=wr) w7.heap.size rfl (.tmp 40) (.tmp 46) 22 3 (.int .i64 0) 8 rfl Tryz.underlying22 info3 rfl (by decide) (by omega) u7 ([]:List Int) q0 [.int .i64 q0] (λ_=>True) (λ_=>False) rfl rfl rfl (λ_ hk=>hk.elim) (λ_ _=>trivial) HT.out.r1 (Below.refl _ _) yT (by simp) ?_;intro v7 wn hon hbn hgn fP;have HT1:=aa.mk (HT.out.app1 hon hgn fP);have HB1:=aa.mk (HB.out.trans (hbn.mono hw7));have E1:=aa.mk (E.out.later hbn he7);have hsn:=Nat.le_trans yT hbn.size;clear hon hbn hgn fP)|((with_reducible refine cz (b:= .append) (xs:=#[.tmp 48,.tmp 50]) rfl ?_);at_builtin;refine Kd.jk (Kd.int .i64) (w0:=wn) w7.heap.size rfl (.tmp 48) (.tmp 50) 22 3 (.int .i64 0) 8 rfl Tryz.underlying22 info3 rfl (by decide) (by omega) u8 ([]:List Int) 0 [.int .i64 0] (λ_=>True) (λ_=>False) rfl rfl rfl (λ_ hk=>hk.elim) (λ_ _=>trivial) HT1.out.r2 (Below.refl _ _) hsn (by simp) ?_;intro v8 wm hon hbn hgn fP;have HT2:=aa.mk (HT1.out.Po hon hgn fP);have HB2:=aa.mk (HB1.out.trans (hbn.mono hw7));have E2:=aa.mk (E1.out.later hbn he7);have hsm:=Nat.le_trans hsn hbn.size;clear hon hbn hgn fP HT1 HB1 E1;obtain⟨ad,cv,e,hcell⟩:=qB HT2.out.r1 0 (by simp);cases e;simp only[List.nil_append,List.cons_append,List.getD_cons_zero,List.getD_cons_succ] at hcell))
   exact⟨⟨hsm,HB2,E2,.inr (.inl ⟨rfl,rfl,HT2⟩)⟩,by simp[intOf]⟩
  .have hm:=HD.out.m1
   have he:=HD.out.e0
   have he1:=HD.out.e1
   have hq:=HD.out.d1
   have hl:=HD.out.lf
   go_wp2_with (first|((with_reducible refine cz (b:= .append) (xs:=#[.tmp 40,.tmp 46]) rfl ?_);at_builtin;refine Kd.jk (Kd.int .i64) (w0:=wr) w7.heap.size rfl (.tmp 40) (.tmp 46) 22 3 (.int .i64 0) 8 rfl Tryz.underlying22 info3 rfl (by decide) (by omega) u7 [q0] q1 [.int .i64 q1] (λ_=>True) (λ_=>False) rfl rfl rfl (λ_ hk=>hk.elim) (λ_ _=>trivial) HT.out.r1 (Below.refl _ _) yT (by simp) ?_;intro v7 wn hon hbn hgn fP;have HT1:=aa.mk (HT.out.app1 hon hgn fP);have HB1:=aa.mk (HB.out.trans (hbn.mono hw7));have E1:=aa.mk (E.out.later hbn he7);have hsn:=Nat.le_trans yT hbn.size;clear hon hbn hgn fP)|((with_reducible refine cz (b:= .append) (xs:=#[.tmp 48,.tmp 50]) rfl ?_);at_builtin;refine Kd.jk (Kd.int .i64) (w0:=wn) w7.heap.size rfl (.tmp 48) (.tmp 50) 22 3 (.int .i64 0) 8 rfl Tryz.underlying22 info3 rfl (by decide) (by omega) u8 [0] 1 [.int .i64 1] (λ_=>True) (λ_=>False) rfl rfl rfl (λ_ hk=>hk.elim) (λ_ _=>trivial) HT1.out.r2 (Below.refl _ _) hsn (by simp) ?_;intro v8 wm hon hbn hgn fP;have HT2:=aa.mk (HT1.out.Po hon hgn fP);have HB2:=aa.mk (HB1.out.trans (hbn.mono hw7));have E2:=aa.mk (E1.out.later hbn he7);have hsm:=Nat.le_trans hsn hbn.size;clear hon hbn hgn fP HT1 HB1 E1;obtain⟨ad,cv,e,hcell⟩:=qB HT2.out.r1 1 (by simp);cases e;simp only[List.nil_append,List.cons_append,List.getD_cons_zero,List.getD_cons_succ] at hcell))
   exact⟨⟨hsm,HB2,E2,.inr (.inr ⟨rfl,rfl,HT2⟩)⟩,by simp[intOf]⟩
  .obtain⟨g7,c7,rfl,Kz⟩:=qB HT.out.r1 0 (by simp)
   obtain⟨g8,c8,rfl,_⟩:=qB HT.out.r2 0 (by simp)
   have hne:g7≠g8:=λe=>HT.out.ne g7 (by simp[Value.ownBlock]) (by simp[Value.ownBlock,e])
   obtain⟨_,hb8,ahY,_⟩:=(Kd.bE HT.out.r2).1 g8 (by simp[Value.ownBlock])
   obtain⟨_,hb7,ah0,_⟩:=(Kd.bE HT.out.r1).1 g7 (by simp[Value.ownBlock])
   clear Kz
   have HR:=aa.mk HD.out.aa5
   have HR8:=aa.mk (show qm w7.heap.size (λ_=>True) wr g8 c8 [0,1] from HT.out.r2)
   have P7:=aa.mk (show(Kd.int .i64).R 3 wr w7.heap.size (λ_=>True) (.slice (some ⟨g7,0,none⟩) 2 c7) [q0,q1] from HT.out.r1)
   have EB:=aa.mk (aR.new wr [.func (.func 138) #[] #[.pointer (some ⟨w.heap.size+1,0,none⟩),.pointer (some ⟨w.heap.size,0,none⟩),.pointer (some ⟨g6,0,none⟩)]] 229)
   have YV:wr.heap.size<(wr.alloc (.cells #[.func (.func 138) #[] #[.pointer (some ⟨w.heap.size+1,0,none⟩),.pointer (some ⟨w.heap.size,0,none⟩),.pointer (some ⟨g6,0,none⟩)]] 229)).heap.size:=by simp
   have Lv:=aa.mk (ae HB.out (.cells #[.func (.func 138) #[] #[.pointer (some ⟨w.heap.size+1,0,none⟩),.pointer (some ⟨w.heap.size,0,none⟩),.pointer (some ⟨g6,0,none⟩)]] 229))
   have Nu:=aa.mk (show qm w7.heap.size (λ_=>True) _ g8 c8 [0,1] from Kd.bK HR8.out (.cells #[.func (.func 138) #[] #[.pointer (some ⟨w.heap.size+1,0,none⟩),.pointer (some ⟨w.heap.size,0,none⟩),.pointer (some ⟨g6,0,none⟩)]] 229))
   have SB:=aa.mk (Kd.bK P7.out (.cells #[.func (.func 138) #[] #[.pointer (some ⟨w.heap.size+1,0,none⟩),.pointer (some ⟨w.heap.size,0,none⟩),.pointer (some ⟨g6,0,none⟩)]] 229))
   have Z9:=aa.mk (E.out.later (ae (Below.refl wr.heap.size wr) (.cells #[.func (.func 138) #[] #[.pointer (some ⟨w.heap.size+1,0,none⟩),.pointer (some ⟨w.heap.size,0,none⟩),.pointer (some ⟨g6,0,none⟩)]] 229)) (by omega))
   go_wp2_with fail
   clear HT HR8 P7 E HB h20 jB xN ha0 ha1
   generalize wr.alloc (.cells #[.func (.func 138) #[] #[.pointer (some ⟨w.heap.size+1,0,none⟩),.pointer (some ⟨w.heap.size,0,none⟩),.pointer (some ⟨g6,0,none⟩)]] 229)=wa at EB YV Lv Nu SB Z9 ⊢
   generalize wr.heap.size=g12 at EB YV ahY ah0 yT ⊢
   refine(GA (cap:=c8) (r0-r1) Nu.out (enters Tryz.func140 (by kernel_rfl) rfl) (λW hK=>?_)).mono ?_
   .refine O9 (g3:=w.heap.size+1) (g2:=w.heap.size) (g6:=g6) (g12:=g12) (aw:=aw) (cw:=cw) ?_ HR.out
    exact⟨Z9.out.c.move (hK.block _ (by omega) (by omega)),Z9.out.l.move (hK.block _ (by omega) (by omega)),Z9.out.s.move (hK.block _ (by omega) (by omega)),EB.out.move (hK.block _ (by omega) (by omega)),(hK.cell (p:=aw.add 0) (by show aw.block<_;omega) (by show ¬aw.block=_;omega)).trans Z9.out.a0,(hK.cell (p:=aw.add 1) (by show aw.block<_;omega) (by show ¬aw.block=_;omega)).trans Z9.out.a1⟩
   rintro e wb ⟨rfl,hO,hK⟩
   have HBb:=aa.mk (show Below w.heap.size w wb from⟨hK.os.trans Lv.out.os,hK.tape.trans Lv.out.tape,hK.output.trans Lv.out.output,Nat.le_trans Lv.out.size hK.size,λk hk=>(hK.block k (by omega) (by omega)).trans (Lv.out.block k hk)⟩)
   have Ll:=aa.mk (Kd.gQ (Kd.ym rfl SB.out) (λk hk hlt=>hK.block k hlt (by simp only[Value.ownBlock,Option.some.injEq] at hk;omega)))
   have hc8:2<=c8:=(Kd.dL Nu.out).2.1
   clear Lv Nu SB Z9 EB YV
   have HO:=aa.mk hO
   have hl:=HD.out.l01
   have hp:=HD.out.parts
   have e0:=HD.out.e0
   have e1:=HD.out.e1
   have hc0:=(qm.c0 (Ll.out:qm _ _ wb g7 c7 [q0,q1]))
   have hc1:=(qm.c1 (Ll.out:qm _ _ wb g7 c7 [q0,q1]))
   have hf0:=(qm.f0 (Ll.out:qm _ _ wb g7 c7 [q0,q1]))
   have hf1:=(qm.f1 (Ll.out:qm _ _ wb g7 c7 [q0,q1]))
   clear hO hK
   rcases hl with rfl|rfl
   .obtain⟨rfl,rfl⟩:p0=q0/\p1=q1:=by rw[if_pos rfl] at hp;exact hp
    clear hp HD
    go_wp2_with fail
    go_loopw [67] (λv67 wc=>v67= .int .i64 0/\wc=wb) (λ_ _=>0)
    case atStart=>exact⟨rfl,rfl⟩
    case round=>
     obtain⟨rfl,rfl⟩:=hrel
     go_wp2_with fail
     go_ret2
     exact⟨⟨_,rfl,Kd.bB (Kd.ed Ll.out hw7) (λ_ _=>trivial)⟩,HBb.out⟩
   .rw[if_neg (by omega)] at hp
    clear HD
    by_cases hd:r0-r1<0
    .rw[if_pos hd] at hp
     have Lp:=aa.mk (show qm w7.heap.size (λ_=>True) wb g8 c8 [1,0] by have:=HO.out;rw[if_pos hd] at this;exact this)
     obtain⟨rfl,rfl⟩:=hp
     have ho:=Lp.out.c0
     clear HO Lp hd HR
     go_wp2_with fail
     go_loopw [67] (λv67 wc=>(v67= .int .i64 0/\wc=wb)\/(v67= .int .i64 1/\wc=wb.setCell ⟨g7,1,none⟩ (.int .i64 (q1+1)))) (λv67 _=>1-(intOf v67).toNat)
     case atStart=>exact .inl ⟨rfl,rfl⟩
     case round=>
      rcases hrel with⟨rfl,rfl⟩|⟨rfl,rfl⟩
      .go_wp2_with fail
       exact⟨.inr ⟨rfl,trivial⟩,by simp[intOf]⟩
      .have ZO:=aa.mk (qm.p1 (Ll.out:qm _ _ wb g7 c7 [p0,q1]) (q1+1))
       have VG:=aa.mk (HBb.out.setCell (p:=⟨g7,1,none⟩) (by simp only;omega) (.int .i64 (q1+1)))
       generalize wb.setCell ⟨g7,1,none⟩ (.int .i64 (q1+1))=wf at ZO VG ⊢
       go_wp2_with fail
       go_ret2
       exact⟨⟨_,rfl,Kd.bB (Kd.ed ZO.out hw7) (λ_ _=>trivial)⟩,VG.out⟩
    .rw[if_neg hd] at hp
     have Lp:=aa.mk (show qm w7.heap.size (λ_=>True) wb g8 c8 [0,1] by have:=HO.out;rw[if_neg hd] at this;exact this)
     obtain⟨rfl,rfl⟩:=hp
     have ho:=Lp.out.c0
     clear HO Lp hd HR
     go_wp2_with fail
     go_loopw [67] (λv67 wc=>(v67= .int .i64 0/\wc=wb)\/(v67= .int .i64 1/\wc=wb.setCell ⟨g7,0,none⟩ (.int .i64 (q0+1)))) (λv67 _=>1-(intOf v67).toNat)
     case atStart=>exact .inl ⟨rfl,rfl⟩
     case round=>
      rcases hrel with⟨rfl,rfl⟩|⟨rfl,rfl⟩
      .go_wp2_with fail
       exact⟨.inr ⟨rfl,trivial⟩,by simp[intOf]⟩
      .have ZO:=aa.mk (qm.p0 (Ll.out:qm _ _ wb g7 c7 [q0,p1]) (q0+1))
       have VG:=aa.mk (HBb.out.setCell (p:=⟨g7,0,none⟩) (by simp only;omega) (.int .i64 (q0+1)))
       generalize wb.setCell ⟨g7,0,none⟩ (.int .i64 (q0+1))=wf at ZO VG ⊢
       go_wp2_with fail
       go_ret2
       exact⟨⟨_,rfl,Kd.bB (Kd.ed ZO.out hw7) (λ_ _=>trivial)⟩,VG.out⟩
end Go.Proofs.YtkjoilgpmngndaaGreat
