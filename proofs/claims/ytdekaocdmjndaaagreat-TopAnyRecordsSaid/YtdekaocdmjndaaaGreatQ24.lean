import Derived.Test.YtdekaocdmjndaaaGreatQ23
set_option maxHeartbeats 40000000
set_option maxRecDepth 100000
set_option linter.all false
namespace Go.Proofs.YtdekaocdmjndaaaGreat
open Go.RowKit Go.Shelf ah YtdekaocdmjndaaaGreatW.aj YtdekaocdmjndaaaGreatW.aH Ag
attribute [local go_sem] Oper.semAt_some
attribute [local go_sem] xz
def Te.T9:Bool×List (List Nat×List Nat):=(true,[([],[]),([],[]),([],[]),([2],[2]),([1,3],[1,3]),([],[]),([5],[5]),([],[]),([7],[7]),([0,4,6,8,4],[0,4,6,8])])
def Te.B9:List Nat:=[0,0,0,4,14,0,32,0,128,511]
theorem Te.Cr:eB .any (opsOf Tryz.f83 9)=Te.T9:=by kernel_rfl
theorem Te.uf:bI Te.T9.2 Te.B9=true:=by kernel_rfl
theorem Lf(w:World):Calls Tryz.prog 61 #[.slice none 0 0] w λe w'=>e= .returned (.slice none 0 0)/\w'=w:=by
 go_enter Tryz.func61,Tryz.ntmps61
 go_wp2_with fail
 go_ret
 exact⟨rfl,rfl⟩
theorem Lg{W:World}{v:Value}{xs:List Int}(h:LV W v xs)(hl:xs.length<=1000):Calls Tryz.prog 61 #[v] W λe w'=>∃v',e= .returned v'/\(Kd.int .i64).R 3 w' W.heap.size (λ_=>True) v' xs/\Below W.heap.size W w':=by
 obtain⟨A,c,rfl,hc,hC⟩:=Kd.dB h
 cases A with
 |none=>
  rcases(q8 h).2 with⟨hv,hn⟩|⟨g,cap,cur,hv,_⟩
  .obtain rfl:=List.eq_nil_of_length_eq_zero hn
   rw[hv]
   exact(Lf W).mono λe w' ⟨h1,h2⟩=>⟨_,h1,Kd.iH _ _ _ _ _,by rw[h2];exact Below.refl _ _⟩
  .cases hv
 |some ad=>exact wh rfl W hC hl
structure Lv(W0:World)(g6:Nat)(va:Value)(al:List (List Rg))(W:World):Prop where
 k:aY W0.heap.size (λb=>b=g6) W0 W
 f:∃vf,aV W g6 [vf] 30
 ra:Xd.R 69 W 0 (λb=>b<W0.heap.size/\b≠g6) va al
theorem Lv.step{W0 W W':World}{g6:Nat}{va:Value}{al:List (List Rg)}{S:Nat->Prop}(h:Lv W0 g6 va al W)(hk:aY W.heap.size S W W')(hS:∀b,S b->b=g6\/W0.heap.size<=b)(hf:∃vf,aV W' g6 [vf] 30):Lv W0 g6 va al W':=
 ⟨h.k.trans (hk.mono h.k.size (λb hb hs=>(hS b hs).elim id (λh=>by omega))),hf,Kd.gz h.ra (λb hb hl=>hk.block b hl (λhs=>(hS b hs).elim hb.2 (λh=>by have:=hb.1;omega)))⟩
theorem Lv.below{W0 W W':World}{g6:Nat}{va:Value}{al:List (List Rg)}(h:Lv W0 g6 va al W)(hb:Below W.heap.size W W'):Lv W0 g6 va al W':=
 h.step (S:=λ_=>False) (aY.of_below hb (Nat.le_refl _)) (λ_ h=>h.elim) (h.f.imp λ_ h=>h.below hb)
structure LvC(W0:World)(g5 g6 g7 gf:Nat)(lo hi:Int)(u2:Value)(Ac:Option Addr)(n cc:Nat)(va:Value)(al:List (List Rg)):Prop where
 h5:aV W0 g5 [.pointer (some ⟨gf,0,none⟩)] 197
 hf:aV W0 gf [.int .i64 lo,.int .i64 hi,u2,.slice Ac n cc,va] 203
 h7:aV W0 g7 [.func (.func 83) #[] #[.pointer (some ⟨g5,0,none⟩),.pointer (some ⟨g6,0,none⟩),.pointer (some ⟨g7,0,none⟩)]] 199
 n5:g5≠g6
 nf:gf≠g6
 n7:g7≠g6
 l6:g6<W0.heap.size
 al8:al.length<=8
 al1:∀a ∈ al,a.length<=121
 n8:n<=8
def Ph(W0:World)(g6:Nat)(va:Value)(al:List (List Rg))(W:World)(v:Value)(xs:List Int)(res:Option (List Int))(e:Ending)(W':World):Prop:=
 e= .returned (.bool res.isSome)/\Lv W0 g6 va al W'/\aY W.heap.size (λb=>some b=v.ownBlock\/b=g6) W W'/\(res=none->LV W' v xs)/\∀l,res=some l->∃vf,aV W' g6 [vf] 30/\(Kd.int .i64).R 3 W' W0.heap.size (λ_=>True) vf l
theorem Lv.blk{W0 W:World}{g6:Nat}{va:Value}{al:List (List Rg)}(h:Lv W0 g6 va al W){g:Nat}{cs:List Value}{t:TypeId}(hb:aV W0 g cs t)(hne:g≠g6):aV W g cs t:=hb.move (h.k.block g hb.lt hne)
theorem CL{W0:World}{g5 g6 g7 gf:Nat}{lo hi:Int}{u2:Value}{Ac:Option Addr}{n cc:Nat}{va:Value}{al:List (List Rg)}(hc:LvC W0 g5 g6 g7 gf lo hi u2 Ac n cc va al):
  ∀(m:Nat) (xs:List Int) (v:Value) (next:Nat) (W:World),Lv W0 g6 va al W->LV W v xs->(∀k,v.ownBlock=some k->W0.heap.size<=k)->next<=n->xs.length+m<=8 ->
   Calls Tryz.prog 83 #[v,.int .i64 (next:Int),.int .i64 (m:Int),.pointer (some ⟨g5,0,none⟩),.pointer (some ⟨g6,0,none⟩),.pointer (some ⟨g7,0,none⟩)] W (Ph W0 g6 va al W v xs (jf (jr ⟨lo,hi⟩ al) n m xs next)):=by
 have HC:=aa.mk hc
 have FV:=hc.n8
 clear hc
 intro m
 induction m with
 |zero=>
  intro xs v next W hL hv SC hnx hxm
  have HL:=aa.mk hL
  have HV:=aa.mk hv
  have HVO:=aa.mk SC
  have HR:=aa.mk (show jf (jr ⟨lo,hi⟩ al) n 0 xs next=if jr ⟨lo,hi⟩ al xs then some xs else none by rw[jf])
  obtain⟨res,hres⟩:∃r,jf (jr ⟨lo,hi⟩ al) n 0 xs next=r:=⟨_,rfl⟩
  rw[hres] at HR ⊢
  obtain⟨A,c,rfl,Vn,Y6⟩:=Kd.dB hv
  have hC:=aa.mk Y6
  obtain⟨Aa,ca,rfl,ak6,YZ⟩:=Kd.dB hL.ra
  have HA:=aa.mk YZ
  have h50:=(hL.blk HC.out.h5 HC.out.n5).cell 0
  simp only[List.getElem?_cons_zero] at h50
  have hl5:=(hL.blk HC.out.h5 HC.out.n5).lt
  clear hL hv SC hres Y6 YZ
  go_enter Tryz.func83,Tryz.ntmps83
  go_wp2_with fail
  refine(zH lo hi xs W (HL.out.blk HC.out.hf HC.out.nf) HA.out HC.out.al8 HC.out.al1 hC.out Vn (by omega)).mono ?_
  rintro e w1 ⟨v1,rfl,Vr,hb1⟩
  have HL1:=aa.mk (HL.out.below hb1)
  have Xo:=aa.mk (Kd.dm HV.out hb1)
  have HB1:=aa.mk hb1
  have HT:=aa.mk (show jr ⟨lo,hi⟩ al xs=!(nI ⟨lo,hi⟩ al xs).isEmpty from rfl)
  obtain⟨ds,hds⟩:∃d,nI ⟨lo,hi⟩ al xs=d:=⟨_,rfl⟩
  rw[hds] at Vr HT
  obtain⟨A1,c1,rfl⟩:=Kd.di Vr
  clear Vr hb1 hds h50 hl5
  cases ds with
  |nil=>
   have HRN:=aa.mk (show res=none by rw[HR.out,HT.out];rfl)
   simp only[List.length_nil]
   go_wp2_with fail
   go_ret
   exact⟨by rw[HRN.out];rfl,HL1.out,aY.of_below HB1.out (Nat.le_refl _),λ_=>Xo.out,λl h=>by rw[HRN.out] at h;cases h⟩
  |cons d ds=>
   have HRS:=aa.mk (show res=some xs by rw[HR.out,HT.out];rfl)
   have hlb:(((d::ds).length:Int)==0)=false:=by simp;omega
   obtain⟨nd,hnd⟩:∃q,(d::ds).length=q:=⟨_,rfl⟩
   rw[hnd] at hlb ⊢
   clear hnd
   go_wp2_with fail
   refine(Lg Xo.out (by omega)).mono ?_
   rintro e w2 ⟨v2,rfl,hR2,hb2⟩
   have HL2:=aa.mk (HL1.out.below hb2)
   have IB:=aa.mk (HB1.out.trans (hb2.mono HB1.out.size))
   have hs0:=HL1.out.k.size
   have HR2:=aa.mk (Kd.dG (Kd.bM (Kd.bL hR2) (λk hk=>(hk.2.1:w1.heap.size<=k))) hs0)
   obtain⟨A2,c2,rfl⟩:=Kd.di hR2
   obtain⟨vf,I6⟩:=HL2.out.f
   have HF:=aa.mk I6
   have hf0:=I6.cell 0
   have hff:=I6.frozen 0
   have hfl:=I6.lt
   simp only[List.getElem?_cons_zero] at hf0
   clear hR2 hb2 I6
   obtain⟨nx,hnx2⟩:∃q,xs.length=q:=⟨_,rfl⟩
   have FL:=aa.mk hnx2
   rw[hnx2] at HR2 ⊢
   clear hnx2
   go_wp2_with fail
   go_ret
   have hl6:=HC.out.l6
   refine⟨by rw[HRS.out];rfl,HL2.out.step (S:=λb=>b=g6) (aY.setCell (S:=λb=>b=g6) (aY.refl w2.heap.size _ w2) (p:=⟨g6,0,none⟩) (.inl rfl) _) (λb h=> .inl h) ⟨_,HF.out.setAt 0 _⟩,(aY.of_below IB.out (Nat.le_refl _)).setCell (p:=⟨g6,0,none⟩) (.inl (.inr rfl)) _,(λh=>by rw[HRS.out] at h;cases h),λl h=>?_⟩
   rw[HRS.out] at h
   cases h
   exact⟨_,HF.out.setAt 0 _,Kd.bM (Kd.gP (p:=⟨g6,0,none⟩) HR2.out (λk hk=>by simp only;omega) _) (λ_ _=>trivial)⟩
 |succ m ih=>
  intro xs v next W hL hv SC hnx hxm
  have HVO:=aa.mk SC
  obtain⟨F,hF⟩:∃F:Nat->Option (List Int),F=λ(i:Nat)=>jf (jr ⟨lo,hi⟩ al) n m (xs++[(i:Int)]) (i+1):=⟨_,rfl⟩
  have HIH:=aa.mk (λ(i:Nat) (v:Value) (W:World) (hL:Lv W0 g6 va al W) (hv:LV W v (xs++[(i:Int)])) (SC:∀k,v.ownBlock=some k->W0.heap.size<=k) (hin:i<n)=>(by
   have:=ih (xs++[(i:Int)]) v (i+1) W hL hv SC (by omega) (by simp;omega)
   rw[show((i+1:Nat):Int)=(i:Int)+1 from by push_cast;rfl] at this
   rw[hF]
   exact this:Calls Tryz.prog 83 #[v,.int .i64 ((i:Int)+1),.int .i64 (m:Int),.pointer (some ⟨g5,0,none⟩),.pointer (some ⟨g6,0,none⟩),.pointer (some ⟨g7,0,none⟩)] W (Ph W0 g6 va al W v (xs++[(i:Int)]) (F i))))
  have hR:jf (jr ⟨lo,hi⟩ al) n (m+1) xs next=(List.range' next (n-next)).findSome? F:=by rw[jf,hF]
  obtain⟨res,hres⟩:∃r,jf (jr ⟨lo,hi⟩ al) n (m+1) xs next=r:=⟨_,rfl⟩
  rw[hres] at hR ⊢
  have HR:=aa.mk hR
  have HL:=aa.mk hL
  have HV:=aa.mk hv
  have hmb:(((m+1:Nat):Int)==0)=false:=by simp;omega
  obtain⟨mm,hmm⟩:∃q:Int,((m+1:Nat):Int)=q:=⟨_,rfl⟩
  have hm1:IntKind.i64.wrap (mm-1)=(m:Int):=by rw[<- hmm,cB];unfold wrap64;omega
  have Iz:=aa.mk hm1
  rw[hmm] at hmb ⊢
  have hm8:xs.length<=7:=by omega
  have HVE:=aa.mk (λk h=>SC k h)
  obtain⟨A,c,rfl⟩:=Kd.di hv
  clear hL hv SC hres hR hF ih hmm hm1
  go_enter Tryz.func83,Tryz.ntmps83
  go_wp2_with fail
  go_loopw [10] (λv10 wr=>∃i:Nat,next<=i/\i<=n/\v10= .int .i64 i/\aa (Lv W0 g6 va al wr)/\aa (LV wr (.slice A xs.length c) xs)/\aa (aY W.heap.size (λb=>some b=(Value.slice A xs.length c).ownBlock\/b=g6) W wr)/\aa (res=(List.range' i (n-i)).findSome? F)) (λv10 _=>n-(intOf v10).toNat)
  case atStart=>exact⟨next,Nat.le_refl _,hnx,rfl,HL,HV,⟨aY.refl _ _ _⟩,HR⟩
  case round=>
   clear HL HV HR
   obtain⟨i,hi0,hi1,rfl,HL,HV,HK,HR⟩:=hrel
   have h50:=(HL.out.blk HC.out.h5 HC.out.n5).cell 0
   have hf3:=(HL.out.blk HC.out.hf HC.out.nf).cell 3
   simp only[dZ,dY] at h50 hf3
   by_cases hin:i<n
   .have hst:res=(F i).or ((List.range' (i+1) (n-(i+1))).findSome? F):=by
     rw[HR.out,show n-i=(n-(i+1))+1 by omega,List.range'_succ,List.findSome?_cons]
     cases F i<;>rfl
    have HST:=aa.mk hst
    obtain⟨b,hb⟩:∃b,(F i).isSome=b:=⟨_,rfl⟩
    have HB:=aa.mk hb
    have Am:=(HL.out.blk HC.out.h7 HC.out.n7).cell 0
    simp only[dZ,dY] at Am
    clear hst hb HR
    go_wp2_with fail
    have hm1:=Iz.out
    have hwi:IntKind.i64.wrap ((i:Int)+1)=(i:Int)+1:=by rw[cB];unfold wrap64;omega
    refine fF (n:=10) (S:=λw'=>w'.cell? ⟨g7,0,none⟩=some (.func (.func 83) #[] #[.pointer (some ⟨g5,0,none⟩),.pointer (some ⟨g6,0,none⟩),.pointer (some ⟨g7,0,none⟩)])) (ds:=[9]) #[O,O,O,O,O,O,O,O,O,O] (by kernel_rfl) rfl rfl Am (λhHeld=>?_);refine bG Te.Cr Te.uf (λau cz=>?_)
    replace HL:=aa.mk (HL.out.below (aN (Below.refl _ wr)))
    replace HV:=aa.mk (Kd.dm HV.out (aN (Below.refl _ wr)))
    replace HK:=aa.mk HK.out.drew
    clear h50 hf3 Am
    generalize wr.drew=wd at HL HV HK hHeld ⊢
    refine fJ 0 31 #[I,O,O,O,O,O,O,O,O,O] au cz hHeld (hy:=by(rintro w' s0;go_simp;with_reducible rfl)) (h:=?_)
    refine bq 1 32 #[I,I,O,O,O,O,O,O,O,O] au (h:=?_)
    refine bq 2 33 #[I,I,I,O,O,O,O,O,O,O] au (h:=?_)
    refine bq 5 36 #[I,I,I,O,O,I,O,O,O,O] au (h:=?_)
    refine bq 6 37 #[I,I,I,O,O,I,I,O,O,O] au (h:=?_)
    refine bq 7 38 #[I,I,I,O,O,I,I,I,O,O] au (h:=?_)
    refine bq 8 39 #[I,I,I,O,O,I,I,I,I,O] au (h:=?_)
    refine gB (i:=3) (N:=some 34) #[I,I,I,I,O,I,I,I,I,O] rfl rfl (aM au.out (by kernel_rfl)) (by decide) (λK hK=>?_)
    refine bD (w1:=?_) (v:=?_) (by rfl) rfl ?_ ?_
    rotate_left 2
    .go_simp
     constructor<;>rfl
    refine hK.out _ _ ((((ae (Below.refl _ wd) (.cells #[.int .i64 (i:Int)] 3))).cell (World.block_lt_of_cell? _ _ hHeld)).trans hHeld) (λhHeld=>?_)
    clear hK K
    have Bm:=aa.mk (aV.new wd [.int .i64 (i:Int)] 3)
    replace HL:=aa.mk (HL.out.below (ae (Below.refl _ wd) (.cells #[.int .i64 (i:Int)] 3)))
    replace HV:=aa.mk (Kd.dm HV.out (ae (Below.refl _ wd) (.cells #[.int .i64 (i:Int)] 3)))
    replace HK:=aa.mk (HK.out.trans (aY.of_below (ae (Below.refl _ wd) (.cells #[.int .i64 (i:Int)] 3)) HK.out.size))
    generalize hgm:wd.heap.size=gm at Bm ⊢
    clear hgm
    generalize wd.alloc (.cells #[.int .i64 (i:Int)] 3)=we at Bm HL HV HK hHeld ⊢
    refine j4 ?_
    refine gB (i:=4) (N:=some 35) #[I,I,I,I,I,I,I,I,I,O] rfl rfl (aM au.out (by kernel_rfl)) (by decide) (λK hK=>?_)
    refine ZP (.tmp 32) (.tmp 34) (by rfl) rfl rfl rfl ⟨gm,0,none⟩ (i:Int) rfl (Bm.out.cell 0) HV.out (by omega) (λv1 w1 ha1 ha2 ha3 ha4=>?_)
    have hne:=λ(e:some g7=Value.ownBlock (.slice A xs.length c))=>(show False from by have h1:=HVE.out g7 e.symm;have h2:=HC.out.h7.lt;omega)
    have HL1:=aa.mk (HL.out.step (W':=w1) (S:=λb=>some b=Value.ownBlock (.slice A xs.length c)) ⟨ha2.os,ha2.tape,ha2.output,ha2.size,λb hb hs=>ha2.block b hb hs⟩ (λb h=> .inr (HVE.out b h.symm)) (HL.out.f.imp λ_ h=>h.move (ha2.block g6 h.lt (λe=>by have h1:=HVE.out g6 e.symm;have h2:=HC.out.l6;omega))))
    have pX:=aa.mk (HK.out.trans ⟨ha2.os,ha2.tape,ha2.output,ha2.size,λb hb hs=>ha2.block b (Nat.lt_of_lt_of_le hb HK.out.size) (λe=>hs (.inl e))⟩)
    have HLO:=aa.mk (λb (hb:some b=Value.ownBlock (.slice A xs.length c))=>(Nat.lt_of_lt_of_le ((Kd.bL HV.out).1 b hb.symm).2.2.1 ha2.size:b<w1.heap.size))
    have hsz0:=HL.out.k.size
    have hszW:=HK.out.size
    have DD:=aa.mk (show ∀k,v1.ownBlock=some k->W0.heap.size<=k from λk hk=>ha3.elim (λe=>HVE.out k (e▸hk)) (λ⟨b,e,hb⟩=>by rw[e] at hk;cases hk;omega))
    have LU:=aa.mk (show ∀k,some k=v1.ownBlock->k<W.heap.size->some k=Value.ownBlock (.slice A xs.length c) from λk hk hlt=>ha3.elim (λe=>e▸hk) (λ⟨b,e,hb⟩=>by rw[e] at hk;cases hk;omega))
    have Xo:=aa.mk ha1
    have HBK:=aa.mk ha4
    refine hK.out _ _ ((World.cell?_of_block (w:=we) (ha2.block g7 (World.block_lt_of_cell? _ _ hHeld) hne)).trans hHeld) (λhHeld=>?_)
    clear hK K ha1 ha2 ha3 ha4 hne HL HV HK Bm
    refine j4 ?_
    refine fB (i:=9) (N:=some 40) #[I,I,I,I,I,I,I,I,I,I] rfl rfl (aM au.out (by kernel_rfl)) (by decide) (λK hK=>?_)
    refine Df Tryz.func83 (by kernel_rfl) rfl #[v1,.int .i64 ((i:Int)+1),.int .i64 (m:Int)] (by rfl) rfl rfl (by rfl) (by first|rfl|(simp only[List.map_toArray,List.map_cons,List.map_nil];rfl)) ?_
    simp only[List.append_toArray,List.cons_append,List.nil_append]
    refine(HIH.out i v1 w1 HL1.out Xo.out DD.out hin).mono ?_
    rintro e_ w_ ⟨rfl,hL2,hK2,hN2,hS2⟩
    rw[HB.out]
    refine⟨_,rfl,hK.out _ _ ?_⟩
    clear hK K
    have HL2:=aa.mk hL2
    have IB:=aa.mk (pX.out.trans (hK2.mono pX.out.size (λb hb hs=>hs.elim (λh=> .inl (LU.out b h hb)) .inr)))
    have HN2:=aa.mk (λh=>HBK.out w_ (hN2 h) (λb hb hne=>hK2.block b (HLO.out b hb) (λh=>h.elim hne (λe=>by have h1:=HVE.out b hb.symm;have h2:=HC.out.l6;omega))))
    have HS2:=aa.mk hS2
    clear hL2 hK2 hN2 hS2
    refine j4 ?_
    refine fM (bP au.out (by kernel_rfl)) ?_
    clear hwi hm1
    cases b
    .go_wp2_with fail
     have hFn:F i=none:=by
      have:=HB.out
      cases hf:F i with
      |none=>rfl
      |some l=>rw[hf] at this;cases this
     have NK:=HST.out
     rw[hFn] at NK
     exact⟨⟨i+1,by omega,by omega,by go_num,HL2,⟨HN2.out hFn⟩,IB,⟨NK⟩⟩,by simp[intOf];omega⟩
    .go_wp2_with fail
     go_ret
     have hFs:∃l,F i=some l:=by
      have:=HB.out
      cases hf:F i with
      |none=>rw[hf] at this;cases this
      |some l=>exact⟨l,rfl⟩
     obtain⟨l,hFl⟩:=hFs
     have hrl:res=some l:=by rw[HST.out,hFl];rfl
     refine⟨by rw[hrl];rfl,HL2.out,IB.out,(λh=>by rw[hrl] at h;cases h),λl' h=>?_⟩
     rw[hrl] at h
     cases h
     exact HS2.out l hFl
   .obtain rfl:i=n:=by omega
    have HRN:=aa.mk (show res=none by rw[HR.out,Nat.sub_self];rfl)
    go_wp2_with fail
    go_ret
    exact⟨by rw[HRN.out];rfl,HL.out,HK.out,λ_=>HV.out,λl h=>by rw[HRN.out] at h;cases h⟩
end Go.Proofs.YtdekaocdmjndaaaGreat
namespace Go.Proofs.YtdekaocdmjndaaaGreat
open Go.RowKit Go.Shelf ah YtdekaocdmjndaaaGreatW.aj YtdekaocdmjndaaaGreatW.aH Ag
def afQ(w:World)(x:List Int×Int)(e:Ending)(w':World):Prop:=∃v,e= .returned (.tuple #[v,.int .i64 x.2])/\(Kd.int .i64).R 3 w' w.heap.size (λ_=>True) v x.1/\Below w.heap.size w w'
theorem xV{Ar Ac:Option Addr}{cr cc:Nat}{rules:List Ru}{recs:List Re}(lo hi:Int)(w:World)(h:Ao w Ar cr rules Ac cc recs):
  Calls Tryz.prog 24 #[.agg #[.int .i64 lo,.int .i64 hi,.slice Ar rules.length cr,.slice Ac recs.length cc]] w (afQ w (fe.leave ⟨⟨lo,hi⟩,rules,recs⟩)):=by
 have H:=aa.mk h
 clear h
 have HP:=aa.mk (show fe.leave ⟨⟨lo,hi⟩,rules,recs⟩=if fe.fault ⟨⟨lo,hi⟩,rules,recs⟩=0 then((qM (jr ⟨lo,hi⟩ (recs.map (ni rules))) recs.length).getD [],0) else([],fe.fault ⟨⟨lo,hi⟩,rules,recs⟩) from rfl)
 have DL:=aa.mk (M4 (lo:=lo) (hi:=hi) (rules:=rules) (recs:=recs))
 have HBI:=aa.mk (λ(h:fe.fault ⟨⟨lo,hi⟩,rules,recs⟩=0)=>Dw (born:=⟨lo,hi⟩) (fe.yG h) (fe.pO ⟨⟨lo,hi⟩,rules,recs⟩))
 go_enter Tryz.func24,Tryz.ntmps24
 go_wp2_with fail
 go_step3
 go_wp2_with fail
 have HB:=aa.mk (ae (Below.refl w.heap.size w) (.cells #[.int .i64 lo,.int .i64 hi,.slice Ar rules.length cr,.slice Ac recs.length cc] 67))
 have BX:=aa.mk (aV.new w [.int .i64 lo,.int .i64 hi,.slice Ar rules.length cr,.slice Ac recs.length cc] 67)
 generalize w.alloc (.cells #[.int .i64 lo,.int .i64 hi,.slice Ar rules.length cr,.slice Ac recs.length cc] 67)=w0 at HB BX ⊢
 have dx:=BX.out.cell 0
 have dw:=BX.out.cell 1
 have dn:=BX.out.cell 2
 have dQ:=BX.out.cell 3
 simp only[dZ,dY] at dx dw dn dQ
 have mg:=BX.out.lt
 refine(jl lo hi w0 (H.out.below HB.out)).mono ?_
 rintro e w1 ⟨rfl,dK⟩
 clear dx dw dn dQ mg
 replace HB:=aa.mk (HB.out.trans (dK.mono HB.out.size))
 replace BX:=aa.mk (BX.out.below dK)
 clear dK
 have dx:=BX.out.cell 0
 have dw:=BX.out.cell 1
 have dn:=BX.out.cell 2
 have dQ:=BX.out.cell 3
 simp only[dZ,dY] at dx dw dn dQ
 have mg:=BX.out.lt
 obtain⟨y,hy⟩:∃y,fe.leave ⟨⟨lo,hi⟩,rules,recs⟩=y:=⟨_,rfl⟩
 have HY:=aa.mk hy
 obtain⟨f,hf⟩:∃f,fe.fault ⟨⟨lo,hi⟩,rules,recs⟩=f:=⟨_,rfl⟩
 rw[hf] at HP DL HBI ⊢
 clear hf hy
 by_cases hf0:f=0
 .subst hf0
  rw[if_pos rfl] at HP
  have hok:=DL.out rfl
  go_wp2_with fail
  refine(zG lo hi w1 (H.out.below HB.out) hok).mono ?_
  rintro e w2 ⟨gf,v,rfl,hfa⟩
  have HFA:=aa.mk hfa
  have HB2:=aa.mk (HB.out.trans (hfa.b.mono HB.out.size))
  have Sj:=aa.mk (BX.out.move (hfa.b.block _ BX.out.lt))
  clear dx dw dn dQ mg HB BX hfa
  go_wp2_with fail
  rw[show w2.heap.size+1+1=w2.heap.size+2 from rfl]
  have Ot:(recs.map (ni rules)).length=recs.length:=List.length_map ..
  have Be:∀a ∈ recs.map (ni rules),a.length<=121:=λa ha=>by
   obtain⟨x,_,rfl⟩:=List.mem_map.1 ha
   exact uq _ _
  obtain⟨lb,hlb⟩:=HBI.out trivial
  have KT:qM (jr ⟨lo,hi⟩ (recs.map (ni rules))) (recs.map (ni rules)).length=some lb:=hlb
  rw[Ot] at KT
  rw[KT] at HP
  have FV:=hok.m
  obtain⟨n,hn⟩:∃n,recs.length=n:=⟨_,rfl⟩
  have HN:=aa.mk hn
  obtain⟨al,hal⟩:∃l,recs.map (ni rules)=l:=⟨_,rfl⟩
  rw[hal] at HFA Be KT Ot
  rw[hn] at HFA KT Ot FV Sj
  have amQ:=aa.mk Ot
  have hgf:=HFA.out.bf.lt
  have hgx:=Sj.out.lt
  have B5:=aa.mk (((aV.new w2 [.pointer (some ⟨gf,0,none⟩)] 197).alloc (.cells #[.slice none 0 0] 30)).alloc (.cells #[.func (.func 83) #[] #[.pointer (some ⟨w2.heap.size,0,none⟩),.pointer (some ⟨w2.heap.size+1,0,none⟩),.pointer (some ⟨w2.heap.size+2,0,none⟩)]] 199))
  have B6:=aa.mk ((aV.second w2 (.cells #[.pointer (some ⟨gf,0,none⟩)] 197) [.slice none 0 0] 30).alloc (.cells #[.func (.func 83) #[] #[.pointer (some ⟨w2.heap.size,0,none⟩),.pointer (some ⟨w2.heap.size+1,0,none⟩),.pointer (some ⟨w2.heap.size+2,0,none⟩)]] 199))
  have B7:=aa.mk (show aV (((w2.alloc (.cells #[.pointer (some ⟨gf,0,none⟩)] 197)).alloc (.cells #[.slice none 0 0] 30)).alloc (.cells #[.func (.func 83) #[] #[.pointer (some ⟨w2.heap.size,0,none⟩),.pointer (some ⟨w2.heap.size+1,0,none⟩),.pointer (some ⟨w2.heap.size+2,0,none⟩)]] 199)) (w2.heap.size+2) [.func (.func 83) #[] #[.pointer (some ⟨w2.heap.size,0,none⟩),.pointer (some ⟨w2.heap.size+1,0,none⟩),.pointer (some ⟨w2.heap.size+2,0,none⟩)]] 199 from by simpa using aV.second (w2.alloc (.cells #[.pointer (some ⟨gf,0,none⟩)] 197)) (.cells #[.slice none 0 0] 30) [.func (.func 83) #[] #[.pointer (some ⟨w2.heap.size,0,none⟩),.pointer (some ⟨w2.heap.size+1,0,none⟩),.pointer (some ⟨w2.heap.size+2,0,none⟩)]] 199)
  have HW:=aa.mk (ae (ae (ae (Below.refl w2.heap.size w2) (.cells #[.pointer (some ⟨gf,0,none⟩)] 197)) (.cells #[.slice none 0 0] 30)) (.cells #[.func (.func 83) #[] #[.pointer (some ⟨w2.heap.size,0,none⟩),.pointer (some ⟨w2.heap.size+1,0,none⟩),.pointer (some ⟨w2.heap.size+2,0,none⟩)]] 199))
  have hsz:(((w2.alloc (.cells #[.pointer (some ⟨gf,0,none⟩)] 197)).alloc (.cells #[.slice none 0 0] 30)).alloc (.cells #[.func (.func 83) #[] #[.pointer (some ⟨w2.heap.size,0,none⟩),.pointer (some ⟨w2.heap.size+1,0,none⟩),.pointer (some ⟨w2.heap.size+2,0,none⟩)]] 199)).heap.size=w2.heap.size+3:=by simp
  generalize((w2.alloc (.cells #[.pointer (some ⟨gf,0,none⟩)] 197)).alloc (.cells #[.slice none 0 0] 30)).alloc (.cells #[.func (.func 83) #[] #[.pointer (some ⟨w2.heap.size,0,none⟩),.pointer (some ⟨w2.heap.size+1,0,none⟩),.pointer (some ⟨w2.heap.size+2,0,none⟩)]] 199)=W0 at B5 B6 B7 HW hsz ⊢
  have HF0:=aa.mk (HFA.out.below HW.out)
  have WN:=aa.mk (HB2.out.trans (HW.out.mono HB2.out.size))
  have BX0:=aa.mk (Sj.out.below HW.out)
  have HC:=aa.mk (show LvC W0 w2.heap.size (w2.heap.size+1) (w2.heap.size+2) gf lo hi (.slice Ar rules.length cr) Ac n cc v al from⟨B5.out,HF0.out.bf,B7.out,by omega,by omega,by omega,by omega,by omega,Be,by omega⟩)
  have HL0:=aa.mk (show Lv W0 (w2.heap.size+1) v al W0 from⟨aY.refl _ _ _,⟨_,B6.out⟩,Kd.bM (Kd.dG (Kd.bL (Kd.iG HF0.out.ra B6.out (by decide))) (Nat.zero_le _)) (λb hb=>⟨hb.2.2.1,hb.1.2⟩)⟩)
  have hx3:=BX0.out.cell 3
  simp only[dZ,dY] at hx3
  have hlx:=BX0.out.lt
  have HT0:=aa.mk (show qM (jr ⟨lo,hi⟩ al) n=(List.range' 0 (n+1)).findSome? (λm=>jf (jr ⟨lo,hi⟩ al) n m [] 0) by unfold qM;rw[List.range_eq_range'])
  rw[KT] at HT0
  have agV:=aa.mk HB2.out.size
  clear Be hlb KT hal Ot hn HFA HB2 Sj HBI
  obtain⟨G,hG⟩:∃G:Nat->Option (List Int),G=λm=>jf (jr ⟨lo,hi⟩ al) n m [] 0:=⟨_,rfl⟩
  have HLC:=aa.mk (λ(m:Nat) (W:World) (hL:Lv W0 (w2.heap.size+1) v al W) (hm:m<=n)=>(by
   have:=CL HC.out m [] (.slice none 0 0) 0 W hL (Kd.iH _ _ _ _ _) (λk hk=>by simp[Value.ownBlock] at hk) (Nat.zero_le _) (by simp;omega)
   rw[hG]
   exact this:Calls Tryz.prog 83 #[.slice none 0 0,.int .i64 0,.int .i64 (m:Int),.pointer (some ⟨w2.heap.size,0,none⟩),.pointer (some ⟨w2.heap.size+1,0,none⟩),.pointer (some ⟨w2.heap.size+2,0,none⟩)] W (Ph W0 (w2.heap.size+1) v al W (.slice none 0 0) [] (G m))))
  rw[<- hG] at HT0
  clear hG
  go_step3
  go_wp2_with fail
  have HBQ:=aa.mk WN.out
  have hBS:=aa.mk (And.intro agV.out WN.out.size)
  clear WN
  go_loopw [21] (λv21 wr=>∃m:Nat,m<=n+1/\v21= .int .i64 m/\aa (Lv W0 (w2.heap.size+1) v al wr)/\aa (some lb=(List.range' m (n+1-m)).findSome? G)) (λv21 _=>n+1-(intOf v21).toNat)
  case atStart=>exact⟨0,by omega,rfl,HL0,HT0⟩
  clear HL0 HT0
  obtain⟨m,hm0,rfl,HL,HR⟩:=hrel
  have hmn:m<=n:=by
   have:=HR.out
   by_cases hm:m<=n
   .exact hm
   .rw[show n+1-m=0 by omega] at this
    cases this
  have HST:=aa.mk (show some lb=(G m).or ((List.range' (m+1) (n+1-(m+1))).findSome? G) from by
   rw[HR.out,show n+1-m=(n+1-(m+1))+1 by omega,List.range'_succ,List.findSome?_cons]
   cases G m<;>rfl)
  obtain⟨b,hb⟩:∃b,(G m).isSome=b:=⟨_,rfl⟩
  have HB:=aa.mk hb
  have Am:=(HL.out.blk HC.out.h7 HC.out.n7).cell 0
  simp only[dZ,dY] at Am
  clear hb HR
  go_wp2_with fail
  refine(HLC.out m wr HL.out hmn).mono ?_
  rintro e W1 ⟨rfl,hL2,hK2,hN2,hS2⟩
  rw[HB.out]
  have HL2:=aa.mk hL2
  have HS2:=aa.mk hS2
  clear Am HL hL2 hK2 hN2 hS2
  cases b
  .go_wp2_with fail
   have hFn:G m=none:=by
    have:=HB.out
    cases hf:G m with
    |none=>rfl
    |some l=>rw[hf] at this;cases this
   have NK:=HST.out
   rw[hFn] at NK
   exact⟨⟨m+1,by omega,by go_num,HL2,⟨NK⟩⟩,by simp[intOf];omega⟩
  .have hGs:G m=some lb:=by
    have:=HB.out
    have hst:=HST.out
    cases hf:G m with
    |none=>rw[hf] at this;cases this
    |some l=>rw[hf] at hst;exact hst.symm
   obtain⟨vf,I6,hvr⟩:=HS2.out lb hGs
   have HVR:=aa.mk hvr
   have aef:=I6.cell 0
   have akx:=I6.lt
   simp only[List.getElem?_cons_zero] at aef
   clear I6 hvr HST HB
   go_wp2_with fail
   rw[Exit.noGoto_ret]
   go_ret2
   have hk:=HL2.out.k
   have hs0:=hBS.out
   have hs1:=hk.size
   exact HP.out▸⟨_,rfl,Kd.dG HVR.out (by omega),HBQ.out.trans ⟨hk.os,hk.tape,hk.output,hk.size,λk hk'=>hk.block k (by omega) (by omega)⟩⟩
 .rw[if_neg hf0] at HP
  have Q7:(f==0)=false:=by simpa using hf0
  clear DL hf0
  go_wp2_with fail
  rw[Exit.noGoto_ret]
  go_ret2
  exact HP.out▸⟨_,rfl,Kd.iH _ _ _ _ _,HB.out⟩
end Go.Proofs.YtdekaocdmjndaaaGreat
namespace Go.Proofs.YtdekaocdmjndaaaGreat
structure Ren(n:Nat)(s t:Nat->Nat):Prop where
 MN:∀i,i<n->s i<n
 Qq:∀i,i<n->t i<n
 ts:∀i,i<n->t (s i)=i
 st:∀i,i<n->s (t i)=i
theorem Ren.symm{n:Nat}{s t:Nat->Nat}(h:Ren n s t):Ren n t s:=⟨h.Qq,h.MN,h.st,h.ts⟩
theorem Ren.inj{n:Nat}{s t:Nat->Nat}(h:Ren n s t){i k:Nat}(hi:i<n)(hk:k<n)(e:s i=s k):i=k:=by
 rw[<- h.ts i hi,<- h.ts k hk,e]
theorem Ren.perm{n:Nat}{s t:Nat->Nat}(h:Ren n s t):((List.range n).map s).Perm (List.range n):=by
 refine(List.perm_ext_iff_of_nodup ?_ List.nodup_range).2 λa=>?_
 .refine(List.pairwise_map).2 ?_
  refine List.Pairwise.imp_of_mem ?_ (List.nodup_range (n:=n))
  intro a b ha hb hab e
  exact hab (h.inj (List.mem_range.1 ha) (List.mem_range.1 hb) e)
 .simp only[List.mem_map,List.mem_range]
  constructor
  .rintro⟨i,hi,rfl⟩
   exact h.MN i hi
  .intro ha
   exact⟨t a,h.Qq a ha,h.st a ha⟩
open Go.RowKit Go.Shelf ah YtdekaocdmjndaaaGreatW.aj
def nK(j:Nat):List Int:=(List.range j).map (λi:Nat=>(i:Int))
theorem Hy(j:Nat):nK (j+1)=nK j++[(j:Int)]:=by
 unfold nK
 rw[List.range_succ,List.map_append]
 rfl
theorem Cf(j:Nat):(nK j).length=j:=by simp[nK]
theorem MU{n i:Nat}(h:i<n):rd (nK n) (i:Int)=(i:Int):=by
 simp[rd,nK,List.getD,h]
theorem Cw{xs:List Int}{p i:Nat}{v:Int}(h:p<xs.length):rd (xs.set p v) (i:Int)=if i=p then v else rd xs (i:Int):=by
 unfold rd
 simp only[Int.toNat_natCast,List.getD,List.getElem?_set]
 by_cases e:i=p
 .subst e
  simp[h]
 .rw[if_neg (λe'=>e e'.symm),if_neg e]
theorem Sq{x:Int}(h1: -1000000<=x)(h2:x<=1000000):wrap64 x=x:=IntWalk.wrap64_in _ (by omega)
theorem UX(n:Nat)(hn:n<=1000)(ws:List Int)(k:Nat):∀m j:Nat,j+m=n->ai.l0 (m+k+1) (n:Int) ws (nK j) (j:Int)=ai.l1 k (n:Int) ws (nK n) ((n:Int)-1):=by
 intro m
 induction m with
 |zero=>
  intro j hj
  obtain rfl:j=n:=by omega
  rw[show 0+k+1=k+1 by omega,ai.l0,if_neg (by omega),Sq (by omega) (by omega)]
 |succ m ih=>
  intro j hj
  rw[show m+1+k+1=(m+k+1)+1 by omega,ai.l0,if_pos (by omega),if_pos (by rw[Cf];omega),Sq (by omega) (by omega),<- Hy,show((j:Int)+1)=((j+1:Nat):Int) by omega]
  exact ih (j+1) (by omega)
structure rU(n:Nat)(s:Nat->Nat)(xs:List Int):Prop where
 len:xs.length=n
 at_:∀i:Nat,i<n->rd xs (i:Int)=(s i:Int)
def sw(i q x:Nat):Nat:=if x=q then i else if x=i then q else x
theorem Sw(i q x:Nat):sw i q (sw i q x)=x:=by
 unfold sw
 by_cases h1:x=q
 .by_cases h2:i=q<;>simp[h1,h2]
 .by_cases h2:x=i
  .simp[h1,h2]
  .simp[h1,h2]
theorem MH{n i q x:Nat}(hi:i<n)(hq:q<n)(hx:x<n):sw i q x<n:=by
 unfold sw
 by_cases h1:x=q
 .rw[if_pos h1];exact hi
 .rw[if_neg h1]
  by_cases h2:x=i
  .rw[if_pos h2];exact hq
  .rw[if_neg h2];exact hx
theorem Ren.sw{n:Nat}{s t:Nat->Nat}(h:Ren n s t){i q:Nat}(hi:i<n)(hq:q<n):Ren n (λx=>s (sw i q x)) (λy=>sw i q (t y)):=
 ⟨λx hx=>h.MN _ (MH hi hq hx),λy hy=>MH hi hq (h.Qq y hy),λx hx=>by
  show Go.Proofs.YtdekaocdmjndaaaGreat.sw i q (t (s (Go.Proofs.YtdekaocdmjndaaaGreat.sw i q x)))=x
  rw[h.ts _ (MH hi hq hx),Sw],λy hy=>by
  show s (Go.Proofs.YtdekaocdmjndaaaGreat.sw i q (Go.Proofs.YtdekaocdmjndaaaGreat.sw i q (t y)))=y
  rw[Sw,h.st y hy]⟩
theorem rU.sw{n:Nat}{s:Nat->Nat}{xs:List Int}(h:rU n s xs){i q:Nat}(hi:i<n)(hq:q<n):rU n (λx=>s (sw i q x)) ((xs.set i (rd xs (q:Int))).set q (rd xs (i:Int))):=by
 refine⟨by rw[List.length_set,List.length_set,h.len],λx hx=>?_⟩
 rw[Cw (by rw[List.length_set,h.len];exact hq),Cw (by rw[h.len];exact hi)]
 unfold Go.Proofs.YtdekaocdmjndaaaGreat.sw
 by_cases h1:x=q
 .rw[if_pos h1,if_pos h1,h.at_ i hi]
 .rw[if_neg h1,if_neg h1]
  by_cases h2:x=i
  .rw[if_pos h2,if_pos h2,h.at_ q hq]
  .rw[if_neg h2,if_neg h2,h.at_ x hx]
def JB(n:Nat)(xs:List Int):Prop:=∃s t,Ren n s t/\rU n s xs
theorem yS{a b:Int}(ha:0<=a)(hb:0<b):0<=Int.tmod a b/\Int.tmod a b<b:=⟨Int.tmod_nonneg _ ha,Int.tmod_lt_of_pos _ hb⟩
theorem UW(n:Nat)(hn:n<=1000)(ws:List Int)(hws:∀j:Nat,j<ws.length->0<=rd ws (j:Int)/\rd ws (j:Int)<65536)(k:Nat):∀(i:Nat) (xs:List Int),i<n->JB n xs->∃ys k',k<=k'/\JB n ys/\ai.l1 (i+1+k) (n:Int) ws xs (i:Int)=ai.j2 k' (n:Int) ys:=by
 intro i
 induction i with
 |zero=>
  intro xs _ hx
  refine⟨xs,k,Nat.le_refl _,hx,?_⟩
  rw[show 0+1+k=k+1 by omega,ai.l1,if_neg (by omega)]
 |succ i ih=>
  intro xs hi hx
  by_cases hw:ws.length=0
  .refine⟨xs,i+1+k,by omega,hx,?_⟩
   rw[show i+1+1+k=(i+1+k)+1 by omega,ai.l1,if_pos (by omega),if_neg (by omega)]
  .obtain⟨s,t,hr,ht⟩:=hx
   have hm:=yS (a:=((i+1:Nat):Int)) (b:=(ws.length:Int)) (by omega) (by omega)
   obtain⟨jw,hjw⟩:∃j:Nat,Int.tmod ((i+1:Nat):Int) (ws.length:Int)=(j:Int):=⟨(Int.tmod ((i+1:Nat):Int) (ws.length:Int)).toNat,by omega⟩
   have hwj:=hws jw (by omega)
   have e1:wrap64 (rd ws (jw:Int))=rd ws (jw:Int):=Sq (by omega) (by omega)
   have e2:wrap64 (((i+1:Nat):Int)+1)=((i+1:Nat):Int)+1:=Sq (by omega) (by omega)
   have e3:wrap64 (((i+1:Nat):Int)-1)=(i:Int):=by rw[Sq (by omega) (by omega)];omega
   have hq:=yS (a:=rd ws (jw:Int)) (b:=((i+1:Nat):Int)+1) hwj.1 (by omega)
   obtain⟨q,hqe⟩:∃j:Nat,Int.tmod (rd ws (jw:Int)) (((i+1:Nat):Int)+1)=(j:Int):=⟨(Int.tmod (rd ws (jw:Int)) (((i+1:Nat):Int)+1)).toNat,by omega⟩
   have Yo:q<n:=by omega
   have hl:=ht.len
   obtain⟨ys,k',h1,h2,h3⟩:=ih ((xs.set (i+1) (rd xs (q:Int))).set q (rd xs ((i+1:Nat):Int))) (by omega) ⟨_,_,hr.sw hi Yo,ht.sw hi Yo⟩
   refine⟨ys,k',h1,h2,?_⟩
   rw[show i+1+1+k=(i+1+k)+1 by omega,ai.l1,if_pos (by omega),if_pos (by omega),if_neg (by omega),if_pos (by omega),if_pos (by omega),hjw,e1,e2,e3,hqe,if_neg (by omega),if_pos (by omega),if_pos (by omega),if_pos (by omega),if_pos (by omega)]
   simp only[Int.toNat_natCast]
   exact h3
theorem UU(n:Nat)(hn:n<=1000){s t:Nat->Nat}(hr:Ren n s t){xs:List Int}(hx:rU n s xs)(k:Nat):∀(m j:Nat) (bs:List Int),j+m=n->bs.length=n->(∀i:Nat,i<j->rd bs (s i:Int)=(i:Int))->∃cs,cs.length=n/\(∀i:Nat,i<n->rd cs (s i:Int)=(i:Int))/\ai.l2 (m+k+1) (n:Int) xs bs (j:Int)=some (xs,cs):=by
 intro m
 induction m with
 |zero=>
  intro j bs hj hb hs
  obtain rfl:j=n:=by omega
  refine⟨bs,hb,hs,?_⟩
  rw[show 0+k+1=k+1 by omega,ai.l2,if_neg (by omega)]
 |succ m ih=>
  intro j bs hj hb hs
  have hjn:j<n:=by omega
  have hsj:=hr.MN j hjn
  have e1:=hx.at_ j hjn
  have hl:=hx.len
  obtain⟨cs,h1,h2,h3⟩:=ih (j+1) (bs.set (s j) (j:Int)) (by omega) (by rw[List.length_set,hb]) (λi hi=>by
   rw[Cw (by rw[hb];exact hsj)]
   by_cases e:s i=s j
   .rw[if_pos e,hr.inj (by omega) hjn e]
   .rw[if_neg e]
    exact hs i (by
     have:i≠j:=λh=>e (by rw[h])
     omega))
  refine⟨cs,h1,h2,?_⟩
  rw[show m+1+k+1=(m+k+1)+1 by omega,ai.l2,if_pos (by omega),if_pos (by omega),if_pos (by omega),e1,if_pos (by omega),if_pos (by omega),Sq (by omega) (by omega)]
  simp only[Int.toNat_natCast]
  exact h3
theorem Lr(n:Nat)(hn:n<=1000)(ws:List Int)(hws:∀j:Nat,j<ws.length->0<=rd ws (j:Int)/\rd ws (j:Int)<65536):∃k xs cs s t,ai.f k (n:Int) ws=some (xs,cs)/\Ren n s t/\rU n s xs/\rU n t cs:=by
 have h0:JB n (nK n):=⟨λi=>i,λi=>i,⟨λ_ h=>h,λ_ h=>h,λ_ _=>rfl,λ_ _=>rfl⟩,⟨Cf n,λi hi=>MU hi⟩⟩
 have hj:∀(k':Nat) (ys:List Int),n+3<=k'->JB n ys->∃cs s t,ai.j2 k' (n:Int) ys=some (ys,cs)/\Ren n s t/\rU n s ys/\rU n t cs:=by
  rintro k' ys hk ⟨s,t,hr,ht⟩
  obtain⟨cs,h1,h2,h3⟩:=UU n hn hr ht (k'-n-2) n 0 (List.replicate n 0) (by omega) (by simp) (λi hi=>by omega)
  refine⟨cs,s,t,?_,hr,ht,h1,λi hi=>?_⟩
  .rw[show k'=(n+(k'-n-2)+1)+1 by omega,ai.j2,if_pos (by omega),if_pos (by omega)]
   simpa using h3
  .have:=h2 (t i) (hr.Qq i hi)
   rw[hr.st i hi] at this
   exact this
 have hf:∀K,ai.f (n+K+1) (n:Int) ws=ai.l1 K (n:Int) ws (nK n) ((n:Int)-1):=λK=>by
  unfold ai.f
  have:=UX n hn ws K n 0 (by omega)
  simpa[nK] using this
 by_cases h:n=0
 .obtain⟨cs,s,t,h1,h2,h3,h4⟩:=hj (n+3) (nK n) (Nat.le_refl _) h0
  refine⟨n+(n+3+1)+1,nK n,cs,s,t,?_,h2,h3,h4⟩
  rw[hf,ai.l1,if_neg (by omega),h1]
 .obtain⟨ys,k',h1,h2,h3⟩:=UW n hn ws hws (n+3) (n-1) (nK n) (by omega) h0
  obtain⟨cs,s,t,h4,h5,h6,h7⟩:=hj k' ys h1 h2
  refine⟨n+(n-1+1+(n+3))+1,ys,cs,s,t,?_,h5,h6,h7⟩
  rw[hf,show((n:Int)-1)=((n-1:Nat):Int) by omega,h3,h4]
open Go.RowKit Go.Shelf ah YtdekaocdmjndaaaGreatW.aj YtdekaocdmjndaaaGreatW.aH Ag
abbrev Qu:=uP
abbrev Qe:=FW
def Mv(x:Qu):Ru:=⟨x.f0,x.f1,x.f2,x.f3⟩
def F9(x:Qe):Re:=⟨x.f0,x.f1,x.f2⟩
theorem Sr(lo hi:Int)(l0:List Qu)(l1:List Qe):fQ.f lo hi l0 l1=some (decide (l0.length<=7)&&decide (l1.length<=11)):=by
 unfold fQ.f
 by_cases h:l0.length<=7
 .rw[if_pos (by omega)]
  simp[h]
  omega
 .rw[if_neg (by omega)]
  simp[h]
theorem Qr{l:List Qu}{j:Nat}(h:j<l.length):fq l (j:Int)=l[j]:=by simp[fq,List.getD,h]
theorem Ka{l:List Qe}{j:Nat}(h:j<l.length):dD l (j:Int)=l[j]:=by simp[dD,List.getD,h]
theorem Kj(x0 x1:Int)(p0:List Qu)(p1:List Qe)(y0 y1:Int)(y2:List Ru)(h:p1.length<=1000)(k:Nat):∀(m j:Nat) (acc:List Re),j+m=p1.length->acc.length=j->aD.l1 (m+k+1) (j:Int) x0 x1 p0 p1 y0 y1 y2 acc=some (y0,y1,y2,acc++(p1.drop j).map F9):=by
 intro m
 induction m with
 |zero=>
  intro j acc hj ha
  rw[show 0+k+1=k+1 by omega,aD.l1,if_neg (by omega),List.drop_eq_nil_of_le (by omega)]
  simp
 |succ m ih=>
  intro j acc hj ha
  rw[show m+1+k+1=(m+k+1)+1 by omega,aD.l1,if_pos (by omega),if_pos (by omega),if_pos (by omega),Sq (by omega) (by omega),show((j:Int)+1)=((j+1:Nat):Int) by omega,ih (j+1) _ (by omega) (by simp[ha]),Ka (by omega),List.drop_eq_getElem_cons (show j<p1.length by omega),List.map_cons,List.append_assoc]
  rfl
theorem Kk(x0 x1:Int)(p0:List Qu)(p1:List Qe)(y0 y1:Int)(h0:p0.length<=1000)(h:p1.length<=1000):∀(m j:Nat) (acc:List Ru),j+m=p0.length->acc.length=j->aD.l0 (m+(p1.length+1)+1) (j:Int) x0 x1 p0 p1 y0 y1 acc=some (y0,y1,acc++(p0.drop j).map Mv,p1.map F9):=by
 intro m
 induction m with
 |zero=>
  intro j acc hj ha
  have:=Kj x0 x1 p0 p1 y0 y1 acc h 0 p1.length 0 [] (by omega) rfl
  rw[show 0+(p1.length+1)+1=(p1.length+0+1)+1 by omega,aD.l0,if_neg (by omega),List.drop_eq_nil_of_le (by omega)]
  simpa using this
 |succ m ih=>
  intro j acc hj ha
  rw[show m+1+(p1.length+1)+1=(m+(p1.length+1)+1)+1 by omega,aD.l0,if_pos (by omega),if_pos (by omega),Qr (by omega)]
  simp only[iA.f,Option.bind_some]
  rw[if_pos (by omega),Sq (by omega) (by omega),show((j:Int)+1)=((j+1:Nat):Int) by omega,ih (j+1) _ (by omega) (by simp[ha]),List.drop_eq_getElem_cons (show j<p0.length by omega),List.map_cons,List.append_assoc]
  rfl
theorem M3(lo hi:Int)(p0:List Qu)(p1:List Qe)(h0:p0.length<=1000)(h:p1.length<=1000):aD.f (p0.length+(p1.length+1)+1) lo hi p0 p1=some (lo,hi,p0.map Mv,p1.map F9):=by
 have:=Kk lo hi p0 p1 lo hi h0 h p0.length 0 [] (by omega) rfl
 unfold aD.f
 simpa using this
theorem Gb(xs:List Rg)(hx:xs.length<=9223372036854775807)(k:Nat):∀(m j:Nat),j+m=xs.length->bW.l0 (m+k+1) xs xs (j:Int)=some true:=by
 intro m
 induction m with
 |zero=>
  intro j hj
  rw[show 0+k+1=k+1 by omega,bW.l0,if_neg (by omega)]
 |succ m ih=>
  intro j hj
  rw[show m+1+k+1=(m+k+1)+1 by omega,bW.l0,if_pos (by omega),if_pos (by omega),if_pos (by omega),if_neg (by simp),(show wrap64 ((j:Int)+1)=(j:Int)+1 by unfold wrap64;omega),show((j:Int)+1)=((j+1:Nat):Int) by omega]
  exact ih (j+1) (by omega)
theorem oN(xs:List Rg)(hx:xs.length<=9223372036854775807):bW.f (xs.length+1) xs xs=some true:=by
 unfold bW.f
 rw[if_pos rfl]
 exact Gb xs hx 0 xs.length 0 (by omega)
theorem JV{α:Type}{n:Nat}{s t:Nat->Nat}(hr:Ren n s t)(l:List α)(z:α)(hl:l.length=n):((List.range n).map (λi=>l.getD (s i) z)).Perm l:=by
 have h1:(List.range n).map (λi=>l.getD i z)=l:=by
  apply List.ext_getElem
  .simp[hl]
  .intro i h1 h2
   simp[List.getD,h2]
 have h2:=(hr.perm).map (λi=>l.getD i z)
 rw[h1,List.map_map] at h2
 exact h2
end Go.Proofs.YtdekaocdmjndaaaGreat
