import Derived.Test.YtkjoilgpmngndaaGreatQ22
set_option maxHeartbeats 40000000
set_option maxRecDepth 100000
set_option linter.all false
namespace Go.Proofs.YtkjoilgpmngndaaGreat
open Go.RowKit Go.Shelf au YtkjoilgpmngndaaGreatW.aj YtkjoilgpmngndaaGreatW.aJ
set_option maxHeartbeats 4000000 in
theorem GD{g1 g2:Nat}{l:Nat->Int}{D:Int}{w:World}(h1:aR w g1 (qF l) 121)(h2:aR w g2 [.int .i64 D] 3)(x:Nat)(hx:x<8):
  Calls Tryz.prog 86 (#[.int .i64 (x:Int)]++#[.pointer (some ⟨g1,0,none⟩),.pointer (some ⟨g2,0,none⟩)]) w λe w'=>e= .returned (.bool (l x==D))/\Below w.heap.size w w':=by
 simp only[List.append_toArray,List.nil_append,List.cons_append]
 have hc:=h1.cell x
 rw[jv l x hx] at hc
 have hd:=h2.cell 0
 simp only[List.getElem?_cons_zero] at hd
 have hx0:(0:Int)<=(x:Int):=by omega
 have hx8:(x:Int)<8:=by omega
 have hl1:=h1.lt
 have hl2:=h2.lt
 clear h1 h2
 go_enter Tryz.func86,Tryz.ntmps86
 go_wp2_with fail
 go_quiet (fail)
 go_wp2_with fail
 go_ret
 exact⟨rfl,rfl,rfl,rfl,Nat.le_refl _,λ_ _=>rfl⟩
def jS(old:List Int)(ss:List dQ)(p:Int->Bool)(k:Nat):Int×Int:=
 (((List.range k).map (λd:Nat=>(nJ old ss (d:Int) p).1)).sum,((List.range k).map (λd:Nat=>(nJ old ss (d:Int) p).2)).sum)
def AY(old:List Int)(ss:List dQ)(l:Nat->Int)(D:Int):Int×Int:=jS old ss (λi=>l i.toNat==D) old.length
theorem zo(old:List Int)(ss:List dQ)(p:Int->Bool)(k:Nat):jS old ss p (k+1)=((jS old ss p k).1+(nJ old ss (k:Int) p).1,(jS old ss p k).2+(nJ old ss (k:Int) p).2):=by
 unfold jS
 rw[List.range_succ,List.map_append,List.map_append,List.sum_append,List.sum_append]
 simp
theorem XP{no:Nat}{nw:Int}{ss:List dQ}(h:∀s ∈ ss,kH no nw s)(d:Int):Sm (iR ss d ss.length):=by
 intro x hx
 unfold iR at hx
 obtain⟨i,hi,rfl⟩:=List.mem_map.1 hx
 have hi':=List.mem_range.1 (List.mem_filter.1 hi).1
 have hok:=h _ (oO ss i hi')
 exact⟨hok.p0,hok.p1,hok.p2⟩
theorem G7{old:List Int}{nw:Int}{ss:List dQ}(hss:ss.length<=8)(hst:∀s ∈ ss,kH old.length nw s)(hol:∀n ∈ old,0<=n/\n<=10000)(d:Nat)(hd:d<old.length)(p:Int->Bool):
  -100000<=(nJ old ss (d:Int) p).1/\(nJ old ss (d:Int) p).1<=100000/\ -100000<=(nJ old ss (d:Int) p).2/\(nJ old ss (d:Int) p).2<=100000:=by
 have hp:=XP hst (d:Int)
 have q1:=lK (rq (p:=p) hp).1
 have q2:=lK (rq (p:=p) hp).2
 have q3:=BA p (iR ss (d:Int) ss.length)
 have q4:=Bp ss (d:Int) ss.length
 have hrd:=hol (rd old (d:Int)) (by rw[Bc old d hd];exact List.getElem_mem hd)
 unfold nJ
 simp only
 omega
theorem xm{old:List Int}{nw:Int}{ss:List dQ}(hss:ss.length<=8)(hst:∀s ∈ ss,kH old.length nw s)(hol:∀n ∈ old,0<=n/\n<=10000)(p:Int->Bool):∀(k:Nat),k<=old.length ->
  -100000*(k:Int)<=(jS old ss p k).1/\(jS old ss p k).1<=100000*(k:Int)/\ -100000*(k:Int)<=(jS old ss p k).2/\(jS old ss p k).2<=100000*(k:Int)
 |0,_=>by simp[jS]
 |k+1,hk=>by
  have h1:=xm hss hst hol p k (by omega)
  have h2:=G7 hss hst hol k (by omega) p
  rw[zo]
  simp only
  omega
theorem dw{W:World}{g:Nat}{cs:List Value}{t:TypeId}(h:aR W g cs t){p:Addr}(hne:g≠p.block)(v:Value):aR (W.setCell p v) g cs t:=h.move (Below.heap_setCell _ _ _ _ hne)
theorem Jk{A0:Option Addr}{c0:Nat}{old:List Int}{nw:Int}{A2:Option Addr}{c2:Nat}{ss:List dQ}{A3:Option Addr}{c3:Nat}{js:List jO}{w:World}(h:Nr w A0 c0 old A2 c2 ss A3 c3 js)(hss:ss.length<=8)(hst:∀s ∈ ss,kH old.length nw s)(hol:∀n ∈ old,0<=n/\n<=10000)(Wu:old.length<=4)
  (l:Nat->Int) (D:Int):
  Calls Tryz.prog 43 #[.agg #[.slice A0 old.length c0,.int .i64 nw,.slice A2 ss.length c2,.slice A3 js.length c3],U2 l,.int .i64 D] w λe w'=>e= .returned (.agg #[.int .i64 (AY old ss l D).1,.int .i64 (AY old ss l D).2])/\Below w.heap.size w w':=by
 have H:=aa.mk h
 have HST:=aa.mk hst
 have HOL:=aa.mk hol
 clear h hst hol
 unfold U2
 go_enter Tryz.func43,Tryz.ntmps43
 go_wp2_with fail
 have HB0:=aa.mk (ae (ae (ae (ae (Below.refl w.heap.size w) (.cells #[.slice A0 old.length c0,.int .i64 nw,.slice A2 ss.length c2,.slice A3 js.length c3] 43)) (.cells #[.int .i64 (l 0),.int .i64 (l 1),.int .i64 (l 2),.int .i64 (l 3),.int .i64 (l 4),.int .i64 (l 5),.int .i64 (l 6),.int .i64 (l 7)] 121)) (.cells #[.int .i64 D] 3)) (.cells #[.int .i64 0,.int .i64 0] 52))
 have Tm:=aa.mk (((aR.new w [.slice A0 old.length c0,.int .i64 nw,.slice A2 ss.length c2,.slice A3 js.length c3] 43).alloc (.cells #[.int .i64 (l 0),.int .i64 (l 1),.int .i64 (l 2),.int .i64 (l 3),.int .i64 (l 4),.int .i64 (l 5),.int .i64 (l 6),.int .i64 (l 7)] 121)).alloc (.cells #[.int .i64 D] 3) |>.alloc (.cells #[.int .i64 0,.int .i64 0] 52))
 have Xy:=aa.mk (show aR ((((w.alloc (.cells #[.slice A0 old.length c0,.int .i64 nw,.slice A2 ss.length c2,.slice A3 js.length c3] 43)).alloc (.cells #[.int .i64 (l 0),.int .i64 (l 1),.int .i64 (l 2),.int .i64 (l 3),.int .i64 (l 4),.int .i64 (l 5),.int .i64 (l 6),.int .i64 (l 7)] 121)).alloc (.cells #[.int .i64 D] 3)).alloc (.cells #[.int .i64 0,.int .i64 0] 52)) (w.heap.size+1) (qF l) 121 by have hB:=((aR.new (w.alloc (.cells #[.slice A0 old.length c0,.int .i64 nw,.slice A2 ss.length c2,.slice A3 js.length c3] 43)) (qF l) 121).alloc (.cells #[.int .i64 D] 3)).alloc (.cells #[.int .i64 0,.int .i64 0] 52);simp only[World.size_alloc] at hB;exact hB)
 have B50:=aa.mk (show aR ((((w.alloc (.cells #[.slice A0 old.length c0,.int .i64 nw,.slice A2 ss.length c2,.slice A3 js.length c3] 43)).alloc (.cells #[.int .i64 (l 0),.int .i64 (l 1),.int .i64 (l 2),.int .i64 (l 3),.int .i64 (l 4),.int .i64 (l 5),.int .i64 (l 6),.int .i64 (l 7)] 121)).alloc (.cells #[.int .i64 D] 3)).alloc (.cells #[.int .i64 0,.int .i64 0] 52)) (w.heap.size+1+1) [.int .i64 D] 3 by have hB:=(aR.new ((w.alloc (.cells #[.slice A0 old.length c0,.int .i64 nw,.slice A2 ss.length c2,.slice A3 js.length c3] 43)).alloc (.cells #[.int .i64 (l 0),.int .i64 (l 1),.int .i64 (l 2),.int .i64 (l 3),.int .i64 (l 4),.int .i64 (l 5),.int .i64 (l 6),.int .i64 (l 7)] 121)) [.int .i64 D] 3).alloc (.cells #[.int .i64 0,.int .i64 0] 52);simp only[World.size_alloc] at hB;exact hB)
 have B60:=aa.mk (show aR ((((w.alloc (.cells #[.slice A0 old.length c0,.int .i64 nw,.slice A2 ss.length c2,.slice A3 js.length c3] 43)).alloc (.cells #[.int .i64 (l 0),.int .i64 (l 1),.int .i64 (l 2),.int .i64 (l 3),.int .i64 (l 4),.int .i64 (l 5),.int .i64 (l 6),.int .i64 (l 7)] 121)).alloc (.cells #[.int .i64 D] 3)).alloc (.cells #[.int .i64 0,.int .i64 0] 52)) (w.heap.size+1+1+1) [.int .i64 (jS old ss (λi=>l i.toNat==D) 0).1,.int .i64 (jS old ss (λi=>l i.toNat==D) 0).2] 52 by have hB:=aR.new (((w.alloc (.cells #[.slice A0 old.length c0,.int .i64 nw,.slice A2 ss.length c2,.slice A3 js.length c3] 43)).alloc (.cells #[.int .i64 (l 0),.int .i64 (l 1),.int .i64 (l 2),.int .i64 (l 3),.int .i64 (l 4),.int .i64 (l 5),.int .i64 (l 6),.int .i64 (l 7)] 121)).alloc (.cells #[.int .i64 D] 3)) [.int .i64 0,.int .i64 0] 52;simp only[World.size_alloc] at hB;exact hB)
 have hs0:w.heap.size+1+1+1<((((w.alloc (.cells #[.slice A0 old.length c0,.int .i64 nw,.slice A2 ss.length c2,.slice A3 js.length c3] 43)).alloc (.cells #[.int .i64 (l 0),.int .i64 (l 1),.int .i64 (l 2),.int .i64 (l 3),.int .i64 (l 4),.int .i64 (l 5),.int .i64 (l 6),.int .i64 (l 7)] 121)).alloc (.cells #[.int .i64 D] 3)).alloc (.cells #[.int .i64 0,.int .i64 0] 52)).heap.size:=by simp
 generalize(((w.alloc (.cells #[.slice A0 old.length c0,.int .i64 nw,.slice A2 ss.length c2,.slice A3 js.length c3] 43)).alloc (.cells #[.int .i64 (l 0),.int .i64 (l 1),.int .i64 (l 2),.int .i64 (l 3),.int .i64 (l 4),.int .i64 (l 5),.int .i64 (l 6),.int .i64 (l 7)] 121)).alloc (.cells #[.int .i64 D] 3)).alloc (.cells #[.int .i64 0,.int .i64 0] 52)=w1 at HB0 Tm Xy B50 B60 hs0 ⊢
 go_loopw [12] (λv wr=>∃k:Nat,k<=old.length/\v= .int .i64 k/\aa (Below w.heap.size w wr)/\aa (aR wr w.heap.size [.slice A0 old.length c0,.int .i64 nw,.slice A2 ss.length c2,.slice A3 js.length c3] 43)/\aa (aR wr (w.heap.size+1) (qF l) 121)/\aa (aR wr (w.heap.size+1+1) [.int .i64 D] 3)/\aa (aR wr (w.heap.size+1+1+1) [.int .i64 (jS old ss (λi=>l i.toNat==D) k).1,.int .i64 (jS old ss (λi=>l i.toNat==D) k).2] 52)) (λv _=>old.length-(intOf v).toNat)
 case atStart=>exact⟨0,Nat.zero_le _,rfl,HB0,Tm,Xy,B50,B60⟩
 case round=>
  clear HB0 Tm Xy B50 B60 hs0
  obtain⟨k,hk,rfl,HB,B3,B4,B5,B6⟩:=hrel
  by_cases hkl:k<old.length
  .have Vs:=aa.mk (zo old ss (λi=>l i.toNat==D) k)
   have hsb:=xm hss HST.out HOL.out (λi=>l i.toNat==D) (k+1) (by omega)
   rw[Vs.out] at hsb
   simp only at hsb
   have hw1:wrap64 ((jS old ss (λi=>l i.toNat==D) k).1+(nJ old ss (k:Int) (λi=>l i.toNat==D)).1)=(jS old ss (λi=>l i.toNat==D) k).1+(nJ old ss (k:Int) (λi=>l i.toNat==D)).1:=IntWalk.wrap64_in _ (by omega)
   have hw2:wrap64 ((jS old ss (λi=>l i.toNat==D) k).2+(nJ old ss (k:Int) (λi=>l i.toNat==D)).2)=(jS old ss (λi=>l i.toNat==D) k).2+(nJ old ss (k:Int) (λi=>l i.toNat==D)).2:=IntWalk.wrap64_in _ (by omega)
   have HPI:=aa.mk (λ(W:World) (x:Nat) (hx:x<ss.length) (hW:Below wr.heap.size wr W)=>GD (B4.out.below hW) (B5.out.below hW) x (by omega))
   have hpc:=JL (H.out.below HB.out) hss HST.out HOL.out k hkl 86 #[.pointer (some ⟨w.heap.size+1,0,none⟩),.pointer (some ⟨w.heap.size+1+1,0,none⟩)] (enters Tryz.func86 (by kernel_rfl) rfl) (λi=>l i.toNat==D) HPI.out
   have HPC:=aa.mk hpc
   generalize nJ old ss (k:Int) (λi=>l i.toNat==D)=pp at hw1 hw2 Vs HPC
   generalize jS old ss (λi=>l i.toNat==D) k=sz at hw1 hw2 Vs B6
   obtain⟨p0,p1⟩:=pp
   obtain⟨z0,z1⟩:=sz
   simp only at hw1 hw2 Vs B6 HPC
   have hg:=B6.out.lt
   have jB:=B3.out.cell 0
   have h31:=B3.out.cell 1
   have h32:=B3.out.cell 2
   have Tz:=B3.out.cell 3
   simp only[eP,eO] at jB h31 h32 Tz
   clear hpc HPI hsb
   go_wp2_with fail
   clear jB h31 h32 Tz
   refine HPC.out.mono ?_
   rintro e w2 ⟨rfl,mK⟩
   have LJ:=aa.mk (B6.out.below mK)
   have AB:=aa.mk (B3.out.below mK)
   have zJ:=aa.mk (B4.out.below mK)
   have TH:=aa.mk (B5.out.below mK)
   have HB2:=aa.mk (HB.out.trans (mK.mono HB.out.size))
   have hg2:=LJ.out.lt
   have hc0:=LJ.out.cell 0
   have hc1:=LJ.out.cell 1
   have hf0:=LJ.out.frozen 0
   have hf1:=LJ.out.frozen 1
   simp only[eP,eO] at hc0 hc1
   clear mK HB B3 B4 B5 B6 HPC
   go_wp2_with fail
   refine⟨⟨k+1,by omega,rfl,⟨ae ((HB2.out.setCell (p:=⟨w.heap.size+1+1+1,0,none⟩) (by simp only;omega) _).setCell (p:=⟨w.heap.size+1+1+1,1,none⟩) (by simp only;omega) _) _⟩,⟨(dw (dw AB.out (by simp only;omega) _) (by simp only;omega) _).alloc _⟩,⟨(dw (dw zJ.out (by simp only;omega) _) (by simp only;omega) _).alloc _⟩,⟨(dw (dw TH.out (by simp only;omega) _) (by simp only;omega) _).alloc _⟩,⟨by rw[Vs.out];exact(LJ.out.set2 _ _).alloc _⟩⟩,by simp[intOf];omega⟩
  .obtain rfl:k=old.length:=by omega
   have hg:=B6.out.lt
   have hc0:=B6.out.cell 0
   have hc1:=B6.out.cell 1
   have hf0:=B6.out.frozen 0
   have hf1:=B6.out.frozen 1
   simp only[eP,eO] at hc0 hc1
   go_wp2_with fail
   refine bodyPost_ret (results_cell_row rfl _ _ (w.heap.size+1+1+1) 52 #[.int .i64 (AY old ss l D).1,.int .i64 (AY old ss l D).2] (0,0) _ rfl (B6.out.set2 _ _) Tryz.underlying52 rfl (by kernel_rfl)) rfl ?_
   exact⟨rfl,(HB.out.setCell (p:=⟨w.heap.size+1+1+1,0,none⟩) (by simp only;omega) _).setCell (p:=⟨w.heap.size+1+1+1,1,none⟩) (by simp only;omega) _⟩
theorem OI:(Tryz.prog.info? 52).map (λi=>(i.zero,i.size,i.bytes))=some (some (.agg #[.int .i64 0,.int .i64 0]),2,16):=by kernel_rfl
def mkR(p:Int×Int):TC:=⟨p.1,p.2⟩
theorem O5{old:List Int}{nw:Int}{ss:List dQ}{js:List jO}(h:pq old nw ss js=0):lY old nw ss js=0:=by
 unfold pq at h
 by_cases hc:lY old nw ss js=0
 .exact hc
 .rw[if_neg hc] at h
  exact absurd h hc
open Go.RowKit Go.Shelf au YtkjoilgpmngndaaGreatW.aj YtkjoilgpmngndaaGreatW.aJ YtkjoilgpmngndaaGreatW.ek
def bo.T8:Bool×List (List Nat×List Nat):=(true,[([],[]),([],[]),([],[]),([2],[2]),([],[]),([1,3,4,3],[1,3,4]),([5],[5]),([0,6,5],[0,6]),([7,7,0,1,2,3,4,5,6,7],[0,7])])
def bo.B8:List Nat:=[0,0,0,4,0,30,62,127,255]
theorem bo.Jh:dW .any (opsOf Tryz.f12 8)=bo.T8:=by kernel_rfl
theorem bo.Co:bJ bo.T8.2 bo.B8=true:=by kernel_rfl
def mE(old:List Int)(ss:List dQ)(k:Nat):List TC:=(List.range k).map (λd:Nat=>mkR (AY old ss (Oq ss) (d:Int)))
theorem DL(old:List Int)(ss:List dQ)(k:Nat):mE old ss (k+1)=mE old ss k++[mkR (AY old ss (Oq ss) (k:Int))]:=by
 unfold mE
 rw[List.range_succ,List.map_append]
 rfl
theorem FQ(old:List Int)(ss:List dQ)(k:Nat):(mE old ss k).length=k:=by simp[mE]
def gz(old:List Int)(nw:Int)(ss:List dQ)(js:List jO):List TC×Int:=if pq old nw ss js=0 then(mE old ss nw.toNat,0) else([],pq old nw ss js)
theorem sS{A0:Option Addr}{c0:Nat}{old:List Int}{nw:Int}{A2:Option Addr}{c2:Nat}{ss:List dQ}{A3:Option Addr}{c3:Nat}{js:List jO}{w:World}(h:Nr w A0 c0 old A2 c2 ss A3 c3 js):
  Calls Tryz.prog 12 #[.agg #[.slice A0 old.length c0,.int .i64 nw,.slice A2 ss.length c2,.slice A3 js.length c3]] w λe w'=>(∃v,e= .returned (.tuple #[v,.int .i64 (gz old nw ss js).2])/\Yj.R 52 w' w.heap.size (λ_=>True) v (gz old nw ss js).1)/\Below w.heap.size w w':=by
 have H:=aa.mk h
 clear h
 go_enter Tryz.func12,Tryz.ntmps12
 go_wp2_with fail
 have hb0:=ae (Below.refl w.heap.size w) (.cells #[.slice A0 old.length c0,.int .i64 nw,.slice A2 ss.length c2,.slice A3 js.length c3] 43)
 have B0:=aR.new w [.slice A0 old.length c0,.int .i64 nw,.slice A2 ss.length c2,.slice A3 js.length c3] 43
 refine(za (H.out.below hb0)).mono ?_
 rintro e w1 ⟨rfl,hb1⟩
 have B1:=aa.mk (B0.below hb1)
 have HB1:=aa.mk (hb0.trans (hb1.mono (by simp)))
 have h10:=B1.out.cell 0
 have h11:=B1.out.cell 1
 have h12:=B1.out.cell 2
 have sI:=B1.out.cell 3
 simp only[eP,eO] at h10 h11 h12 sI
 clear hb0 hb1 B0
 by_cases hc:pq old nw ss js=0
 rotate_left
 .have hcb:(pq old nw ss js !=0)=true:=by simp[hc]
  go_wp2_with fail
  have zP:gz old nw ss js=([],pq old nw ss js):=by unfold gz;rw[if_neg hc]
  go_ret2
  rw[zP]
  exact⟨⟨_,rfl,Kd.iK _ _ _ _ _⟩,HB1.out⟩
 obtain⟨ho0,Wu,hs0,hs8,hj,hol,hn1,hn4,hst,hwe,hjo⟩:=Ae (O5 hc)
 have HF:=aa.mk (show gz old nw ss js=(mE old ss nw.toNat,0) by unfold gz;rw[if_pos hc])
 have HST:=aa.mk hst
 have HOL:=aa.mk hol
 have hcb:(pq old nw ss js !=0)=false:=by simp[hc]
 rw[hc]
 clear hc hst hol hwe hjo hj hcb
 go_wp2_with fail
 clear h10 h11 h12 sI
 have hs1:=HB1.out.size
 obtain⟨nn,hnn⟩:∃n:Nat,nw.toNat=n:=⟨_,rfl⟩
 have HNW:=aa.mk (show nw=(nn:Int) by omega)
 rw[hnn] at HF
 have aoc:nn<=4:=by omega
 clear hn1 hn4 hnn
 go_loopw [5,14] (λv5 v14 wr=>∃k:Nat,k<=nn/\v14= .int .i64 k/\aa (Below w.heap.size w wr)/\aa (aR wr w.heap.size [.slice A0 old.length c0,.int .i64 nw,.slice A2 ss.length c2,.slice A3 js.length c3] 43)/\w1.heap.size<=wr.heap.size/\aa (Yj.R 52 wr w1.heap.size (λb=>w1.heap.size<=b) v5 (mE old ss k))) (λ_ v14 _=>nn-(intOf v14).toNat)
 case atStart=>exact⟨0,Nat.zero_le _,rfl,HB1,B1,Nat.le_refl _,⟨Kd.iK _ _ _ _ _⟩⟩
 case round=>
  have hB1:w.heap.size<w1.heap.size:=B1.out.lt
  clear HB1 B1
  obtain⟨k,hk,rfl,HB,B3,yT,HR⟩:=hrel
  by_cases hkl:k<nn
  .have ahF:decide ((k:Int)<nw)=true:=by have:=HNW.out;simp;omega
   have HSU:=aa.mk (DL old ss k)
   have VA:=aa.mk (FQ old ss k)
   go_wp2_with fail
   refine dB (n:=9) (S:=λw'=>w'.cell? ⟨w.heap.size,0,none⟩=some (.slice A0 old.length c0)/\w'.cell? ⟨w.heap.size,1,none⟩=some (.int .i64 nw)/\w'.cell? ⟨w.heap.size,2,none⟩=some (.slice A2 ss.length c2)/\w'.cell? ⟨w.heap.size,3,none⟩=some (.slice A3 js.length c3)) (ds:=[5,6,7]) #[O,O,O,O,O,O,O,O,O] (by kernel_rfl) rfl rfl ⟨(by simpa using B3.out.cell 0),(by simpa using B3.out.cell 1),(by simpa using B3.out.cell 2),(by simpa using B3.out.cell 3)⟩ (λhHeld=>?_);refine bu bo.Jh bo.Co (λak bN=>?_)
   have Da:=aa.mk (aM HB.out)
   have Ja:=aa.mk (B3.out.move rfl:aR wr.drew _ _ _)
   have PI:=aa.mk (Kd.cO HR.out)
   have hsd:w1.heap.size<=wr.drew.heap.size:=yT
   clear HB B3 HR yT
   generalize wr.drew=wd at Da Ja PI hsd hHeld ⊢
   refine aZ 0 17 #[I,O,O,O,O,O,O,O,O] ak (h:=?_)
   refine dG 1 18 #[I,I,O,O,O,O,O,O,O] ak bN hHeld (hy:=by(rintro w' ⟨s0,s1,s2,s3⟩;go_simp;with_reducible rfl)) (h:=?_)
   refine dG 2 19 #[I,I,I,O,O,O,O,O,O] ak bN hHeld (hy:=by(rintro w' ⟨s0,s1,s2,s3⟩;go_simp;with_reducible rfl)) (h:=?_)
   refine aZ 4 21 #[I,I,I,O,I,O,O,O,O] ak (h:=?_)
   refine dO (i:=3) (N:=some 20) #[I,I,I,I,I,O,O,O,O] rfl rfl (aI ak.out (by kernel_rfl)) (by decide) (λK hK=>?_)
   refine bW Tryz.func44 (by kernel_rfl) rfl #[.agg #[.slice A0 old.length c0,.int .i64 nw,.slice A2 ss.length c2,.slice A3 js.length c3]] (by rfl) rfl rfl (by(try simp only[List.map_toArray,List.map_cons,List.map_nil]);rfl) ?_
   refine(Om (H.out.below Da.out) hs8).mono ?_
   rintro e_ w_ ⟨rfl,hbx⟩
   have e_:=Ja.out.below hbx
   refine⟨_,rfl,hK.out _ _ ⟨(by simpa using e_.cell 0),(by simpa using e_.cell 1),(by simpa using e_.cell 2),(by simpa using e_.cell 3)⟩ (λhHeld=>?_)⟩
   clear hK K
   have Xq:=aa.mk (Da.out.trans (hbx.mono Da.out.size))
   have VQ:=aa.mk (Ja.out.below hbx)
   have HRe:=aa.mk (Kd.bV PI.out hbx)
   have hse:=Nat.le_trans hsd hbx.size
   clear hbx Da Ja PI hsd
   refine iY ?_
   refine dE (i:=5) (N:=some 22) #[I,I,I,I,I,I,O,O,O] rfl rfl (aI ak.out (by kernel_rfl)) (by decide) (λK hK=>?_)
   refine bW Tryz.func43 (by kernel_rfl) rfl #[.agg #[.slice A0 old.length c0,.int .i64 nw,.slice A2 ss.length c2,.slice A3 js.length c3],U2 (Oq ss),.int .i64 (k:Int)] (by rfl) rfl rfl (by(try simp only[List.map_toArray,List.map_cons,List.map_nil]);rfl) ?_
   refine(Jk (H.out.below Xq.out) hs8 HST.out HOL.out Wu (Oq ss) (k:Int)).mono ?_
   rintro e_ w_ ⟨rfl,hbx⟩
   refine⟨_,rfl,hK.out _ _ ?_⟩
   clear hK K
   have VG:=aa.mk (Xq.out.trans (hbx.mono Xq.out.size))
   have B3f:=aa.mk (VQ.out.below hbx)
   have ZO:=aa.mk (Kd.bV HRe.out hbx)
   have Wm:=Nat.le_trans hse hbx.size
   clear hbx Xq VQ HRe hse
   obtain⟨pp,hpp⟩:∃p,AY old ss (Oq ss) (k:Int)=p:=⟨_,rfl⟩
   rw[hpp] at HSU ⊢
   clear hpp
   refine iY ?_
   refine dE (i:=6) (N:=some 23) #[I,I,I,I,I,I,I,O,O] rfl rfl (aI ak.out (by kernel_rfl)) (by decide) (λK hK=>?_)
   refine bT (w1:=?_) (v:=?_) (by rfl) rfl ?_ ?_
   rotate_left 2
   .go_simp
    constructor<;>rfl
   refine hK.out _ _ ?_
   clear hK K
   refine iY ?_
   refine dE (i:=7) (N:=some 24) #[I,I,I,I,I,I,I,I,O] rfl rfl (aI ak.out (by kernel_rfl)) (by decide) (λK hK=>?_)
   refine Kd.qJ Yj (w0:=w_) w1.heap.size (by rfl) (.tmp 17) (.tmp 23) 45 52 (.agg #[.int .i64 0,.int .i64 0]) 16 rfl Tryz.underlying45 OI rfl (by decide) (by omega) u5 (mE old ss k) (mkR pp) [.int .i64 pp.1,.int .i64 pp.2] (λb=>w1.heap.size<=b) (λ_=>False) rfl rfl (Uj _ _ _ (mkR pp)) (λ_ hk=>hk.elim) (λb hb=>Nat.le_trans Wm hb) ZO.out (Below.refl _ _) Wm (by rw[VA.out];omega) ?_
   intro vn wn hon hbn hgn fP
   have Ey:=aa.mk hon
   have qK:=aa.mk (VG.out.trans (hbn.mono hs1))
   have Bn:=aa.mk (B3f.out.move (hbn.block _ (by omega)))
   have hsn:=Nat.le_trans Wm hbn.size
   clear hon hbn hgn fP
   refine hK.out _ _ ?_
   clear hK K
   refine iY ?_
   refine aZ 8 5 #[I,I,I,I,I,I,I,I,I] ak (h:=?_)
   refine dK (bG ak.out (by kernel_rfl)) ?_
   go_wp2_with fail
   go_roundw
   case rel=>exact⟨k+1,by omega,by go_num,qK,Bn,hsn,⟨by rw[HSU.out];exact Ey.out⟩⟩
   case measure=>simp[intOf];omega
  .obtain rfl:k=nn:=by omega
   have ahF:decide ((k:Int)<nw)=false:=by have:=HNW.out;simp;omega
   go_wp2_with fail
   go_ret2
   rw[HF.out]
   exact⟨⟨_,rfl,Kd.bB (Kd.ed HR.out hs1) (λ_ _=>trivial)⟩,HB.out⟩
def sr.T6:Bool×List (List Nat×List Nat):=(true,[([],[]),([],[]),([],[]),([],[]),([3],[3]),([],[]),([],[]),([6],[6]),([5,7],[5,7]),([8],[8]),([],[]),([],[]),([10,11],[10,11]),([12],[12]),([0,1,0,1,5,6,7,8,9,13],[0,1]),([14,9,0,1,5,6,7,8,9,13],[9,14]),([2,4,0,1,2,3,4,5,6,7,8,9,10,11,12,13,14,15],[2,4]),([16,13,15,0,1,2,3,4,5,6,7,8,9,10,11,12,13,14,15],[13,16])])
def sr.B6:List Nat:=[0,0,0,0,8,0,0,64,224,480,0,0,3072,7168,16355,32739,65535,131071]
theorem sr.agw:dW .any (opsOf Tryz.f166 6)=sr.T6:=by kernel_rfl
theorem sr.ac9:bJ sr.T6.2 sr.B6=true:=by kernel_rfl
set_option maxHeartbeats 4000000 in
theorem oV{W:World}{g3 g2 g6:Nat}{aw:Addr}{cw:Nat}{c s:Int}(h0:W.cell? ⟨g3,0,none⟩=some (.int .i64 c))(h1:W.cell? ⟨g2,0,none⟩=some (.slice (some aw) 2 cw))(h2:W.cell? ⟨g6,0,none⟩=some (.int .i64 s))(hs:¬s=0)(i:Nat)(hi:i<2)(x m r:Int)(hx:W.cell? (aw.add i)=some (.int .i64 x))(hm:IntKind.i64.wrap (c*x)=m)(hr:m.tmod s=r):
  Calls Tryz.prog 138 #[.int .i64 (i:Int),.pointer (some ⟨g3,0,none⟩),.pointer (some ⟨g2,0,none⟩),.pointer (some ⟨g6,0,none⟩)] W λe w'=>e= .returned (.int .i64 r)/\∃n,w'=W.drewN n:=by
 have hi1:(i:Int)<2:=by omega
 go_enter Tryz.func138,Tryz.ntmps138
 go_wp2_with fail
 go_quiet (fail)
 go_wp2
 go_ret
 exact⟨rfl,_,rfl⟩
structure ajY(w:World)(g3 g2 g6 g12:Nat)(aw:Addr)(cw:Nat)(c w0 w1 s:Int):Prop where
 c:aR w g3 [.int .i64 c] 3
 l:aR w g2 [.slice (some aw) 2 cw] 22
 s:aR w g6 [.int .i64 s] 3
 f:aR w g12 [.func (.func 138) #[] #[.pointer (some ⟨g3,0,none⟩),.pointer (some ⟨g2,0,none⟩),.pointer (some ⟨g6,0,none⟩)]] 229
 a0:w.cell? (aw.add 0)=some (.int .i64 w0)
 a1:w.cell? (aw.add 1)=some (.int .i64 w1)
structure Xa(c w0 w1 s r0 r1:Int):Prop where
 nz:¬s=0
 hm0:IntKind.i64.wrap (c*w0)=c*w0
 hm1:IntKind.i64.wrap (c*w1)=c*w1
 hr0:(c*w0).tmod s=r0
 hr1:(c*w1).tmod s=r1
 hb0:0<=r0/\r0<100000000
 hb1:0<=r1/\r1<100000000
set_option maxHeartbeats 4000000 in
theorem O9{W:World}{g3 g2 g6 g12:Nat}{aw:Addr}{cw:Nat}{c w0 w1 s r0 r1:Int}(h:ajY W g3 g2 g6 g12 aw cw c w0 w1 s)(hr:Xa c w0 w1 s r0 r1):
  Calls Tryz.prog 140 #[.int .i64 1,.int .i64 0,.pointer (some ⟨g12,0,none⟩)] W λe w'=>e= .returned (.int .i64 (r0-r1))/\∃n,w'=W.drewN n:=by
 have h0:=h.c.cell 0
 have h1:=h.l.cell 0
 have h2:=h.s.cell 0
 have h3:=h.f.cell 0
 simp only[List.getElem?_cons_zero] at h0 h1 h2 h3
 have Xp:=aa.mk (λn:Nat=>oV (W:=W.drewN n) h0 h1 h2 hr.nz 0 (by omega) w0 (c*w0) r0 h.a0 hr.hm0 hr.hr0)
 have PK:=aa.mk (λn:Nat=>oV (W:=W.drewN n) h0 h1 h2 hr.nz 1 (by omega) w1 (c*w1) r1 h.a1 hr.hm1 hr.hr1)
 have b0:=hr.hb0
 have b1:=hr.hb1
 have hw:IntKind.i64.wrap (r0-r1)=r0-r1:=IntWalk.i64_in _ (by omega)
 clear h hr h0 h1 h2
 simp only[Int.ofNat_zero,Int.ofNat_one] at Xp PK
 have eg:∀args w,(callFunc 138 args).run Tryz.prog w= .ok (.enter 138 args) w:=enters Tryz.func138 (by kernel_rfl) rfl
 go_enter Tryz.func140,Tryz.ntmps140
 go_wp2_with fail
 go_quiet (first|(go_at_fn 138;with_reducible exact Calls.quiet_of (Xp.out _))|(go_at_fn 138;with_reducible exact Calls.quiet_of (PK.out _)))
 go_wp2
 go_ret
 exact⟨rfl,_,rfl⟩
def qm(base:Nat)(ok:Nat->Prop)(w:World)(go cap:Nat)(l:List Int):Prop:=(Kd.int .i64).R 3 w base ok (.slice (some ⟨go,0,none⟩) 2 cap) l
theorem qm.c0{base:Nat}{ok:Nat->Prop}{w:World}{go cap:Nat}{a b:Int}(h:qm base ok w go cap [a,b]):w.cell? ⟨go,0,none⟩=some (.int .i64 a):=(Kd.jE (0:Int) h 0 (by omega) (by omega)).1
theorem qm.c1{base:Nat}{ok:Nat->Prop}{w:World}{go cap:Nat}{a b:Int}(h:qm base ok w go cap [a,b]):w.cell? ⟨go,1,none⟩=some (.int .i64 b):=(Kd.jE (0:Int) h 1 (by omega) (by omega)).1
theorem qm.f0{base:Nat}{ok:Nat->Prop}{w:World}{go cap:Nat}{a b:Int}(h:qm base ok w go cap [a,b]):w.frozen? ⟨go,0,none⟩=false:=(Kd.jE (0:Int) h 0 (by omega) (by omega)).2
theorem qm.f1{base:Nat}{ok:Nat->Prop}{w:World}{go cap:Nat}{a b:Int}(h:qm base ok w go cap [a,b]):w.frozen? ⟨go,1,none⟩=false:=(Kd.jE (0:Int) h 1 (by omega) (by omega)).2
theorem qm.p0{base:Nat}{ok:Nat->Prop}{w:World}{go cap:Nat}{a b:Int}(h:qm base ok w go cap [a,b])(x:Int):qm base ok (w.setCell ⟨go,0,none⟩ (.int .i64 x)) go cap [x,b]:=Kd.uy h 0 x
theorem qm.p1{base:Nat}{ok:Nat->Prop}{w:World}{go cap:Nat}{a b:Int}(h:qm base ok w go cap [a,b])(x:Int):qm base ok (w.setCell ⟨go,1,none⟩ (.int .i64 x)) go cap [a,x]:=Kd.uy h 1 x
theorem qm.drewN{base:Nat}{ok:Nat->Prop}{w:World}{go cap:Nat}{l:List Int}(h:qm base ok w go cap l)(n:Nat):qm base ok (w.drewN n) go cap l:=Kd.dh h n
set_option maxHeartbeats 4000000 in
theorem Kb{w:World}{base go cap g:Nat}{ok:Nat->Prop}{cb:Array Value}(d:Int)(hO:qm base ok w go cap [0,1])(eg:∀args w,(callFunc g args).run Tryz.prog w= .ok (.enter g args) w)
  (hc:∀W,bq w.heap.size (λb=>b=go) w W->Calls Tryz.prog g (#[.int .i64 1,.int .i64 0]++cb) W λe w'=>e= .returned (.int .i64 d)/\∃n,w'=W.drewN n):
  Calls Tryz.prog 166 #[.slice (some ⟨go,0,none⟩) 2 cap,.int .i64 0,.int .i64 2,.func (.func g) #[] cb] w λe w'=>e= .returned (.tuple #[])/\qm base ok w' go cap (if d<0 then [1,0] else [0,1])/\bq w.heap.size (λb=>b=go) w w':=by
 have HO:=aa.mk hO
 have HC:=aa.mk hc
 have HF:=aa.mk (show ∃l,(if d<0 then [1,0] else [0,1]:List Int)=l from⟨_,rfl⟩)
 obtain⟨F,hF⟩:=HF.out
 rw[hF]
 have HF:=aa.mk hF
 have EG:=aa.mk eg
 clear hO hc hF eg
 go_enter Tryz.func166,Tryz.ntmps166
 go_wp2_with fail
 go_loopw [8] (λv8 wr=>aa (bq w.heap.size (λb=>b=go) w wr)/\((v8= .int .i64 1/\aa (qm base ok wr go cap [0,1]))\/(v8= .int .i64 2/\aa (qm base ok wr go cap F)))) (λv8 _=>2-(intOf v8).toNat)
 case atStart=>exact⟨⟨bq.refl _ _ _⟩,.inl ⟨rfl,HO⟩⟩
 case round=>
  obtain⟨HK,h⟩:=hrel
  rcases h with⟨rfl,BO⟩|⟨rfl,BO⟩
  .go_wp2_with fail
   go_loopw [9] (λv9 wr=>aa (bq w.heap.size (λb=>b=go) w wr)/\((v9= .int .i64 1/\aa (qm base ok wr go cap [0,1]))\/(v9= .int .i64 0/\aa (qm base ok wr go cap F)))) (λv9 _=>(intOf v9).toNat)
   case atStart=>exact⟨HK,.inl ⟨rfl,BO⟩⟩
   case round=>
    clear HK BO
    obtain⟨HK,h⟩:=hrel
    rcases h with⟨rfl,BO⟩|⟨rfl,BO⟩
    .have h0:=BO.out.c0
     have h1:=BO.out.c1
     have HCn:=aa.mk (λn:Nat=>HC.out (wr.drewN n) (HK.out.drewN n))
     have eg:=EG.out
     by_cases hd:d<0
     .have hdb:decide (d<0)=true:=decide_eq_true hd
      have hFt:F=[1,0]:=by have:=HF.out;rw[if_pos hd] at this;exact this.symm
      have HFT:=aa.mk hFt
      clear hFt hd
      go_wp2_with fail
      go_quiet ((go_at_fn g;with_reducible exact Calls.quiet_of (HCn.out _)))
      replace BO:=aa.mk (BO.out.drewN nq)
      replace HK:=aa.mk (HK.out.drewN nq)
      replace h0:(wr.drewN nq).cell? ⟨go,0,none⟩=some (.int .i64 0):=h0
      replace h1:(wr.drewN nq).cell? ⟨go,1,none⟩=some (.int .i64 1):=h1
      clear HCn eg
      generalize wr.drewN nq=wd at BO HK h0 h1 ⊢
      go_wp2_with fail
      have hwz:wrap64 0=0:=IntWalk.wrap64_in _ (by omega)
      refine dB (n:=18) (S:=λw'=>w'.cell? ⟨go,0,none⟩=some (.int .i64 0)/\w'.cell? ⟨go,1,none⟩=some (.int .i64 1)) (ds:=[15,17]) #[O,O,O,O,O,O,O,O,O,O,O,O,O,O,O,O,O,O] (by kernel_rfl) rfl rfl ⟨h0,h1⟩ (λhHeld=>?_);refine bu sr.agw sr.ac9 (λak bN=>?_)
      replace BO:=aa.mk (show qm base ok wd.drew go cap _ from Kd.cO BO.out)
      replace HK:=aa.mk HK.out.drew
      replace h0:wd.drew.cell? ⟨go,0,none⟩=some (.int .i64 0):=h0
      replace h1:wd.drew.cell? ⟨go,1,none⟩=some (.int .i64 1):=h1
      generalize wd.drew=we at BO HK h0 h1 hHeld ⊢
      refine aZ 0 37 #[I,O,O,O,O,O,O,O,O,O,O,O,O,O,O,O,O,O] ak (h:=?_)
      refine aZ 1 38 #[I,I,O,O,O,O,O,O,O,O,O,O,O,O,O,O,O,O] ak (h:=?_)
      refine aZ 2 39 #[I,I,I,O,O,O,O,O,O,O,O,O,O,O,O,O,O,O] ak (h:=?_)
      refine aZ 3 40 #[I,I,I,I,O,O,O,O,O,O,O,O,O,O,O,O,O,O] ak (h:=?_)
      refine aZ 4 41 #[I,I,I,I,I,O,O,O,O,O,O,O,O,O,O,O,O,O] ak (h:=?_)
      refine aZ 5 42 #[I,I,I,I,I,I,O,O,O,O,O,O,O,O,O,O,O,O] ak (h:=?_)
      refine aZ 6 43 #[I,I,I,I,I,I,I,O,O,O,O,O,O,O,O,O,O,O] ak (h:=?_)
      refine aZ 7 44 #[I,I,I,I,I,I,I,I,O,O,O,O,O,O,O,O,O,O] ak (h:=?_)
      refine aZ 8 45 #[I,I,I,I,I,I,I,I,I,O,O,O,O,O,O,O,O,O] ak (h:=?_)
      refine dG 9 46 #[I,I,I,I,I,I,I,I,I,I,O,O,O,O,O,O,O,O] ak bN hHeld (hy:=by(rintro w' ⟨s0,s1⟩;go_simp;with_reducible rfl)) (h:=?_)
      refine aZ 10 47 #[I,I,I,I,I,I,I,I,I,I,I,O,O,O,O,O,O,O] ak (h:=?_)
      refine aZ 11 48 #[I,I,I,I,I,I,I,I,I,I,I,I,O,O,O,O,O,O] ak (h:=?_)
      refine aZ 12 49 #[I,I,I,I,I,I,I,I,I,I,I,I,I,O,O,O,O,O] ak (h:=?_)
      refine dG 13 50 #[I,I,I,I,I,I,I,I,I,I,I,I,I,I,O,O,O,O] ak bN hHeld (hy:=by(rintro w' ⟨s0,s1⟩;go_simp;with_reducible rfl)) (h:=?_)
      refine aZ 14 51 #[I,I,I,I,I,I,I,I,I,I,I,I,I,I,I,O,O,O] ak (h:=?_)
      refine dE (i:=15) (N:=none) #[I,I,I,I,I,I,I,I,I,I,I,I,I,I,I,I,O,O] rfl rfl (aI ak.out (by kernel_rfl)) (by decide) (λK hK=>?_)
      have eY:=h1
      have ig:=BO.out.f1
      refine gW (w1:=?_) (by rfl) rfl ?_ ?_
      rotate_left
      .go_simp
       rfl
      refine hK.out _ _ ?_
      clear hK K eY ig
      have BO1:=aa.mk (BO.out.p1 0)
      have qN:=aa.mk (HK.out.setCell (p:=⟨go,1,none⟩) (.inl rfl) (.int .i64 0))
      clear BO HK h0 h1
      have h0:=BO1.out.c0
      generalize we.setCell ⟨go,1,none⟩ (.int .i64 0)=wf at BO1 qN h0 ⊢
      refine aZ 16 52 #[I,I,I,I,I,I,I,I,I,I,I,I,I,I,I,I,I,O] ak (h:=?_)
      refine dE (i:=17) (N:=none) #[I,I,I,I,I,I,I,I,I,I,I,I,I,I,I,I,I,I] rfl rfl (aI ak.out (by kernel_rfl)) (by decide) (λK hK=>?_)
      have eY:=h0
      have ig:=BO1.out.f0
      refine gW (w1:=?_) (by rfl) rfl ?_ ?_
      rotate_left
      .go_simp
       rfl
      refine hK.out _ _ ?_
      clear hK K eY ig
      have BO2:=aa.mk (BO1.out.p0 1)
      have IJ:=aa.mk (qN.out.setCell (p:=⟨go,0,none⟩) (.inl rfl) (.int .i64 1))
      clear BO1 qN h0
      generalize wf.setCell ⟨go,0,none⟩ (.int .i64 1)=wg at BO2 IJ ⊢
      refine dK (bG ak.out (by kernel_rfl)) ?_
      clear hwz
      go_wp2_with fail
      go_roundw
      case rel=>exact⟨IJ,.inr ⟨rfl,by rw[HFT.out];exact BO2⟩⟩
      case measure=>simp[intOf]
     .have hdb:decide (d<0)=false:=decide_eq_false hd
      have hFt:F=[0,1]:=by have:=HF.out;rw[if_neg hd] at this;exact this.symm
      have HFT:=aa.mk hFt
      clear hFt hd
      go_wp2_with fail
      go_quiet ((go_at_fn g;with_reducible exact Calls.quiet_of (HCn.out _)))
      replace BO:=aa.mk (BO.out.drewN nq)
      replace HK:=aa.mk (HK.out.drewN nq)
      clear HCn eg h0 h1
      generalize wr.drewN nq=wd at BO HK ⊢
      go_wp2_with fail
      go_roundw
      case rel=>exact⟨HK,.inr ⟨rfl,by rw[HFT.out];exact BO⟩⟩
      case measure=>simp[intOf]
    .go_wp2_with fail
     go_quiet (fail)
     replace BO:=aa.mk (BO.out.drewN nq)
     replace HK:=aa.mk (HK.out.drewN nq)
     generalize wr.drewN nq=wd at BO HK ⊢
     go_wp2_with fail
     go_roundw
     case rel=>exact⟨HK,.inr ⟨rfl,BO⟩⟩
     case measure=>simp[intOf]
  .go_wp2_with fail
   go_end0
   exact⟨rfl,BO.out,HK.out⟩
set_option maxHeartbeats 4000000 in
theorem Dl{w:World}{base go cap g:Nat}{ok:Nat->Prop}{cb:Array Value}(d:Int)(hO:qm base ok w go cap [0,1])(eg:∀args w,(callFunc g args).run Tryz.prog w= .ok (.enter g args) w)
  (hc:∀W,bq w.heap.size (λb=>b=go) w W->Calls Tryz.prog g (#[.int .i64 1,.int .i64 0]++cb) W λe w'=>e= .returned (.int .i64 d)/\∃n,w'=W.drewN n):
  Calls Tryz.prog 159 #[.slice (some ⟨go,0,none⟩) 2 cap,.int .i64 2,.func (.func g) #[] cb] w λe w'=>e= .returned (.tuple #[])/\qm base ok w' go cap (if d<0 then [1,0] else [0,1])/\bq w.heap.size (λb=>b=go) w w':=by
 have HI:=aa.mk (Kb (cap:=cap) (cb:=cb) d hO eg hc)
 obtain⟨F,hF⟩:∃l,(if d<0 then [1,0] else [0,1]:List Int)=l:=⟨_,rfl⟩
 rw[hF] at HI ⊢
 clear hO hc eg hF
 go_enter Tryz.func159,Tryz.ntmps159
 go_wp2_with fail
 go_loopw [7,8] (λv7 v8 wr=>v7= .int .i64 0/\v8= .int .i64 20/\wr=w) (λ_ _ _=>0)
 case atStart=>exact⟨rfl,rfl,rfl⟩
 case round=>
  obtain⟨rfl,rfl,rfl⟩:=hrel
  go_wp2_with fail
  refine HI.out.mono ?_
  rintro e w1 ⟨rfl,hb,hk⟩
  have HB:=aa.mk hb
  have HK:=aa.mk hk
  clear hb hk HI
  go_wp2_with fail
  go_loopw [6] (λv6 w2=>v6= .int .i64 20/\w2=w1) (λ_ _=>0)
  case atStart=>exact⟨rfl,rfl⟩
  case round=>
   obtain⟨rfl,rfl⟩:=hrel
   go_wp2_with fail
   go_end0
   exact⟨rfl,HB.out,HK.out⟩
theorem GA{w:World}{base go cap g:Nat}{ok:Nat->Prop}{cb:Array Value}(d:Int)(hO:qm base ok w go cap [0,1])(eg:∀args w,(callFunc g args).run Tryz.prog w= .ok (.enter g args) w)
  (hc:∀W,bq w.heap.size (λb=>b=go) w W->Calls Tryz.prog g (#[.int .i64 1,.int .i64 0]++cb) W λe w'=>e= .returned (.int .i64 d)/\∃n,w'=W.drewN n):
  Calls Tryz.prog 139 #[.slice (some ⟨go,0,none⟩) 2 cap,.func (.func g) #[] cb] w λe w'=>e= .returned (.tuple #[])/\qm base ok w' go cap (if d<0 then [1,0] else [0,1])/\bq w.heap.size (λb=>b=go) w w':=by
 have HI:=aa.mk (Dl (cap:=cap) (cb:=cb) d hO eg hc)
 obtain⟨F,hF⟩:∃l,(if d<0 then [1,0] else [0,1]:List Int)=l:=⟨_,rfl⟩
 rw[hF] at HI ⊢
 clear hO hc eg hF
 go_enter Tryz.func139,Tryz.ntmps139
 go_wp2_with fail
 refine HI.out.mono ?_
 rintro e w1 ⟨rfl,hb,hk⟩
 have HB:=aa.mk hb
 have HK:=aa.mk hk
 clear hb hk HI
 go_wp2_with fail
 go_end0
 exact⟨rfl,HB.out,HK.out⟩
end Go.Proofs.YtkjoilgpmngndaaGreat
