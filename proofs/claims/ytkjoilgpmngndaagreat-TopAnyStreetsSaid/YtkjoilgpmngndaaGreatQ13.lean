import Derived.BigQuiet
import Derived.Deep.QuietTactic
import Derived.Test.YtkjoilgpmngndaaGreatQ11
set_option linter.all false
namespace Go.Proofs.YtkjoilgpmngndaaGreat
open Go.RowKit Go.Shelf Go.Proofs.YtkjoilgpmngndaaGreat.av Go.Proofs.YtkjoilgpmngndaaGreatW.aA Go.Proofs.YtkjoilgpmngndaaGreatW.aJ
set_option maxRecDepth 100000 in
set_option maxHeartbeats 4000000 in
theorem Jl{g1 g2:Nat}{l:Nat->Int}{D:Int}{w:World}(h1:aR w g1 (bJ l) 121)(h2:aR w g2 [.int .i64 D] 3)(x:Nat)(hx:x<8):
  Calls Tryz.prog 86 (#[.int .i64 (x:Int)]++#[.pointer (some ⟨g1,0,none⟩),.pointer (some ⟨g2,0,none⟩)]) w fun e w'=>e= .returned (.bool (l x==D))/\Below w.heap.size w w':=by
 simp only[List.append_toArray,List.nil_append,List.cons_append]
 have hc:=h1.cell x
 rw[gJ l x hx] at hc
 have hd:=h2.cell 0
 simp only[List.getElem?_cons_zero] at hd
 have hx0:(0:Int)<=(x:Int):=by omega
 have hx8:(x:Int)<8:=by omega
 have hl1:=h1.lt
 have hl2:=h2.lt
 clear h1 h2
 go_enter Tryz.func86,Tryz.ntmps86
 go_wp2_with fail
 go_quiet (fail)
 go_wp2_with fail
 go_ret
 exact⟨rfl,rfl,rfl,rfl,Nat.le_refl _,fun _ _=>rfl⟩
def jd(old:List Int)(ss:List bH)(p:Int->Bool)(k:Nat):Int×Int:=
 (((List.range k).map (fun d:Nat=>(je old ss (d:Int) p).1)).sum,((List.range k).map (fun d:Nat=>(je old ss (d:Int) p).2)).sum)
def mM(old:List Int)(ss:List bH)(l:Nat->Int)(D:Int):Int×Int:=jd old ss (fun i=>l i.toNat==D) old.length
theorem yF(old:List Int)(ss:List bH)(p:Int->Bool)(k:Nat):jd old ss p (k+1)=((jd old ss p k).1+(je old ss (k:Int) p).1,(jd old ss p k).2+(je old ss (k:Int) p).2):=by
 unfold jd
 rw[List.range_succ,List.map_append,List.map_append,List.sum_append,List.sum_append]
 simp
theorem Zl{no:Nat}{nw:Int}{ss:List bH}(h:∀s ∈ ss,iP no nw s)(d:Int):TR (dI ss d ss.length):=by
 intro x hx
 unfold dI at hx
 obtain⟨i,hi,rfl⟩:=List.mem_map.1 hx
 have hi':=List.mem_range.1 (List.mem_filter.1 hi).1
 have hok:=h _ (kM ss i hi')
 exact⟨hok.p0,hok.p1,hok.p2⟩
theorem JE{old:List Int}{nw:Int}{ss:List bH}(hss:ss.length<=8)(hst:∀s ∈ ss,iP old.length nw s)(hol:∀n ∈ old,0<=n/\n<=10000)(d:Nat)(hd:d<old.length)(p:Int->Bool):
  -100000<=(je old ss (d:Int) p).1/\(je old ss (d:Int) p).1<=100000/\ -100000<=(je old ss (d:Int) p).2/\(je old ss (d:Int) p).2<=100000:=by
 have hp:=Zl hst (d:Int)
 have q1:=kL (qd (p:=p) hp).1
 have q2:=kL (qd (p:=p) hp).2
 have q3:=AQ p (dI ss (d:Int) ss.length)
 have q4:=Az ss (d:Int) ss.length
 have hrd:=hol (rd old (d:Int)) (by rw[LV old d hd];exact List.getElem_mem hd)
 unfold je
 simp only
 omega
theorem vI{old:List Int}{nw:Int}{ss:List bH}(hss:ss.length<=8)(hst:∀s ∈ ss,iP old.length nw s)(hol:∀n ∈ old,0<=n/\n<=10000)(p:Int->Bool):∀(k:Nat),k<=old.length ->
  -100000*(k:Int)<=(jd old ss p k).1/\(jd old ss p k).1<=100000*(k:Int)/\ -100000*(k:Int)<=(jd old ss p k).2/\(jd old ss p k).2<=100000*(k:Int)
 |0,_=>by simp[jd]
 |k+1,hk=>by
  have h1:=vI hss hst hol p k (by omega)
  have h2:=JE hss hst hol k (by omega) p
  rw[yF]
  simp only
  omega
theorem gF{W:World}{g:Nat}{cs:List Value}{t:TypeId}(h:aR W g cs t){p:Addr}(hne:g≠p.block)(v:Value):aR (W.setCell p v) g cs t:=h.move (Below.heap_setCell _ _ _ _ hne)
set_option maxRecDepth 100000 in
set_option maxHeartbeats 40000000 in
theorem uj{A0:Option Addr}{c0:Nat}{old:List Int}{nw:Int}{A2:Option Addr}{c2:Nat}{ss:List bH}{A3:Option Addr}{c3:Nat}{js:List bS}{w:World}(h:uX w A0 c0 old A2 c2 ss A3 c3 js)(hss:ss.length<=8)(hst:∀s ∈ ss,iP old.length nw s)(hol:∀n ∈ old,0<=n/\n<=10000)(IW:old.length<=4)
  (l:Nat->Int) (D:Int):
  Calls Tryz.prog 43 #[.agg #[.slice A0 old.length c0,.int .i64 nw,.slice A2 ss.length c2,.slice A3 js.length c3],sS l,.int .i64 D] w fun e w'=>e= .returned (.agg #[.int .i64 (mM old ss l D).1,.int .i64 (mM old ss l D).2])/\Below w.heap.size w w':=by
 have H:=aa.mk h
 have HST:=aa.mk hst
 have NM:=aa.mk hol
 clear h hst hol
 unfold sS
 go_enter Tryz.func43,Tryz.ntmps43
 go_wp2_with fail
 have HB0:=aa.mk (ae (ae (ae (ae (Below.refl w.heap.size w) (.cells #[.slice A0 old.length c0,.int .i64 nw,.slice A2 ss.length c2,.slice A3 js.length c3] 43)) (.cells #[.int .i64 (l 0),.int .i64 (l 1),.int .i64 (l 2),.int .i64 (l 3),.int .i64 (l 4),.int .i64 (l 5),.int .i64 (l 6),.int .i64 (l 7)] 121)) (.cells #[.int .i64 D] 3)) (.cells #[.int .i64 0,.int .i64 0] 52))
 have IQ:=aa.mk (((aR.new w [.slice A0 old.length c0,.int .i64 nw,.slice A2 ss.length c2,.slice A3 js.length c3] 43).alloc (.cells #[.int .i64 (l 0),.int .i64 (l 1),.int .i64 (l 2),.int .i64 (l 3),.int .i64 (l 4),.int .i64 (l 5),.int .i64 (l 6),.int .i64 (l 7)] 121)).alloc (.cells #[.int .i64 D] 3) |>.alloc (.cells #[.int .i64 0,.int .i64 0] 52))
 have Dv:=aa.mk (show aR ((((w.alloc (.cells #[.slice A0 old.length c0,.int .i64 nw,.slice A2 ss.length c2,.slice A3 js.length c3] 43)).alloc (.cells #[.int .i64 (l 0),.int .i64 (l 1),.int .i64 (l 2),.int .i64 (l 3),.int .i64 (l 4),.int .i64 (l 5),.int .i64 (l 6),.int .i64 (l 7)] 121)).alloc (.cells #[.int .i64 D] 3)).alloc (.cells #[.int .i64 0,.int .i64 0] 52)) (w.heap.size+1) (bJ l) 121 by have hB:=((aR.new (w.alloc (.cells #[.slice A0 old.length c0,.int .i64 nw,.slice A2 ss.length c2,.slice A3 js.length c3] 43)) (bJ l) 121).alloc (.cells #[.int .i64 D] 3)).alloc (.cells #[.int .i64 0,.int .i64 0] 52);simp only[World.size_alloc] at hB;exact hB)
 have NZ:=aa.mk (show aR ((((w.alloc (.cells #[.slice A0 old.length c0,.int .i64 nw,.slice A2 ss.length c2,.slice A3 js.length c3] 43)).alloc (.cells #[.int .i64 (l 0),.int .i64 (l 1),.int .i64 (l 2),.int .i64 (l 3),.int .i64 (l 4),.int .i64 (l 5),.int .i64 (l 6),.int .i64 (l 7)] 121)).alloc (.cells #[.int .i64 D] 3)).alloc (.cells #[.int .i64 0,.int .i64 0] 52)) (w.heap.size+1+1) [.int .i64 D] 3 by have hB:=(aR.new ((w.alloc (.cells #[.slice A0 old.length c0,.int .i64 nw,.slice A2 ss.length c2,.slice A3 js.length c3] 43)).alloc (.cells #[.int .i64 (l 0),.int .i64 (l 1),.int .i64 (l 2),.int .i64 (l 3),.int .i64 (l 4),.int .i64 (l 5),.int .i64 (l 6),.int .i64 (l 7)] 121)) [.int .i64 D] 3).alloc (.cells #[.int .i64 0,.int .i64 0] 52);simp only[World.size_alloc] at hB;exact hB)
 have B60:=aa.mk (show aR ((((w.alloc (.cells #[.slice A0 old.length c0,.int .i64 nw,.slice A2 ss.length c2,.slice A3 js.length c3] 43)).alloc (.cells #[.int .i64 (l 0),.int .i64 (l 1),.int .i64 (l 2),.int .i64 (l 3),.int .i64 (l 4),.int .i64 (l 5),.int .i64 (l 6),.int .i64 (l 7)] 121)).alloc (.cells #[.int .i64 D] 3)).alloc (.cells #[.int .i64 0,.int .i64 0] 52)) (w.heap.size+1+1+1) [.int .i64 (jd old ss (fun i=>l i.toNat==D) 0).1,.int .i64 (jd old ss (fun i=>l i.toNat==D) 0).2] 52 by have hB:=aR.new (((w.alloc (.cells #[.slice A0 old.length c0,.int .i64 nw,.slice A2 ss.length c2,.slice A3 js.length c3] 43)).alloc (.cells #[.int .i64 (l 0),.int .i64 (l 1),.int .i64 (l 2),.int .i64 (l 3),.int .i64 (l 4),.int .i64 (l 5),.int .i64 (l 6),.int .i64 (l 7)] 121)).alloc (.cells #[.int .i64 D] 3)) [.int .i64 0,.int .i64 0] 52;simp only[World.size_alloc] at hB;exact hB)
 have hs0:w.heap.size+1+1+1<((((w.alloc (.cells #[.slice A0 old.length c0,.int .i64 nw,.slice A2 ss.length c2,.slice A3 js.length c3] 43)).alloc (.cells #[.int .i64 (l 0),.int .i64 (l 1),.int .i64 (l 2),.int .i64 (l 3),.int .i64 (l 4),.int .i64 (l 5),.int .i64 (l 6),.int .i64 (l 7)] 121)).alloc (.cells #[.int .i64 D] 3)).alloc (.cells #[.int .i64 0,.int .i64 0] 52)).heap.size:=by simp
 generalize(((w.alloc (.cells #[.slice A0 old.length c0,.int .i64 nw,.slice A2 ss.length c2,.slice A3 js.length c3] 43)).alloc (.cells #[.int .i64 (l 0),.int .i64 (l 1),.int .i64 (l 2),.int .i64 (l 3),.int .i64 (l 4),.int .i64 (l 5),.int .i64 (l 6),.int .i64 (l 7)] 121)).alloc (.cells #[.int .i64 D] 3)).alloc (.cells #[.int .i64 0,.int .i64 0] 52)=w1 at HB0 IQ Dv NZ B60 hs0 ⊢
 go_loopw [12] (fun v wr=>∃k:Nat,k<=old.length/\v= .int .i64 k/\aa (Below w.heap.size w wr)/\aa (aR wr w.heap.size [.slice A0 old.length c0,.int .i64 nw,.slice A2 ss.length c2,.slice A3 js.length c3] 43)/\aa (aR wr (w.heap.size+1) (bJ l) 121)/\aa (aR wr (w.heap.size+1+1) [.int .i64 D] 3)/\aa (aR wr (w.heap.size+1+1+1) [.int .i64 (jd old ss (fun i=>l i.toNat==D) k).1,.int .i64 (jd old ss (fun i=>l i.toNat==D) k).2] 52)) (fun v _=>old.length-(intOf v).toNat)
 case atStart=>exact⟨0,Nat.zero_le _,rfl,HB0,IQ,Dv,NZ,B60⟩
 case round=>
  clear HB0 IQ Dv NZ B60 hs0
  obtain⟨k,hk,rfl,HB,B3,B4,B5,B6⟩:=hrel
  by_cases hkl:k<old.length
  .have TV:=aa.mk (yF old ss (fun i=>l i.toNat==D) k)
   have hsb:=vI hss HST.out NM.out (fun i=>l i.toNat==D) (k+1) (by omega)
   rw[TV.out] at hsb
   simp only at hsb
   have hw1:wrap64 ((jd old ss (fun i=>l i.toNat==D) k).1+(je old ss (k:Int) (fun i=>l i.toNat==D)).1)=(jd old ss (fun i=>l i.toNat==D) k).1+(je old ss (k:Int) (fun i=>l i.toNat==D)).1:=IntWalk.wrap64_in _ (by omega)
   have hw2:wrap64 ((jd old ss (fun i=>l i.toNat==D) k).2+(je old ss (k:Int) (fun i=>l i.toNat==D)).2)=(jd old ss (fun i=>l i.toNat==D) k).2+(je old ss (k:Int) (fun i=>l i.toNat==D)).2:=IntWalk.wrap64_in _ (by omega)
   have HPI:=aa.mk (fun(W:World) (x:Nat) (hx:x<ss.length) (hW:Below wr.heap.size wr W)=>Jl (B4.out.below hW) (B5.out.below hW) x (by omega))
   have hpc:=Ai (H.out.below HB.out) hss HST.out NM.out k hkl 86 #[.pointer (some ⟨w.heap.size+1,0,none⟩),.pointer (some ⟨w.heap.size+1+1,0,none⟩)] (enters Tryz.func86 (by kernel_rfl) rfl) (fun i=>l i.toNat==D) HPI.out
   have HPC:=aa.mk hpc
   generalize je old ss (k:Int) (fun i=>l i.toNat==D)=pp at hw1 hw2 TV HPC
   generalize jd old ss (fun i=>l i.toNat==D) k=sz at hw1 hw2 TV B6
   obtain⟨p0,p1⟩:=pp
   obtain⟨z0,z1⟩:=sz
   simp only at hw1 hw2 TV B6 HPC
   have hg:=B6.out.lt
   have kQ:=B3.out.cell 0
   have h31:=B3.out.cell 1
   have h32:=B3.out.cell 2
   have CB:=B3.out.cell 3
   simp only[List.getElem?_cons_zero,List.getElem?_cons_succ] at kQ h31 h32 CB
   clear hpc HPI hsb
   go_wp2_with fail
   clear kQ h31 h32 CB
   refine HPC.out.mono ?_
   rintro e w2 ⟨rfl,jR⟩
   have NY:=aa.mk (B6.out.below jR)
   have BM:=aa.mk (B3.out.below jR)
   have xO:=aa.mk (B4.out.below jR)
   have QU:=aa.mk (B5.out.below jR)
   have HB2:=aa.mk (HB.out.trans (jR.mono HB.out.size))
   have hg2:=NY.out.lt
   have hc0:=NY.out.cell 0
   have hc1:=NY.out.cell 1
   have hf0:=NY.out.frozen 0
   have hf1:=NY.out.frozen 1
   simp only[List.getElem?_cons_zero,List.getElem?_cons_succ] at hc0 hc1
   clear jR HB B3 B4 B5 B6 HPC
   go_wp2_with fail
   refine⟨⟨k+1,by omega,rfl,⟨ae ((HB2.out.setCell (p:=⟨w.heap.size+1+1+1,0,none⟩) (by simp only;omega) _).setCell (p:=⟨w.heap.size+1+1+1,1,none⟩) (by simp only;omega) _) _⟩,⟨(gF (gF BM.out (by simp only;omega) _) (by simp only;omega) _).alloc _⟩,⟨(gF (gF xO.out (by simp only;omega) _) (by simp only;omega) _).alloc _⟩,⟨(gF (gF QU.out (by simp only;omega) _) (by simp only;omega) _).alloc _⟩,⟨by rw[TV.out];exact(NY.out.set2 _ _).alloc _⟩⟩,by simp[intOf];omega⟩
  .obtain rfl:k=old.length:=by omega
   have hg:=B6.out.lt
   have hc0:=B6.out.cell 0
   have hc1:=B6.out.cell 1
   have hf0:=B6.out.frozen 0
   have hf1:=B6.out.frozen 1
   simp only[List.getElem?_cons_zero,List.getElem?_cons_succ] at hc0 hc1
   go_wp2_with fail
   refine bodyPost_ret (results_cell_row rfl _ _ (w.heap.size+1+1+1) 52 #[.int .i64 (mM old ss l D).1,.int .i64 (mM old ss l D).2] (0,0) _ rfl (B6.out.set2 _ _) Tryz.underlying52 rfl (by kernel_rfl)) rfl ?_
   exact⟨rfl,(HB.out.setCell (p:=⟨w.heap.size+1+1+1,0,none⟩) (by simp only;omega) _).setCell (p:=⟨w.heap.size+1+1+1,1,none⟩) (by simp only;omega) _⟩
end Go.Proofs.YtkjoilgpmngndaaGreat
namespace Go.Proofs.YtkjoilgpmngndaaGreat
open Go.RowKit Go.Shelf Go.Proofs.YtkjoilgpmngndaaGreat.av Go.Proofs.YtkjoilgpmngndaaGreatW.aA Go.Proofs.YtkjoilgpmngndaaGreatW.aJ
theorem Df:(Tryz.prog.info? 52).map (fun i=>(i.zero,i.size,i.bytes))=some (some (.agg #[.int .i64 0,.int .i64 0]),2,16):=by kernel_rfl
theorem zU{g1:Nat}{i:Int}{w:World}(h1:aR w g1 [.int .i64 i] 3)(x:Nat):
  Calls Tryz.prog 42 (#[.int .i64 (x:Int)]++#[.pointer (some ⟨g1,0,none⟩)]) w fun e w'=>e= .returned (.bool ((x:Int)==i))/\Below w.heap.size w w':=by
 simp only[List.append_toArray,List.nil_append,List.cons_append]
 have hd:=h1.cell 0
 simp only[List.getElem?_cons_zero] at hd
 have hl1:=h1.lt
 clear h1
 go_enter Tryz.func42,Tryz.ntmps42
 go_wp2_with fail
 go_ret
 exact⟨rfl,rfl,rfl,rfl,Nat.le_refl _,fun _ _=>rfl⟩
def Uv(p:Int×Int):sO:=⟨p.1,p.2⟩
def iL(old:List Int)(ss:List bH)(k:Nat):List sO:=(List.range k).map (fun i:Nat=>Uv (je old ss (aG ss i).f0 (fun x=>x==(i:Int))))
theorem zT(old:List Int)(ss:List bH)(k:Nat):iL old ss (k+1)=iL old ss k++[Uv (je old ss (aG ss k).f0 (fun x=>x==(k:Int)))]:=by
 unfold iL
 rw[List.range_succ,List.map_append]
 rfl
theorem mE(old:List Int)(ss:List bH)(k:Nat):(iL old ss k).length=k:=by simp[iL]
def eO(old:List Int)(nw:Int)(ss:List bH)(js:List bS):List sO×Int:=if gY old nw ss js=0 then(iL old ss ss.length,0) else([],gY old nw ss js)
theorem yw{old:List Int}{nw:Int}{ss:List bH}{js:List bS}(h:gY old nw ss js=0):gU old nw ss js=0:=by
 unfold gY at h
 by_cases hc:gU old nw ss js=0
 .exact hc
 .rw[if_neg hc] at h
  exact absurd h hc
set_option maxRecDepth 100000 in
set_option maxHeartbeats 40000000 in
theorem tV{A0:Option Addr}{c0:Nat}{old:List Int}{nw:Int}{A2:Option Addr}{c2:Nat}{ss:List bH}{A3:Option Addr}{c3:Nat}{js:List bS}{w:World}(h:uX w A0 c0 old A2 c2 ss A3 c3 js):
  Calls Tryz.prog 11 #[.agg #[.slice A0 old.length c0,.int .i64 nw,.slice A2 ss.length c2,.slice A3 js.length c3]] w fun e w'=>(∃v,e= .returned (.tuple #[v,.int .i64 (eO old nw ss js).2])/\MN.R 52 w' w.heap.size (fun _=>True) v (eO old nw ss js).1)/\Below w.heap.size w w':=by
 have H:=aa.mk h
 clear h
 go_enter Tryz.func11,Tryz.ntmps11
 go_wp2_with fail
 have hb0:=ae (Below.refl w.heap.size w) (.cells #[.slice A0 old.length c0,.int .i64 nw,.slice A2 ss.length c2,.slice A3 js.length c3] 43)
 have B0:=aR.new w [.slice A0 old.length c0,.int .i64 nw,.slice A2 ss.length c2,.slice A3 js.length c3] 43
 refine(mh (H.out.below hb0)).mono ?_
 rintro e w1 ⟨rfl,hb1⟩
 have B1:=aa.mk (B0.below hb1)
 have HB1:=aa.mk (hb0.trans (hb1.mono (by simp)))
 have h10:=B1.out.cell 0
 have h11:=B1.out.cell 1
 have h12:=B1.out.cell 2
 have mg:=B1.out.cell 3
 simp only[List.getElem?_cons_zero,List.getElem?_cons_succ] at h10 h11 h12 mg
 clear hb0 hb1 B0
 by_cases hc:gY old nw ss js=0
 rotate_left
 .have hcb:(gY old nw ss js !=0)=true:=by simp[hc]
  go_wp2_with fail
  have Sn:eO old nw ss js=([],gY old nw ss js):=by unfold eO;rw[if_neg hc]
  go_ret2
  rw[Sn]
  exact⟨⟨_,rfl,Kd.jL _ _ _ _ _⟩,HB1.out⟩
 obtain⟨ho0,IW,hs0,Dh,hj,hol,hn1,Kl,hst,Si,hjo⟩:=kI (yw hc)
 have HF:=aa.mk (show eO old nw ss js=(iL old ss ss.length,0) by unfold eO;rw[if_pos hc])
 have HST:=aa.mk hst
 have NM:=aa.mk hol
 have hcb:(gY old nw ss js !=0)=false:=by simp[hc]
 rw[hc]
 clear hc hst hol Si hjo hn1 Kl hj hcb
 go_wp2_with fail
 clear h10 h11 h12 mg
 have hs1:=HB1.out.size
 go_loopw [5,16] (fun v5 v16 wr=>∃k:Nat,k<=ss.length/\v16= .int .i64 k/\aa (Below w.heap.size w wr)/\aa (aR wr w.heap.size [.slice A0 old.length c0,.int .i64 nw,.slice A2 ss.length c2,.slice A3 js.length c3] 43)/\w1.heap.size<=wr.heap.size/\aa (MN.R 52 wr w1.heap.size (fun b=>w1.heap.size<=b) v5 (iL old ss k))) (fun _ v16 _=>ss.length-(intOf v16).toNat)
 case atStart=>exact⟨0,Nat.zero_le _,rfl,HB1,B1,Nat.le_refl _,⟨Kd.jL _ _ _ _ _⟩⟩
 case round=>
  have hB1:w.heap.size<w1.heap.size:=B1.out.lt
  clear HB1 B1
  obtain⟨k,hk,rfl,HB,B3,oH,HR⟩:=hrel
  by_cases hkl:k<ss.length
  .obtain⟨ad,e,h0,h1,h2,h3,h4⟩:=qO (H.out.below HB.out).Lg (k:Int) (by omega) (by omega)
   cases e
   simp only[Int.toNat_natCast] at h0 h1 h2 h3 h4
   have hsu:=zT old ss k
   have hle:=mE old ss k
   have hok:=HST.out _ (kM ss k hkl)
   have hrr:aG ss k=fI ss (k:Int):=rfl
   rw[hrr] at hsu hok
   obtain⟨r,hr⟩:∃r,fI ss (k:Int)=r:=⟨_,rfl⟩
   rw[hr] at h0 h1 h2 h3 h4 hsu hok
   obtain⟨d,hd⟩:∃d:Nat,r.f0=(d:Int):=⟨r.f0.toNat,by have:=hok.o0;omega⟩
   have hdl:d<old.length:=by have:=hok.o1;omega
   rw[hd] at hsu
   have QJ:=aa.mk hsu
   have HD:=aa.mk hd
   have I6:=aa.mk hle
   clear hsu hr hrr hok hd hle
   have kY:=aa.mk (ae (ae HB.out (.cells #[.int .i64 (k:Int)] 3)) (.cells #[.int .i64 r.f0,.int .i64 r.f1,.int .i64 r.f2,.int .i64 r.f3.f0,.int .i64 r.f3.f1] 105))
   have Ur:=aa.mk ((B3.out.alloc (.cells #[.int .i64 (k:Int)] 3)).alloc (.cells #[.int .i64 r.f0,.int .i64 r.f1,.int .i64 r.f2,.int .i64 r.f3.f0,.int .i64 r.f3.f1] 105))
   have Uq:=aa.mk ((aR.new wr [.int .i64 (k:Int)] 3).alloc (.cells #[.int .i64 r.f0,.int .i64 r.f1,.int .i64 r.f2,.int .i64 r.f3.f0,.int .i64 r.f3.f1] 105))
   have HR4:=aa.mk (Kd.dA (Kd.dA HR.out (.cells #[.int .i64 (k:Int)] 3)) (.cells #[.int .i64 r.f0,.int .i64 r.f1,.int .i64 r.f2,.int .i64 r.f3.f0,.int .i64 r.f3.f1] 105))
   have hs4:w1.heap.size<=((wr.alloc (.cells #[.int .i64 (k:Int)] 3)).alloc (.cells #[.int .i64 r.f0,.int .i64 r.f1,.int .i64 r.f2,.int .i64 r.f3.f0,.int .i64 r.f3.f1] 105)).heap.size:=by simp;omega
   have hg:=B3.out.lt
   have kQ:=B3.out.cell 0
   have h31:=B3.out.cell 1
   have h32:=B3.out.cell 2
   have CB:=B3.out.cell 3
   simp only[List.getElem?_cons_zero,List.getElem?_cons_succ] at kQ h31 h32 CB
   go_wp2_with fail
   clear h0 h1 h2 h3 h4 kQ h31 h32 CB HB HR B3
   generalize(wr.alloc (.cells #[.int .i64 (k:Int)] 3)).alloc (.cells #[.int .i64 r.f0,.int .i64 r.f1,.int .i64 r.f2,.int .i64 r.f3.f0,.int .i64 r.f3.f1] 105)=w4 at kY Ur Uq HR4 hs4 ⊢
   rw[HD.out]
   refine(Ai (H.out.below kY.out) Dh HST.out NM.out d hdl 42 #[.pointer (some ⟨wr.heap.size,0,none⟩)] (enters Tryz.func42 (by kernel_rfl) rfl) (fun x=>x==(k:Int)) (fun W x _ hW=>zU (Uq.out.below hW) x)).mono ?_
   rintro e w5 ⟨rfl,jR⟩
   have uY:=aa.mk (kY.out.trans (jR.mono kY.out.size))
   have B35:=aa.mk (Ur.out.below jR)
   have HR5:=aa.mk (Kd.fC HR4.out jR)
   have hs5:=Nat.le_trans hs4 jR.size
   obtain⟨pp,Vt⟩:∃p,je old ss (d:Int) (fun x=>x==(k:Int))=p:=⟨_,rfl⟩
   rw[Vt] at QJ ⊢
   clear jR Vt kY Ur Uq HR4 hs4
   go_wp2_with ((with_reducible refine cO (b:= .append) (xs:=#[.tmp 21,.tmp 27]) rfl ?_);at_builtin;refine Kd.jk MN (w0:=w5) w1.heap.size rfl (.tmp 21) (.tmp 27) 45 52 (.agg #[.int .i64 0,.int .i64 0]) 16 rfl Tryz.underlying45 Df rfl (by decide) (by omega) u5 (iL old ss k) (Uv pp) [.int .i64 pp.1,.int .i64 pp.2] (fun b=>w1.heap.size<=b) (fun _=>False) rfl rfl ?aP (fun _ hk=>hk.elim) ?aF ?aO ?aB ?aS ?aL ?_;(case aP=>exact DV _ _ _ (Uv pp));(case aF=>exact(fun b hb=>Nat.le_trans hs5 hb));(case aO=>exact HR5.out);(case aB=>exact Below.refl _ _);(case aS=>exact hs5);(case aL=>rw[I6.out];omega);intro vn wn hon hbn hgn fP;have uU:=aa.mk hon;have BZ:=aa.mk (uY.out.trans (hbn.mono hs1));have Bn:=aa.mk (B35.out.move (hbn.block _ (by omega)));have hsn:=Nat.le_trans hs5 hbn.size;clear hon hbn hgn fP)
   go_roundw
   case rel=>exact⟨k+1,by omega,by go_num,BZ,Bn,hsn,⟨by rw[QJ.out];exact uU.out⟩⟩
   case measure=>simp[intOf];omega
  .obtain rfl:k=ss.length:=by omega
   go_wp2_with fail
   go_ret2
   rw[HF.out]
   exact⟨⟨_,rfl,Kd.cK (Kd.jD HR.out hs1) (fun _ _=>trivial)⟩,HB.out⟩
end Go.Proofs.YtkjoilgpmngndaaGreat
namespace Go.Proofs.YtkjoilgpmngndaaGreat
open Go.RowKit Go.Shelf Go.Proofs.YtkjoilgpmngndaaGreat.av Go.Proofs.YtkjoilgpmngndaaGreatW.aA Go.Proofs.YtkjoilgpmngndaaGreatW.aJ Go.Proofs.YtkjoilgpmngndaaGreatW.dn
def bo.T8:Bool×List (List Nat×List Nat):=(true,[([],[]),([],[]),([],[]),([2],[2]),([],[]),([1,3,4,3],[1,3,4]),([5],[5]),([0,6,5],[0,6]),([7,7,0,1,2,3,4,5,6,7],[0,7])])
def bo.B8:List Nat:=[0,0,0,4,0,30,62,127,255]
theorem bo.Za:eu .any (opsOf Tryz.f12 8)=bo.T8:=by kernel_rfl
theorem bo.Tk:bO bo.T8.2 bo.B8=true:=by kernel_rfl
def jX(old:List Int)(ss:List bH)(k:Nat):List sO:=(List.range k).map (fun d:Nat=>Uv (mM old ss (kz ss) (d:Int)))
theorem CK(old:List Int)(ss:List bH)(k:Nat):jX old ss (k+1)=jX old ss k++[Uv (mM old ss (kz ss) (k:Int))]:=by
 unfold jX
 rw[List.range_succ,List.map_append]
 rfl
theorem xu(old:List Int)(ss:List bH)(k:Nat):(jX old ss k).length=k:=by simp[jX]
def jP(old:List Int)(nw:Int)(ss:List bH)(js:List bS):List sO×Int:=if gY old nw ss js=0 then(jX old ss nw.toNat,0) else([],gY old nw ss js)
set_option maxRecDepth 100000 in
set_option maxHeartbeats 40000000 in
theorem xH{A0:Option Addr}{c0:Nat}{old:List Int}{nw:Int}{A2:Option Addr}{c2:Nat}{ss:List bH}{A3:Option Addr}{c3:Nat}{js:List bS}{w:World}(h:uX w A0 c0 old A2 c2 ss A3 c3 js):
  Calls Tryz.prog 12 #[.agg #[.slice A0 old.length c0,.int .i64 nw,.slice A2 ss.length c2,.slice A3 js.length c3]] w fun e w'=>(∃v,e= .returned (.tuple #[v,.int .i64 (jP old nw ss js).2])/\MN.R 52 w' w.heap.size (fun _=>True) v (jP old nw ss js).1)/\Below w.heap.size w w':=by
 have H:=aa.mk h
 clear h
 go_enter Tryz.func12,Tryz.ntmps12
 go_wp2_with fail
 have hb0:=ae (Below.refl w.heap.size w) (.cells #[.slice A0 old.length c0,.int .i64 nw,.slice A2 ss.length c2,.slice A3 js.length c3] 43)
 have B0:=aR.new w [.slice A0 old.length c0,.int .i64 nw,.slice A2 ss.length c2,.slice A3 js.length c3] 43
 refine(mh (H.out.below hb0)).mono ?_
 rintro e w1 ⟨rfl,hb1⟩
 have B1:=aa.mk (B0.below hb1)
 have HB1:=aa.mk (hb0.trans (hb1.mono (by simp)))
 have h10:=B1.out.cell 0
 have h11:=B1.out.cell 1
 have h12:=B1.out.cell 2
 have mg:=B1.out.cell 3
 simp only[List.getElem?_cons_zero,List.getElem?_cons_succ] at h10 h11 h12 mg
 clear hb0 hb1 B0
 by_cases hc:gY old nw ss js=0
 rotate_left
 .have hcb:(gY old nw ss js !=0)=true:=by simp[hc]
  go_wp2_with fail
  have Sn:jP old nw ss js=([],gY old nw ss js):=by unfold jP;rw[if_neg hc]
  go_ret2
  rw[Sn]
  exact⟨⟨_,rfl,Kd.jL _ _ _ _ _⟩,HB1.out⟩
 obtain⟨ho0,IW,hs0,Dh,hj,hol,hn1,Kl,hst,Si,hjo⟩:=kI (yw hc)
 have HF:=aa.mk (show jP old nw ss js=(jX old ss nw.toNat,0) by unfold jP;rw[if_pos hc])
 have HST:=aa.mk hst
 have NM:=aa.mk hol
 have hcb:(gY old nw ss js !=0)=false:=by simp[hc]
 rw[hc]
 clear hc hst hol Si hjo hj hcb
 go_wp2_with fail
 clear h10 h11 h12 mg
 have hs1:=HB1.out.size
 obtain⟨nn,hnn⟩:∃n:Nat,nw.toNat=n:=⟨_,rfl⟩
 have Ua:=aa.mk (show nw=(nn:Int) by omega)
 rw[hnn] at HF
 have ZT:nn<=4:=by omega
 clear hn1 Kl hnn
 go_loopw [5,14] (fun v5 v14 wr=>∃k:Nat,k<=nn/\v14= .int .i64 k/\aa (Below w.heap.size w wr)/\aa (aR wr w.heap.size [.slice A0 old.length c0,.int .i64 nw,.slice A2 ss.length c2,.slice A3 js.length c3] 43)/\w1.heap.size<=wr.heap.size/\aa (MN.R 52 wr w1.heap.size (fun b=>w1.heap.size<=b) v5 (jX old ss k))) (fun _ v14 _=>nn-(intOf v14).toNat)
 case atStart=>exact⟨0,Nat.zero_le _,rfl,HB1,B1,Nat.le_refl _,⟨Kd.jL _ _ _ _ _⟩⟩
 case round=>
  have hB1:w.heap.size<w1.heap.size:=B1.out.lt
  clear HB1 B1
  obtain⟨k,hk,rfl,HB,B3,oH,HR⟩:=hrel
  by_cases hkl:k<nn
  .have D8:decide ((k:Int)<nw)=true:=by have:=Ua.out;simp;omega
   have QJ:=aa.mk (CK old ss k)
   have I6:=aa.mk (xu old ss k)
   go_wp2_with fail
   refine gz (n:=9) (S:=fun w'=>w'.cell? ⟨w.heap.size,0,none⟩=some (.slice A0 old.length c0)/\w'.cell? ⟨w.heap.size,1,none⟩=some (.int .i64 nw)/\w'.cell? ⟨w.heap.size,2,none⟩=some (.slice A2 ss.length c2)/\w'.cell? ⟨w.heap.size,3,none⟩=some (.slice A3 js.length c3)) (ds:=[5,6,7]) #[O,O,O,O,O,O,O,O,O] (by kernel_rfl) rfl rfl ⟨(by simpa using B3.out.cell 0),(by simpa using B3.out.cell 1),(by simpa using B3.out.cell 2),(by simpa using B3.out.cell 3)⟩ (fun hHeld=>?_);refine bK bo.Za bo.Tk (fun aC bW=>?_)
   have qV:=aa.mk (bG HB.out)
   have uf:=aa.mk (B3.out.move rfl:aR wr.drew _ _ _)
   have Bv:=aa.mk (Kd.fE HR.out)
   have hsd:w1.heap.size<=wr.drew.heap.size:=oH
   clear HB B3 HR oH
   generalize wr.drew=wd at qV uf Bv hsd hHeld ⊢
   refine bI 0 17 #[I,O,O,O,O,O,O,O,O] aC (h:=?_)
   refine eP 1 18 #[I,I,O,O,O,O,O,O,O] aC bW hHeld (hy:=by(rintro w' ⟨s0,s1,s2,s3⟩;go_simp;with_reducible rfl)) (h:=?_)
   refine eP 2 19 #[I,I,I,O,O,O,O,O,O] aC bW hHeld (hy:=by(rintro w' ⟨s0,s1,s2,s3⟩;go_simp;with_reducible rfl)) (h:=?_)
   refine bI 4 21 #[I,I,I,O,I,O,O,O,O] aC (h:=?_)
   refine iC (i:=3) (N:=some 20) #[I,I,I,I,I,O,O,O,O] rfl rfl (aN aC.out (by kernel_rfl)) (by decide) (fun K hK=>?_)
   refine fD Tryz.func44 (by kernel_rfl) rfl #[.agg #[.slice A0 old.length c0,.int .i64 nw,.slice A2 ss.length c2,.slice A3 js.length c3]] (by rfl) rfl rfl (by(try simp only[List.map_toArray,List.map_cons,List.map_nil]);rfl) ?_
   refine(C7 (H.out.below qV.out) Dh).mono ?_
   rintro e_ w_ ⟨rfl,hbx⟩
   refine⟨_,rfl,hK.out _ _ ⟨(by simpa using (uf.out.below hbx).cell 0),(by simpa using (uf.out.below hbx).cell 1),(by simpa using (uf.out.below hbx).cell 2),(by simpa using (uf.out.below hbx).cell 3)⟩ (fun hHeld=>?_)⟩
   clear hK K
   have QP:=aa.mk (qV.out.trans (hbx.mono qV.out.size))
   have QV:=aa.mk (uf.out.below hbx)
   have HRe:=aa.mk (Kd.fC Bv.out hbx)
   have hse:=Nat.le_trans hsd hbx.size
   clear hbx qV uf Bv hsd
   refine bF (by simp only[Act.put,List.setIfInBounds_toArray,List.set_cons_zero,List.set_cons_succ];rfl) ?_
   refine dW (i:=5) (N:=some 22) #[I,I,I,I,I,I,O,O,O] rfl rfl (aN aC.out (by kernel_rfl)) (by decide) (fun K hK=>?_)
   refine fD Tryz.func43 (by kernel_rfl) rfl #[.agg #[.slice A0 old.length c0,.int .i64 nw,.slice A2 ss.length c2,.slice A3 js.length c3],sS (kz ss),.int .i64 (k:Int)] (by rfl) rfl rfl (by(try simp only[List.map_toArray,List.map_cons,List.map_nil]);rfl) ?_
   refine(uj (H.out.below QP.out) Dh HST.out NM.out IW (kz ss) (k:Int)).mono ?_
   rintro e_ w_ ⟨rfl,hbx⟩
   refine⟨_,rfl,hK.out _ _ ?_⟩
   clear hK K
   have xM:=aa.mk (QP.out.trans (hbx.mono QP.out.size))
   have B3f:=aa.mk (QV.out.below hbx)
   have HRf:=aa.mk (Kd.fC HRe.out hbx)
   have XU:=Nat.le_trans hse hbx.size
   clear hbx QP QV HRe hse
   obtain⟨pp,Vt⟩:∃p,mM old ss (kz ss) (k:Int)=p:=⟨_,rfl⟩
   rw[Vt] at QJ ⊢
   clear Vt
   refine bF (by simp only[Act.put,List.setIfInBounds_toArray,List.set_cons_zero,List.set_cons_succ];rfl) ?_
   refine dW (i:=6) (N:=some 23) #[I,I,I,I,I,I,I,O,O] rfl rfl (aN aC.out (by kernel_rfl)) (by decide) (fun K hK=>?_)
   refine dV (w1:=?_) (v:=?_) (by rfl) rfl ?_ ?_
   rotate_left 2
   .go_simp
    constructor<;>rfl
   refine hK.out _ _ ?_
   clear hK K
   refine bF (by simp only[Act.put,List.setIfInBounds_toArray,List.set_cons_zero,List.set_cons_succ];rfl) ?_
   refine dW (i:=7) (N:=some 24) #[I,I,I,I,I,I,I,I,O] rfl rfl (aN aC.out (by kernel_rfl)) (by decide) (fun K hK=>?_)
   refine Kd.mI MN (w0:=w_) w1.heap.size (by rfl) (.tmp 17) (.tmp 23) 45 52 (.agg #[.int .i64 0,.int .i64 0]) 16 rfl Tryz.underlying45 Df rfl (by decide) (by omega) u5 (jX old ss k) (Uv pp) [.int .i64 pp.1,.int .i64 pp.2] (fun b=>w1.heap.size<=b) (fun _=>False) rfl rfl (DV _ _ _ (Uv pp)) (fun _ hk=>hk.elim) (fun b hb=>Nat.le_trans XU hb) HRf.out (Below.refl _ _) XU (by rw[I6.out];omega) ?_
   intro vn wn hon hbn hgn fP
   have uU:=aa.mk hon
   have BZ:=aa.mk (xM.out.trans (hbn.mono hs1))
   have Bn:=aa.mk (B3f.out.move (hbn.block _ (by omega)))
   have hsn:=Nat.le_trans XU hbn.size
   clear hon hbn hgn fP
   refine hK.out _ _ ?_
   clear hK K
   refine bF (by simp only[Act.put,List.setIfInBounds_toArray,List.set_cons_zero,List.set_cons_succ];rfl) ?_
   refine bI 8 5 #[I,I,I,I,I,I,I,I,I] aC (h:=?_)
   refine fF (bQ aC.out (by kernel_rfl)) ?_
   go_wp2_with fail
   go_roundw
   case rel=>exact⟨k+1,by omega,by go_num,BZ,Bn,hsn,⟨by rw[QJ.out];exact uU.out⟩⟩
   case measure=>simp[intOf];omega
  .obtain rfl:k=nn:=by omega
   have D8:decide ((k:Int)<nw)=false:=by have:=Ua.out;simp;omega
   go_wp2_with fail
   go_ret2
   rw[HF.out]
   exact⟨⟨_,rfl,Kd.cK (Kd.jD HR.out hs1) (fun _ _=>trivial)⟩,HB.out⟩
end Go.Proofs.YtkjoilgpmngndaaGreat
