import Derived.Test.YtdekaocdmjndaaaGreatQ21
set_option linter.all false
namespace Go.Proofs.YtdekaocdmjndaaaGreat.Wk
open Go.RowKit Go.Shelf ah YtdekaocdmjndaaaGreatW.aj
attribute [local go_sem] Oper.semAt_some
structure aY(n₀:Nat)(S:Nat->Prop)(w w':World):Prop where
 os:w'.os=w.os
 tape:w'.tape=w.tape
 output:w'.output=w.output
 size:w.heap.size<=w'.heap.size
 block:∀k,k<n₀->¬S k->w'.heap[k]?=w.heap[k]?
theorem aY.refl(n₀:Nat)(S:Nat->Prop)(w:World):aY n₀ S w w:=⟨rfl,rfl,rfl,Nat.le_refl _,λ_ _ _=>rfl⟩
theorem aY.trans{n₀:Nat}{S:Nat->Prop}{a b c:World}(h:aY n₀ S a b)(k:aY n₀ S b c):aY n₀ S a c:=
 ⟨k.os.trans h.os,k.tape.trans h.tape,k.output.trans h.output,Nat.le_trans h.size k.size,λi hi hs=>(k.block i hi hs).trans (h.block i hi hs)⟩
theorem aY.of_below{n₀ B:Nat}{S:Nat->Prop}{a b:World}(h:Below B a b)(hB:n₀<=B):aY n₀ S a b:=⟨h.os,h.tape,h.output,h.size,λk hk _=>h.block k (by omega)⟩
theorem aY.mono{n₀ n₁:Nat}{S T:Nat->Prop}{a b:World}(h:aY n₀ S a b)(hn:n₁<=n₀)(hS:∀k,k<n₁->S k->T k):aY n₁ T a b:=⟨h.os,h.tape,h.output,h.size,λk hk hs=>h.block k (by omega) (λx=>hs (hS k hk x))⟩
theorem aY.alloc{n₀:Nat}{S:Nat->Prop}{a b:World}(h:aY n₀ S a b)(hB:n₀<=b.heap.size)(o:Obj):aY n₀ S a (b.alloc o):=
 h.trans (aY.of_below ((Below.refl b.heap.size b).alloc (Nat.le_refl _) o) hB)
theorem aY.setCell{n₀:Nat}{S:Nat->Prop}{a b:World}(h:aY n₀ S a b){p:Addr}(hp:S p.block\/n₀<=p.block)(u:Value):aY n₀ S a (b.setCell p u):=
 h.trans ⟨rfl,rfl,rfl,by simp[World.setCell],λk hk hs=>Below.heap_setCell _ _ _ _ (by
  rintro rfl
  rcases hp with hp|hp
  .exact hs hp
  .omega)⟩
theorem aY.drewN{n₀:Nat}{S:Nat->Prop}{a b:World}(h:aY n₀ S a b)(n:Nat):aY n₀ S a (b.drewN n):=⟨h.os,h.tape,h.output,h.size,h.block⟩
theorem aY.drew{n₀:Nat}{S:Nat->Prop}{a b:World}(h:aY n₀ S a b):aY n₀ S a b.drew:=⟨h.os,h.tape,h.output,h.size,h.block⟩
theorem aY.put{n₀:Nat}{S:Nat->Prop}{a b:World}(h:aY n₀ S a b){l:Nat}(hl:S l\/n₀<=l)(o:Obj):aY n₀ S a (b.putObj l o):=
 h.trans ⟨rfl,rfl,rfl,by simp[World.putObj],λk hk hs=>World.putObj_heap_other (by
  rintro rfl
  rcases hl with hl|hl
  .exact hs hl
  .omega)⟩
theorem aY.cell{n₀:Nat}{S:Nat->Prop}{w w':World}(h:aY n₀ S w w'){p:Addr}(hp:p.block<n₀)(hs:¬S p.block):w'.cell? p=w.cell? p:=World.cell?_of_block (w:=w) (h.block p.block hp hs)
theorem aY.frozen{n₀:Nat}{S:Nat->Prop}{w w':World}(h:aY n₀ S w w'){p:Addr}(hp:p.block<n₀)(hs:¬S p.block):w'.frozen? p=w.frozen? p:=World.frozen?_of_block (w:=w) (h.block p.block hp hs)
theorem CO{n₀:Nat}{S:Nat->Prop}{w:World}(hn:n₀<=w.heap.size)(W:World)(l:Nat)(o o':Obj)(hl:w.heap.size<=l)(h:W.heap[l]?=some o)(_:o.isCells=false)(_:o.isWalk=false):aY n₀ S W (W.putObj l o'):=
 aY.of_below ((Below.refl n₀ W).grown (grownBy_putObj' W l o') (by have:=(Array.getElem?_eq_some_iff.1 h).1;omega) (λk e=>by cases e;omega)) (Nat.le_refl _)
def DJ(n:Int)(r:dJ):Option (Int×Int):=
 if n=r.f0 then(if 0<=r.f1 then some (r.f1,r.f2.f1) else none) else if n=r.f1 then(if 0<=r.f0 then some (r.f0,r.f2.f1) else none) else none
def qR(R:List dJ)(n:Int):List (Int×Int):=R.filterMap (DJ n)
theorem pz(R:List dJ)(n:Int)(k:Nat)(h:k<R.length):qR (R.take (k+1)) n=qR (R.take k) n++(DJ n (bE R k)).toList:=by
 unfold qR
 rw[List.take_succ_eq_append_getElem h,List.filterMap_append]
 congr 1
 have:bE R k=R[k]:=by simp[bE,iX,List.getD,h]
 rw[this]
 cases hn:DJ n R[k]<;>simp[hn]
theorem MS(R:List dJ)(k:Nat)(h:k<R.length):bE R k ∈ R:=by
 have:bE R k=R[k]:=by simp[bE,iX,List.getD,h]
 rw[this]
 exact List.getElem_mem h
theorem Er(R:List dJ)(n:Int):(qR R n).length<=R.length:=List.length_filterMap_le _ _
def enc2(x:Int×Int):Array Value:=#[.int .i64 x.1,.int .i64 x.2]
structure Cj(n₀:Nat)(S:Nat->Prop)(W:World)(gm gn:Nat)(A0:Option Addr)(n0 c0:Nat)(A1:Option Addr)(c1:Nat)(R:List dJ)(n:Int):Prop where
 m:aV W gm [.slice A0 n0 c0,.slice A1 R.length c1] 155
 n:W.cell? ⟨gn,0,none⟩=some (.int .i64 n)
 roads:Kd.C GM W A1 R.length R
 lm:gm<n₀/\¬S gm
 ln:gn<n₀/\¬S gn
 lr:0<R.length->∀ad,A1=some ad->ad.block<n₀/\¬S ad.block
theorem Gf{n₀:Nat}{S:Nat->Prop}{W W':World}{A1:Option Addr}{R:List dJ}(h:Kd.C GM W A1 R.length R)(hl:0<R.length->∀ad,A1=some ad->ad.block<n₀/\¬S ad.block)(k:aY n₀ S W W')(i:Nat)(hi:i<R.length):
  ∃ad,A1=some ad/\W'.cell? (ad.add (i*4))=some (.int .i64 (iX R i).f0)/\W'.cell? ⟨(ad.add (i*4)).block,(ad.add (i*4)).off+1,none⟩=some (.int .i64 (iX R i).f1)/\W'.cell? ⟨(ad.add (i*4)).block,(ad.add (i*4)).off+2,none⟩=some (.int .i64 (iX R i).f2.f0)/\W'.cell? ⟨(ad.add (i*4)).block,(ad.add (i*4)).off+3,none⟩=some (.int .i64 (iX R i).f2.f1):=by
 obtain⟨ad,e,h0,h1,h2,h3⟩:=yI h i (by omega) (by omega)
 simp only[Int.toNat_natCast] at h0 h1 h2 h3
 obtain⟨hl1,hl2⟩:=hl (by omega) ad e
 have hbk:(ad.add (i*4)).block=ad.block:=by unfold Addr.add;split<;>rfl
 refine⟨ad,e,?_,?_,?_,?_⟩
 .rw[k.cell (by rw[hbk];exact hl1) (by rw[hbk];exact hl2)];exact h0
 .rw[k.cell (by simp only[hbk];exact hl1) (by simp only[hbk];exact hl2)];exact h1
 .rw[k.cell (by simp only[hbk];exact hl1) (by simp only[hbk];exact hl2)];exact h2
 .rw[k.cell (by simp only[hbk];exact hl1) (by simp only[hbk];exact hl2)];exact h3
theorem jb{β:Type}{B:Nat}{J:β->World->Prop}(h:AbidesFrom B J){s:β}{W:World}(o:Obj)(hj:J s W):J s (W.alloc o):=
 h s W _ none hj (jy (ae (Below.refl _ _) o) none) (by simp)
set_option maxRecDepth 100000 in
set_option maxHeartbeats 4000000 in
theorem Nq(F:Fence)(n:Nat)(hf:F.fn 271)(hro:F.round=none)(hn:1<=n)(l gm gn n₀:Nat)(S:Nat->Prop)(A0:Option Addr)(n0 c0:Nat)(A1:Option Addr)(c1:Nat)(R:List dJ)(near:Int)(uz:R.length<=281474976710656)
  (J Jx:List (Int×Int)->World->Prop) (B:Nat) (YW:AbidesFrom B J)
  (Pr:Int×Int->Prop) (hPr:∀r ∈ R,∀x,DJ near r=some x->Pr x)
  (hY:∀pre x W,Pr x->J pre W->pre.length<R.length->YieldAt F (n-1) Tryz.prog l (enc2 x) W λe W'=>
   (e= .returned (.bool true)/\J (pre++[x]) W'/\aY n₀ S W W')\/(e= .returned (.bool false)/\Jx (pre++[x]) W'))
  (W:World) (hW:n₀<=W.heap.size) (hR:Cj n₀ S W gm gn A0 n0 c0 A1 c1 R near) (h0:J [] W):
  CallsIn F n Tryz.prog 271 #[.func (.yield l) #[] #[],.pointer (some ⟨gm,0,none⟩),.pointer (some ⟨gn,0,none⟩)] W λe W'=>(∃v,e= .returned v) /\
   ((∃ys,ys=qR R near/\J ys W')\/(∃pre,True/\Jx pre W')):=by
 have HR:=aa.mk hR
 have HY:=aa.mk hY
 have HPr:=aa.mk hPr
 have WJ:=aa.mk YW
 have hz0:=hR.m.cell 0
 have hz1:=hR.m.cell 1
 simp only[dZ,dY] at hz0 hz1
 clear hR hY hPr YW
 refine callsIn_of_wp Tryz.func271 rfl hf ?_ hro
 simp only[Tryz.ntmps271,List.size_toArray,List.length_cons,List.length_nil,Nat.reduceAdd,Nat.reduceSub,Array.replicate_succ,Array.replicate_zero,List.push_toArray,List.append_toArray,List.nil_append,List.cons_append]
 gi_wp2
 gi_loopw [10] (λi wr=>∃k:Nat,k<=R.length/\i= .int .i64 k/\aa (J (qR (R.take k) near) wr)/\aa (aY n₀ S W wr))
  (λi _=>R.length-(intOf i).toNat)
 case atStart=>exact⟨0,Nat.zero_le _,rfl,⟨h0⟩,⟨aY.refl _ _ _⟩⟩
 case round=>
  obtain⟨k,hk,rfl,HJ,HK⟩:=hrel
  by_cases hlt:k<R.length
  .obtain⟨ad,e,h0,h1,h2,h3⟩:=Gf HR.out.roads HR.out.lr HK.out k hlt
   cases e
   obtain⟨r,hr⟩:∃r,iX R (k:Int)=r:=⟨_,rfl⟩
   rw[hr] at h0 h1 h2 h3
   have HRR:=aa.mk (show bE R k=r from hr)
   clear hr
   have hgn:=(HK.out.cell (p:=⟨gn,0,none⟩) HR.out.ln.1 HR.out.ln.2).trans HR.out.n
   have aex:gn<wr.heap.size:=World.block_lt_of_cell? _ _ hgn
   have TK:=aa.mk (Nat.le_trans hW HK.out.size)
   by_cases p0:near=r.f0
   .have Sy:(near==r.f0)=true:=beq_iff_eq.2 p0
    have P0:=aa.mk p0
    clear p0
    by_cases q:0<=r.f1
    .have Po:=aa.mk (show DJ near r=some (r.f1,r.f2.f1) by unfold DJ;rw[if_pos P0.out,if_pos q])
     have HJ2:=aa.mk (jb WJ.out (.cells #[.int .i64 r.f0,.int .i64 r.f1,.int .i64 r.f2.f0,.int .i64 r.f2.f1] 386) HJ.out)
     have HST:=aa.mk (show qR (R.take (k+1)) near=qR (R.take k) near++[(r.f1,r.f2.f1)] by rw[pz R near k hlt,HRR.out,Po.out];rfl)
     obtain⟨fn,tmps,assign,body,hy,hRR⟩:=HY.out _ (r.f1,r.f2.f1) _ (HPr.out r (by rw[<- HRR.out];exact MS R k hlt) _ Po.out) HJ2.out (Nat.lt_of_le_of_lt (Er _ _) (by rw[List.length_take];omega))
     dsimp only[enc2] at hy
     gi_wp2_with fail
     refine hRR.mono ?_
     rintro e W3 (⟨rfl,hJ3,hk3⟩|⟨rfl,hJx3⟩)
     .gi_wp2_with fail
      go_roundw
      case rel=>exact⟨k+1,by omega,by go_num,⟨by rw[HST.out];exact hJ3⟩,⟨(HK.out.alloc TK.out _).trans hk3⟩⟩
      case measure=>simp[intOf];omega
     .gi_wp2_with fail
      refine bodyPost_ret (results_none rfl _ _ _) rfl ?_
      exact⟨⟨_,rfl⟩,.inr ⟨_,trivial,hJx3⟩⟩
    .have Po:=aa.mk (show DJ near r=none by unfold DJ;rw[if_pos P0.out,if_neg q])
     have q':decide (0<=r.f1)=false:=by simpa using q
     have HJ2:=aa.mk (show J (qR (R.take (k+1)) near) wr by rw[pz R near k hlt,HRR.out,Po.out];simpa using HJ.out)
     gi_wp2_with fail
     refine⟨λ_ h=>(by cases h),?_⟩
     gi_wp2_with fail
     go_roundw
     case rel=>exact⟨k+1,by omega,by go_num,⟨jb WJ.out _ HJ2.out⟩,⟨HK.out.alloc TK.out _⟩⟩
     case measure=>simp[intOf];omega
   .have Sy:(near==r.f0)=false:=beq_eq_false_iff_ne.2 p0
    have P0:=aa.mk p0
    clear p0
    by_cases p1:near=r.f1
    .have XV:(near==r.f1)=true:=beq_iff_eq.2 p1
     have P1:=aa.mk p1
     clear p1
     by_cases q:0<=r.f0
     .have Po:=aa.mk (show DJ near r=some (r.f0,r.f2.f1) by unfold DJ;rw[if_neg P0.out,if_pos P1.out,if_pos q])
      have HJ2:=aa.mk (jb WJ.out (.cells #[.int .i64 r.f0,.int .i64 r.f1,.int .i64 r.f2.f0,.int .i64 r.f2.f1] 386) HJ.out)
      have HST:=aa.mk (show qR (R.take (k+1)) near=qR (R.take k) near++[(r.f0,r.f2.f1)] by rw[pz R near k hlt,HRR.out,Po.out];rfl)
      obtain⟨fn,tmps,assign,body,hy,hRR⟩:=HY.out _ (r.f0,r.f2.f1) _ (HPr.out r (by rw[<- HRR.out];exact MS R k hlt) _ Po.out) HJ2.out (Nat.lt_of_le_of_lt (Er _ _) (by rw[List.length_take];omega))
      dsimp only[enc2] at hy
      gi_wp2_with fail
      refine hRR.mono ?_
      rintro e W3 (⟨rfl,hJ3,hk3⟩|⟨rfl,hJx3⟩)
      .gi_wp2_with fail
       go_roundw
       case rel=>exact⟨k+1,by omega,by go_num,⟨by rw[HST.out];exact hJ3⟩,⟨(HK.out.alloc TK.out _).trans hk3⟩⟩
       case measure=>simp[intOf];omega
      .gi_wp2_with fail
       refine bodyPost_ret (results_none rfl _ _ _) rfl ?_
       exact⟨⟨_,rfl⟩,.inr ⟨_,trivial,hJx3⟩⟩
     .have Po:=aa.mk (show DJ near r=none by unfold DJ;rw[if_neg P0.out,if_pos P1.out,if_neg q])
      have q':decide (0<=r.f0)=false:=by simpa using q
      have HJ2:=aa.mk (show J (qR (R.take (k+1)) near) wr by rw[pz R near k hlt,HRR.out,Po.out];simpa using HJ.out)
      gi_wp2_with fail
      refine⟨λ_ h=>(by cases h),?_⟩
      gi_wp2_with fail
      go_roundw
      case rel=>exact⟨k+1,by omega,by go_num,⟨jb WJ.out _ HJ2.out⟩,⟨HK.out.alloc TK.out _⟩⟩
      case measure=>simp[intOf];omega
    .have XV:(near==r.f1)=false:=beq_eq_false_iff_ne.2 p1
     have P1:=aa.mk p1
     clear p1
     have Po:=aa.mk (show DJ near r=none by unfold DJ;rw[if_neg P0.out,if_neg P1.out])
     have HJ2:=aa.mk (show J (qR (R.take (k+1)) near) wr by rw[pz R near k hlt,HRR.out,Po.out];simpa using HJ.out)
     gi_wp2_with fail
     refine⟨λ_ h=>(by cases h),?_⟩
     gi_wp2_with fail
     go_roundw
     case rel=>exact⟨k+1,by omega,by go_num,⟨jb WJ.out _ HJ2.out⟩,⟨HK.out.alloc TK.out _⟩⟩
     case measure=>simp[intOf];omega
  .obtain rfl:k=R.length:=by omega
   gi_wp2
   go_end0
   exact⟨⟨_,rfl⟩,.inl ⟨_,rfl,by rw[<- List.take_length (l:=R)];exact HJ.out⟩⟩
theorem GI(F:Fence)(n:Nat)(hf:F.fn 271)(hro:F.round=none)(hn:1<=n)(gm gn n₀:Nat)(S:Nat->Prop)(A0:Option Addr)(n0 c0:Nat)(A1:Option Addr)(c1:Nat)(R:List dJ)(near:Int)(uz:R.length<=281474976710656)
  (Pr:Int×Int->Prop) (hPr:∀r ∈ R,∀x,DJ near r=some x->Pr x) (w:World) (hw:n₀<=w.heap.size) (hR:Cj n₀ S w gm gn A0 n0 c0 A1 c1 R near):
  SeqStopsK F n Tryz.prog 271 #[.pointer (some ⟨gm,0,none⟩),.pointer (some ⟨gn,0,none⟩)] (λx:{x // Pr x}=>enc2 x.1) (aY n₀ S) (λys=>ys.map (·.1)=qR R near) (λ_=>True) R.length w:=λl J Jx W hW hJ hJx hY h0=>by
 have hk:aY n₀ S w W:=aY.of_below hW hw
 refine(Nq F n hf hro hn l gm gn n₀ S A0 n0 c0 A1 c1 R near uz (λpre W=>∃ys:List {x // Pr x},ys.map (·.1)=pre/\J ys W) (λpre W=>∃ys:List {x // Pr x},ys.map (·.1)=pre/\Jx ys W) W.heap.size ?_ Pr hPr ?_ W (Nat.le_trans hw hW.size) ?_ ⟨[],rfl,h0⟩).mono ?_
 .rintro s A B row ⟨ys,e,hj⟩ hg hr
  exact⟨ys,e,hJ ys A B row hj hg hr⟩
 .rintro pre x W' hx ⟨ys,rfl,hj⟩ hlen
  refine(hY ys ⟨x,hx⟩ W' hj (by simpa using hlen)).mono ?_
  rintro e W'' (⟨rfl,h1,h2⟩|⟨rfl,h1⟩)
  .exact .inl ⟨rfl,⟨_,by simp,h1⟩,h2⟩
  .exact .inr ⟨rfl,⟨_,by simp,h1⟩⟩
 .exact⟨((hk.block gm hR.lm.1 hR.lm.2).trans hR.m),(hk.cell (p:=⟨gn,0,none⟩) hR.ln.1 hR.ln.2).trans hR.n,Kd.aC hR.roads hW,hR.lm,hR.ln,hR.lr⟩
 .rintro e W' ⟨hv,⟨ys,he,zs,h1,h2⟩|⟨pre,_,zs,h1,h2⟩⟩
  .exact⟨hv,.inl ⟨zs,h1.trans he,h2⟩⟩
  .exact⟨hv,.inr ⟨zs,trivial,h2⟩⟩
theorem GJ(F:Fence)(n:Nat)(hf:F.fn 213)(hro:F.round=none)(A0:Option Addr)(n0 c0:Nat)(A1:Option Addr)(c1 n1:Nat)(near:Int)(w:World):
  CallsIn F n Tryz.prog 213 #[.agg #[.slice A0 n0 c0,.slice A1 n1 c1],.int .i64 near] w λe w'=>e= .returned (.func (.func 271) #[] #[.pointer (some ⟨w.heap.size,0,none⟩),.pointer (some ⟨w.heap.size+1,0,none⟩)]) /\
   w'=(w.alloc (.cells #[.slice A0 n0 c0,.slice A1 n1 c1] 155)).alloc (.cells #[.int .i64 near] 3):=by
 refine callsIn_of_wp Tryz.func213 rfl hf ?_ hro
 simp only[Tryz.ntmps213,List.size_toArray,List.length_cons,List.length_nil,Nat.reduceAdd,Nat.reduceSub,Array.replicate_succ,Array.replicate_zero,List.push_toArray,List.append_toArray,List.nil_append,List.cons_append]
 gi_wp2
 go_ret
 exact⟨rfl,rfl⟩
end Go.Proofs.YtdekaocdmjndaaaGreat.Wk
namespace Go.Proofs.YtdekaocdmjndaaaGreat.Wk
open Go.RowKit ah YtdekaocdmjndaaaGreatW.aj
def upd{α:Type}(c:Nat->α)(i:Nat)(v:α):Nat->α:=λn=>if n=i then v else c n
theorem upd_same{α:Type}(c:Nat->α)(i:Nat)(v:α):upd c i v i=v:=by simp[upd]
theorem Bw{α:Type}(c:Nat->α)(i j:Nat)(v:α)(h:j≠i):upd c i v j=c j:=by simp[upd,h]
def gI(st:Nat->Bool)(c:Nat->Int):Nat->Int
 |0=> -1
 |k+1=>if st k=false/\(gI st c k<0\/c k<c (gI st c k).toNat) then(k:Int) else gI st c k
theorem ql(st:Nat->Bool)(c:Nat->Int)(k:Nat):gI st c k= -1/\(∀j,j<k->st j=true)\/∃p:Nat,gI st c k=(p:Int)/\p<k/\st p=false:=by
 induction k with
 |zero=>exact .inl ⟨rfl,λj hj=>absurd hj (Nat.not_lt_zero _)⟩
 |succ k ih=>
  unfold gI
  by_cases h:st k=false/\(gI st c k<0\/c k<c (gI st c k).toNat)
  .rw[if_pos h]
   exact .inr ⟨k,rfl,by omega,h.1⟩
  .rw[if_neg h]
   rcases ih with⟨h1,h2⟩|⟨p,h1,h2,h3⟩
   .refine .inl ⟨h1,λj hj=>?_⟩
    rcases Nat.lt_succ_iff_lt_or_eq.1 hj with h'|h'
    .exact h2 j h'
    .subst h'
     cases hs:st j with
     |true=>rfl
     |false=>exact absurd ⟨hs,.inl (by omega)⟩ h
   .exact .inr ⟨p,h1,by omega,h3⟩
theorem Kh{st:Nat->Bool}{c:Nat->Int}{k:Nat}(h:st k=true):gI st c (k+1)=gI st c k:=by
 rw[gI,if_neg (λx=>by rw[h] at x;cases x.1)]
theorem M0{st:Nat->Bool}{c:Nat->Int}{k p:Nat}(hp:gI st c k=(p:Int))(h:¬c k<c p):gI st c (k+1)=gI st c k:=by
 rw[gI,if_neg]
 rintro⟨_,x⟩
 rw[hp,Int.toNat_natCast] at x
 rcases x with x|x
 .omega
 .exact h x
theorem Ki{st:Nat->Bool}{c:Nat->Int}{k p:Nat}(hs:st k=false)(hp:gI st c k=(p:Int))(h:c k<c p):gI st c (k+1)=(k:Int):=by
 rw[gI,if_pos ⟨hs,.inr (by rw[hp,Int.toNat_natCast];exact h)⟩]
theorem Gw{st:Nat->Bool}{c:Nat->Int}{k:Nat}(hs:st k=false)(hp:gI st c k= -1):gI st c (k+1)=(k:Int):=by
 rw[gI,if_pos ⟨hs,.inl (by omega)⟩]
def oh(p:Nat)(s:(Nat->Int)×(Nat->Int))(x:Int×Int):(Nat->Int)×(Nat->Int):=
 if s.1 p+x.2<s.1 x.1.toNat then(upd s.1 x.1.toNat (s.1 p+x.2),upd s.2 x.1.toNat (p:Int)) else s
structure Col where
 st:Nat->Bool
 c:Nat->Int
 f:Nat->Int
def vV(R:List dJ)(N:Nat)(s:Col):Col:=
 let p:=(gI s.st s.c N).toNat
 let cf:=(qR R (p:Int)).foldl (oh p) (s.c,s.f)
 ⟨upd s.st p true,cf.1,cf.2⟩
def vX(N g:Nat):Col:=
 ⟨λ_=>false,λn=>if n=g then 0 else if n<N then 1048576 else 0,λn=>if n=g then(g:Int) else 0⟩
def gW(R:List dJ)(N g:Nat):Nat->Col
 |0=>vX N g
 |i+1=>vV R N (gW R N g i)
def tm(R:List dJ)(N n g:Nat):Int:=if g<N then(gW R N g N).c n else 0
def fs(R:List dJ)(N n g:Nat):Int:=if g<N then(gW R N g N).f n else 0
structure o6(N:Nat)(r:dJ):Prop where
 a0:0<=r.f0
 a1:r.f0<N
 b0:0<=r.f1
 b1:r.f1<N
 ne:r.f0≠r.f1
 lo:1<=r.f2.f0
 le:r.f2.f0<=r.f2.f1
 hi:r.f2.f1<=50
theorem Ns{N:Nat}{n:Int}{r:dJ}(h:o6 N r){x:Int×Int}(hx:DJ n r=some x):0<=x.1/\x.1<N/\x.1≠n/\1<=x.2/\x.2<=50:=by
 unfold DJ at hx
 have h1:=h.a0;have h2:=h.a1;have h3:=h.b0;have h4:=h.b1;have h5:=h.ne;have h6:=h.lo;have h7:=h.le;have h8:=h.hi
 by_cases p0:n=r.f0
 .rw[if_pos p0,if_pos h3] at hx
  obtain rfl:=Option.some.inj hx
  subst p0
  exact⟨h3,h4,λe=>h5 e.symm,by simp only;omega,h8⟩
 .rw[if_neg p0] at hx
  by_cases p1:n=r.f1
  .rw[if_pos p1,if_pos h1] at hx
   obtain rfl:=Option.some.inj hx
   subst p1
   exact⟨h1,h2,h5,by simp only;omega,h8⟩
  .rw[if_neg p1] at hx
   cases hx
theorem yC{N:Nat}{n:Int}{R:List dJ}(h:∀r ∈ R,o6 N r):∀x ∈ qR R n,0<=x.1/\x.1<N/\x.1≠n/\1<=x.2/\x.2<=50:=by
 intro x hx
 obtain⟨r,hr,he⟩:=List.mem_filterMap.1 hx
 exact Ns (h r hr) he
def Bounded(c:Nat->Int):Prop:=∀n,0<=c n/\c n<=1048576
theorem tN{p:Nat}{s:(Nat->Int)×(Nat->Int)}{x:Int×Int}(hs:Bounded s.1)(hx:1<=x.2):Bounded (oh p s x).1:=by
 intro n
 unfold oh
 by_cases h:s.1 p+x.2<s.1 x.1.toNat
 .rw[if_pos h]
  simp only[upd]
  by_cases e:n=x.1.toNat
  .rw[if_pos e]
   have h1:=hs p
   have h2:=hs x.1.toNat
   omega
  .rw[if_neg e]
   exact hs n
 .rw[if_neg h]
  exact hs n
theorem qL(N g:Nat):Bounded (vX N g).c:=by
 intro n
 simp only[vX]
 by_cases h:n=g
 .rw[if_pos h];omega
 .rw[if_neg h]
  by_cases h':n<N
  .rw[if_pos h'];omega
  .rw[if_neg h'];omega
theorem tT{p:Nat}(l:List (Int×Int)):∀(s:(Nat->Int)×(Nat->Int)),Bounded s.1->(∀x ∈ l,1<=x.2)->Bounded (l.foldl (oh p) s).1:=by
 induction l with
 |nil=>exact λs hs _=>hs
 |cons x l ih=>
  intro s hs hl
  rw[List.foldl_cons]
  exact ih _ (tN hs (hl x List.mem_cons_self)) (λy hy=>hl y (List.mem_cons_of_mem _ hy))
theorem tX{R:List dJ}{N:Nat}(hR:∀r ∈ R,o6 N r)(g i:Nat):Bounded (gW R N g i).c:=by
 induction i with
 |zero=>exact qL N g
 |succ i ih=>
  simp only[gW,vV]
  exact tT _ _ ih (λx hx=>(yC hR x hx).2.2.2.1)
def open_(st:Nat->Bool)(N:Nat):Nat:=((List.range N).filter λn=>!st n).length
theorem Ko(st:Nat->Bool)(N p:Nat)(hp:p<N)(hs:st p=false):open_ (upd st p true) N+1=open_ st N:=by
 unfold open_
 induction N with
 |zero=>omega
 |succ N ih=>
  rw[List.range_succ,List.filter_append,List.filter_append,List.length_append,List.length_append]
  by_cases e:p=N
  .subst e
   have h1:(List.range p).filter (λn=>!upd st p true n)=(List.range p).filter (λn=>!st n):=by
    apply List.filter_congr
    intro x hx
    rw[Bw _ _ _ _ (by have:=List.mem_range.1 hx;omega)]
   rw[h1]
   simp[upd_same,hs]
  .have:=ih (by omega)
   have h2:(upd st p true) N=st N:=Bw _ _ _ _ (by omega)
   have h3:(List.filter (λn=>!upd st p true n) [N]).length=(List.filter (λn=>!st n) [N]).length:=by
    simp only[List.filter_cons,List.filter_nil,h2]
   omega
theorem Em(st:Nat->Bool)(N:Nat)(h:∀j,j<N->st j=true):open_ st N=0:=by
 unfold open_
 rw[List.length_eq_zero_iff,List.filter_eq_nil_iff]
 intro a ha
 simp[h a (List.mem_range.1 ha)]
theorem Ng(N:Nat):open_ (λ_=>false) N=N:=by
 unfold open_
 rw[List.filter_eq_self.2 (by intros;rfl),List.length_range]
theorem zM(R:List dJ)(N g:Nat):∀i,i<=N->open_ (gW R N g i).st N=N-i
 |0,_=>Ng N
 |i+1,h=>by
  have ih:=zM R N g i (by omega)
  rcases ql (gW R N g i).st (gW R N g i).c N with⟨h1,h2⟩|⟨p,h1,h2,h3⟩
  .have:=Em _ N h2
   omega
  .have:=Ko _ N p h2 h3
   simp only[gW,vV]
   rw[h1,Int.toNat_natCast]
   omega
theorem zL(R:List dJ)(N g i:Nat)(hi:i<N):∃p:Nat,gI (gW R N g i).st (gW R N g i).c N=(p:Int)/\p<N/\(gW R N g i).st p=false:=by
 rcases ql (gW R N g i).st (gW R N g i).c N with⟨h1,h2⟩|h
 .have h3:=Em _ N h2
  have h4:=zM R N g i (by omega)
  omega
 .exact h
open Go.RowKit Go.Shelf ah YtdekaocdmjndaaaGreatW.aj YtdekaocdmjndaaaGreatW.aH
def mI(ops:Array Oper):Bool:=ops.all λo=>match o.op with | .defer _=>false|_=>true
theorem qm{ops:Array Oper}(h:mI ops=true){i:Nat}{o:Oper}(ho:ops[i]?=some o)(c:Call):o.op≠ .defer c:=by
 intro e
 obtain⟨hi,he⟩:=Array.getElem?_eq_some_iff.1 ho
 unfold mI at h
 rw[Array.all_eq_true] at h
 have:=h i hi
 rw[he,e] at this
 cases this
theorem jq{r n:Nat}{P:Program}{o:Oper}{a:Act}{K K':Act->World->Prop}{Q:Exit->Act->World->Prop}(hK:∀a w,K a w->K' a w){x:Result Next}(h:o.upon P a K Q x):o.uponIn (Fence.wide.inRound r) n P a K' Q x:=by
 have hno:(Fence.wide.inRound r).depth.isSome=true->1<=n:=λe=>absurd e (by simp[Fence.wide])
 cases x with
 |ok v w'=>
  cases v with
  |value v=>exact hK _ _ h
  |skip=>exact hK _ _ h
  |defer d=>exact hK _ _ h
  |enter f args=>exact⟨hno,CallsIn.inRound r (callsIn_wide.2 (Calls.mono h (λe w'' he=>by cases e<;>first|exact hK _ _ he|exact he)))⟩
  |row row args=>exact⟨hno,λc cs _=>Exists.elim (h c cs) λv h'=>Exists.elim h' λw'' h''=>⟨v,w'',hK _ _ h''.1,stepsIn_wide.2 h''.2⟩⟩
  |_=>exact h.elim
 |halt o w'=>
  cases o with
  |panic v=>exact h
  |_=>exact h.elim
theorem dS{r n:Nat}{P:Program}{ops:Array Oper}{Q:Exit->Act->World->Prop}(hd:mI ops=true)(hQ:¬LetsOut Q):∀(l:List Nat) (a:Act) (w:World),wpOps P ops Q l a w->wpOpsIn (Fence.wide.inRound r) n P ops Q l a w
 |[],a,w,h=>h
 |i::rest,a,w,h=>by
  unfold wpOps at h
  unfold wpOpsIn
  cases ho:ops[i]? with
  |none=>
   rw[ho] at h
   exact dS hd hQ rest a w h
  |some o=>
   rw[ho] at h
   simp only at h ⊢
   by_cases hw:Region.wanted o (yielded ops a.tmps)=true
   .rw[if_pos hw] at h ⊢
    rcases h with h|h
    .refine⟨λ_ _=>trivial,?_⟩
     rw[Oper.semAt_eq _ _ _ (qm hd ho)]
     exact jq (dS hd hQ rest) h
    .exact absurd h.2 hQ
   .rw[if_neg hw] at h ⊢
    exact⟨λ_ _=>trivial,dS hd hQ rest _ w h⟩
theorem mE{r m id n:Nat}{P:Program}{ops:Array Oper}{Q:Exit->Act->World->Prop}{S:World->Prop}{ds:List Nat}{a:Act}{w:World}(hQ:¬LetsOut Q)(hd:mI ops=true)(l:Array Bool)(hm:P.follows .mixedOrders=true)(hn:ops.size=n)(hl:Array.replicate n false=l)(hS:S w.drew)
  (h:S w.drew->aQ P .any ops Q S ds n l a w.drew):(Code.region id ops true).wpIn (Fence.wide.inRound r) m P Q a w:=by
 subst hn
 subst hl
 refine wpIn_region_draw λt=>dS hd hQ _ _ _ ?_
 simp only[Region.schedule,hm,Bool.true_or,if_true]
 exact wpAny_sound _ t _ a _ (lL _ _ _ _ (h hS))
end Go.Proofs.YtdekaocdmjndaaaGreat.Wk
