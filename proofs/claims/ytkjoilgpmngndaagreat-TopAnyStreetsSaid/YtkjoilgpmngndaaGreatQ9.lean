import Derived.CallsIn
import Derived.OrdersIn
import Derived.RangeFuncFrom
import Derived.Test.YtkjoilgpmngndaaGreatQ8
set_option linter.all false
namespace Go.Proofs.YtkjoilgpmngndaaGreat
open Go.RowKit Go.Shelf Go.Proofs.YtkjoilgpmngndaaGreat.av Go.Proofs.YtkjoilgpmngndaaGreatW.aA
attribute [local go_sem] Oper.semAt_some
abbrev IS:Type:=Nat×bH
def dI(ss:List bH)(old:Int)(k:Nat):List IS:=((List.range k).filter (fun i=>(aG ss i).f0==old)).map (fun i=>(i,aG ss i))
theorem PQ(ss:List bH)(old:Int)(k:Nat):dI ss old (k+1)=if(aG ss k).f0=old then dI ss old k++[(k,aG ss k)] else dI ss old k:=by
 unfold dI
 rw[List.range_succ,List.filter_append,List.map_append]
 by_cases h:(aG ss k).f0=old
 .rw[if_pos h]
  simp[List.filter_cons,h]
 .rw[if_neg h]
  simp[List.filter_cons,h]
theorem Az(ss:List bH)(old:Int)(k:Nat):(dI ss old k).length<=k:=by
 unfold dI
 rw[List.length_map]
 have:=List.length_filter_le (fun i=>(aG ss i).f0==old) (List.range k)
 rwa [List.length_range] at this
def encS(x:bH):Value:= .agg #[.int .i64 x.f0,.int .i64 x.f1,.int .i64 x.f2,.int .i64 x.f3.f0,.int .i64 x.f3.f1]
def Ky(x:IS):Array Value:=#[.int .i64 (x.1:Int),encS x.2]
structure zD(n₀:Nat)(S:Nat->Prop)(W:World)(gm gn:Nat)(u0 u1 u3:Value)(A2:Option Addr)(c2:Nat)(ss:List bH)(old:Int):Prop where
 m:aR W gm [u0,u1,.slice A2 ss.length c2,u3] 43
 n:W.cell? ⟨gn,0,none⟩=some (.int .i64 old)
 zm:Kd.C uB W A2 ss.length ss
 lm:gm<n₀/\¬S gm
 ln:gn<n₀/\¬S gn
 lr:0<ss.length->∀ad,A2=some ad->ad.block<n₀/\¬S ad.block
theorem Dz{n₀:Nat}{S:Nat->Prop}{W W':World}{A2:Option Addr}{ss:List bH}(h:Kd.C uB W A2 ss.length ss)(hl:0<ss.length->∀ad,A2=some ad->ad.block<n₀/\¬S ad.block)(k:bq n₀ S W W')(i:Nat)(hi:i<ss.length):
  ∃ad,A2=some ad/\W'.cell? (ad.add (i*5))=some (.int .i64 (fI ss i).f0)/\W'.cell? ⟨(ad.add (i*5)).block,(ad.add (i*5)).off+1,none⟩=some (.int .i64 (fI ss i).f1)/\W'.cell? ⟨(ad.add (i*5)).block,(ad.add (i*5)).off+2,none⟩=some (.int .i64 (fI ss i).f2)/\W'.cell? ⟨(ad.add (i*5)).block,(ad.add (i*5)).off+3,none⟩=some (.int .i64 (fI ss i).f3.f0)/\W'.cell? ⟨(ad.add (i*5)).block,(ad.add (i*5)).off+4,none⟩=some (.int .i64 (fI ss i).f3.f1):=by
 obtain⟨ad,e,h0,h1,h2,h3,h4⟩:=qO h i (by omega) (by omega)
 simp only[Int.toNat_natCast] at h0 h1 h2 h3 h4
 obtain⟨hl1,hl2⟩:=hl (by omega) ad e
 have hbk:(ad.add (i*5)).block=ad.block:=by unfold Addr.add;split<;>rfl
 refine⟨ad,e,?_,?_,?_,?_,?_⟩
 .rw[k.cell (by rw[hbk];exact hl1) (by rw[hbk];exact hl2)];exact h0
 .rw[k.cell (by simp only[hbk];exact hl1) (by simp only[hbk];exact hl2)];exact h1
 .rw[k.cell (by simp only[hbk];exact hl1) (by simp only[hbk];exact hl2)];exact h2
 .rw[k.cell (by simp only[hbk];exact hl1) (by simp only[hbk];exact hl2)];exact h3
 .rw[k.cell (by simp only[hbk];exact hl1) (by simp only[hbk];exact hl2)];exact h4
theorem jC{β:Type}{B:Nat}{J:β->World->Prop}(h:AbidesFrom B J){s:β}{W:World}(o:Obj)(hj:J s W):J s (W.alloc o):=
 h s W _ none hj (jV (ae (Below.refl _ _) o) none) (by simp)
set_option maxRecDepth 100000 in
set_option maxHeartbeats 4000000 in
theorem Zv(F:Fence)(n:Nat)(hf:F.fn 96)(hro:F.round=none)(hn:1<=n)(l gm gn n₀:Nat)(S:Nat->Prop)(u0 u1 u3:Value)(A2:Option Addr)(c2:Nat)(ss:List bH)(old:Int)(qB:ss.length<=281474976710656)
  (J Jx:List IS->World->Prop) (B:Nat) (hJA:AbidesFrom B J)
  (hY:∀pre k W,k<ss.length->(aG ss k).f0=old->pre=dI ss old k->J pre W->YieldAt F (n-1) Tryz.prog l (Ky (k,aG ss k)) W fun e W'=>
   (e= .returned (.bool true)/\J (pre++[(k,aG ss k)]) W'/\bq n₀ S W W')\/(e= .returned (.bool false)/\Jx (pre++[(k,aG ss k)]) W'))
  (W:World) (hW:n₀<=W.heap.size) (hR:zD n₀ S W gm gn u0 u1 u3 A2 c2 ss old) (h0:J [] W):
  CallsIn F n Tryz.prog 96 #[.func (.yield l) #[] #[],.pointer (some ⟨gm,0,none⟩),.pointer (some ⟨gn,0,none⟩)] W fun e W'=>(∃v,e= .returned v) /\
   ((∃ys,ys=dI ss old ss.length/\J ys W')\/(∃pre,True/\Jx pre W')):=by
 have HR:=aa.mk hR
 have HY:=aa.mk hY
 have HJA:=aa.mk hJA
 have hz2:=hR.m.cell 2
 simp only[List.getElem?_cons_zero,List.getElem?_cons_succ] at hz2
 clear hR hY hJA
 refine callsIn_of_wp Tryz.func96 rfl hf ?_ hro
 simp only[Tryz.ntmps96,List.size_toArray,List.length_cons,List.length_nil,Nat.reduceAdd,Nat.reduceSub,Array.replicate_succ,Array.replicate_zero,List.push_toArray,List.append_toArray,List.nil_append,List.cons_append]
 gi_wp2
 gi_loopw [9] (fun i wr=>∃k:Nat,k<=ss.length/\i= .int .i64 k/\aa (J (dI ss old k) wr)/\aa (bq n₀ S W wr))
  (fun i _=>ss.length-(intOf i).toNat)
 case atStart=>exact⟨0,Nat.zero_le _,rfl,⟨h0⟩,⟨bq.refl _ _ _⟩⟩
 case round=>
  obtain⟨k,hk,rfl,HJ,HK⟩:=hrel
  by_cases hlt:k<ss.length
  .obtain⟨ad,e,h0,h1,h2,h3,h4⟩:=Dz HR.out.zm HR.out.lr HK.out k hlt
   cases e
   have hyy:=HY.out (dI ss old k) k
   have hst:=PQ ss old k
   have hrr:aG ss k=fI ss (k:Int):=rfl
   rw[hrr] at hyy hst
   obtain⟨r,hr⟩:∃r,fI ss (k:Int)=r:=⟨_,rfl⟩
   rw[hr] at h0 h1 h2 h3 h4 hyy hst
   have HYY:=aa.mk hyy
   clear hr hrr hyy
   have hgn:=(HK.out.cell (p:=⟨gn,0,none⟩) HR.out.ln.1 HR.out.ln.2).trans HR.out.n
   have ajv:gn<wr.heap.size:=World.block_lt_of_cell? _ _ hgn
   have YJ:=aa.mk (Nat.le_trans hW HK.out.size)
   have HJ2:=aa.mk (jC HJA.out (.cells #[.int .i64 r.f0,.int .i64 r.f1,.int .i64 r.f2,.int .i64 r.f3.f0,.int .i64 r.f3.f1] 105) HJ.out)
   by_cases p0:r.f0=old
   .have XN:(r.f0==old)=true:=beq_iff_eq.2 p0
    rw[if_pos p0] at hst
    have HST:=aa.mk hst
    obtain⟨fn,tmps,assign,body,hy,hRR⟩:=HYY.out _ hlt p0 rfl HJ2.out
    dsimp only[Ky,encS] at hy
    clear p0 hst
    gi_wp2_with fail
    refine hRR.mono ?_
    rintro e W3 (⟨rfl,hJ3,hk3⟩|⟨rfl,hJx3⟩)
    .gi_wp2_with fail
     go_roundw
     case rel=>exact⟨k+1,by omega,by go_num,⟨by rw[HST.out];exact hJ3⟩,⟨(HK.out.alloc YJ.out _).trans hk3⟩⟩
     case measure=>simp[intOf];omega
    .gi_wp2_with fail
     refine bodyPost_ret (results_none rfl _ _ _) rfl ?_
     exact⟨⟨_,rfl⟩,.inr ⟨_,trivial,hJx3⟩⟩
   .have XN:(r.f0==old)=false:=beq_eq_false_iff_ne.2 p0
    rw[if_neg p0] at hst
    have HST:=aa.mk hst
    clear p0 hst
    gi_wp2_with fail
    refine⟨fun _ h=>(by cases h),?_⟩
    gi_wp2_with fail
    go_roundw
    case rel=>exact⟨k+1,by omega,by go_num,⟨by rw[HST.out];exact HJ2.out⟩,⟨HK.out.alloc YJ.out _⟩⟩
    case measure=>simp[intOf];omega
  .obtain rfl:k=ss.length:=by omega
   gi_wp2
   go_end0
   exact⟨⟨_,rfl⟩,.inl ⟨_,rfl,HJ.out⟩⟩
def xB(ss:List bH)(old:Int)(x:IS):Prop:=x.1<ss.length/\x.2=aG ss x.1/\x.2.f0=old
theorem JK(F:Fence)(n:Nat)(hf:F.fn 96)(hro:F.round=none)(hn:1<=n)(gm gn n₀:Nat)(S:Nat->Prop)(u0 u1 u3:Value)(A2:Option Addr)(c2:Nat)(ss:List bH)(old:Int)(qB:ss.length<=281474976710656)
  (w:World) (hw:n₀<=w.heap.size) (hR:zD n₀ S w gm gn u0 u1 u3 A2 c2 ss old):
  SeqStopsK F n Tryz.prog 96 #[.pointer (some ⟨gm,0,none⟩),.pointer (some ⟨gn,0,none⟩)] (fun x:{x // xB ss old x}=>Ky x.1) (bq n₀ S) (fun ys=>ys.map (·.1)=dI ss old ss.length) (fun _=>True) ss.length w:=fun l J Jx W hW hJ hJx hY h0=>by
 have hk:bq n₀ S w W:=bq.of_below hW hw
 refine(Zv F n hf hro hn l gm gn n₀ S u0 u1 u3 A2 c2 ss old qB (fun pre W=>∃ys:List {x // xB ss old x},ys.map (·.1)=pre/\J ys W) (fun pre W=>∃ys:List {x // xB ss old x},ys.map (·.1)=pre/\Jx ys W) W.heap.size ?_ ?_ W (Nat.le_trans hw hW.size) ?_ ⟨[],rfl,h0⟩).mono ?_
 .rintro s A B row ⟨ys,e,hj⟩ hg hr
  exact⟨ys,e,hJ ys A B row hj hg hr⟩
 .rintro pre k W' hkl hko he ⟨ys,rfl,hj⟩
  have hlen:ys.length<ss.length:=by
   have:=Az ss old k
   rw[<- he,List.length_map] at this
   omega
  refine(hY ys ⟨(k,aG ss k),hkl,rfl,hko⟩ W' hj hlen).mono ?_
  rintro e W'' (⟨rfl,h1,h2⟩|⟨rfl,h1⟩)
  .exact .inl ⟨rfl,⟨_,by simp,h1⟩,h2⟩
  .exact .inr ⟨rfl,⟨_,by simp,h1⟩⟩
 .exact⟨((hk.block gm hR.lm.1 hR.lm.2).trans hR.m),(hk.cell (p:=⟨gn,0,none⟩) hR.ln.1 hR.ln.2).trans hR.n,Kd.aK hR.zm hW,hR.lm,hR.ln,hR.lr⟩
 .rintro e W' ⟨hv,⟨ys,he,zs,h1,h2⟩|⟨pre,_,zs,h1,h2⟩⟩
  .exact⟨hv,.inl ⟨zs,h1.trans he,h2⟩⟩
  .exact⟨hv,.inr ⟨zs,trivial,h2⟩⟩
theorem JL(F:Fence)(n:Nat)(hf:F.fn 52)(hro:F.round=none)(u0 u1 u2 u3:Value)(old:Int)(hu0:u0.cells=#[u0])(hu1:u1.cells=#[u1])(hu2:u2.cells=#[u2])(hu3:u3.cells=#[u3])(w:World):
  CallsIn F n Tryz.prog 52 #[.agg #[u0,u1,u2,u3],.int .i64 old] w fun e w'=>e= .returned (.func (.func 96) #[] #[.pointer (some ⟨w.heap.size,0,none⟩),.pointer (some ⟨w.heap.size+1,0,none⟩)]) /\
   w'=(w.alloc (.cells #[u0,u1,u2,u3] 43)).alloc (.cells #[.int .i64 old] 3):=by
 refine callsIn_of_wp Tryz.func52 rfl hf ?_ hro
 simp only[Tryz.ntmps52,List.size_toArray,List.length_cons,List.length_nil,Nat.reduceAdd,Nat.reduceSub,Array.replicate_succ,Array.replicate_zero,List.push_toArray,List.append_toArray,List.nil_append,List.cons_append]
 gi_wp2
 go_ret
 exact⟨rfl,rfl⟩
end Go.Proofs.YtkjoilgpmngndaaGreat
namespace Go.Proofs.YtkjoilgpmngndaaGreat
open Go.RowKit Go.Shelf Go.Proofs.YtkjoilgpmngndaaGreat.av Go.Proofs.YtkjoilgpmngndaaGreatW.aA Go.Proofs.YtkjoilgpmngndaaGreatW.aJ
def Marks(lo:Nat)(W:World):List Deferred->Prop
 |[]=>True
 |d::ds=>(∃D,d={target:= .collected D,args:=#[]}/\lo<=D/\W.heap[D]?=some (.deferred (some []))/\∀d' ∈ ds,d'.target≠ .collected D)/\Marks lo W ds
theorem Marks.move{lo:Nat}{W W':World}(hm:∀D:Nat,W.heap[D]?=some (Obj.deferred (some []))->W'.heap[D]?=some (Obj.deferred (some []))):∀{ds:List Deferred},Marks lo W ds->Marks lo W' ds
 |[],_=>trivial
 |_::_,⟨⟨D,h1,h2,h3,h4⟩,h5⟩=>⟨⟨D,h1,h2,hm D h3,h4⟩,Marks.move hm h5⟩
theorem Marks.alloc{lo:Nat}{W:World}{ds:List Deferred}(h:Marks lo W ds)(o:Obj):Marks lo (W.alloc o) ds:=Marks.move (fun D hd=>aQ hd o) h
theorem Marks.drewN{lo:Nat}{W:World}{ds:List Deferred}(h:Marks lo W ds)(n:Nat):Marks lo (W.drewN n) ds:=Marks.move (W:=W) (W':=W.drewN n) (fun _ hd=>hd) h
theorem Marks.drew{lo:Nat}{W:World}{ds:List Deferred}(h:Marks lo W ds):Marks lo W.drew ds:=Marks.move (W:=W) (W':=W.drew) (fun _ hd=>hd) h
theorem Marks.setCell{lo:Nat}{W:World}{ds:List Deferred}(h:Marks lo W ds)(p:Addr)(u:Value):Marks lo (W.setCell p u) ds:=by
 refine Marks.move (fun D hd=>?_) h
 simp only[World.setCell,Array.getElem?_modify]
 by_cases e:p.block=D
 .rw[if_pos e,hd]
  rfl
 .rw[if_neg e]
  exact hd
def uP(F:Fence)(n:Nat)(P:Program)(fn:Func)(R:Ending->World->Prop):Exit->Act->World->Prop
 | .normal,a,w | .ret,a,w=>LeavesInM F n P fn a.tmps R a.defers .returning w
 |_,_,_=>False
theorem dx{P:Program}{F:Fence}{n:Nat}{f:FuncId}{fn:Func}{c:Code}{args:Array Value}{w:World}{R:Ending->World->Prop}
  (hf:P.funcs[f]?=some fn) (hb:fn.body=some c) (hF:F.fn f)
  (h:c.wpIn F n P (uP F n P fn R) {tmps:=args++Array.replicate (fn.ntmps-args.size) undef,defers:=[]} w) (hro:F.round=none:=by rfl):CallsIn F n P f args w R:=
 callsIn_of_wp_marks hf hb hF (wpIn_mono h (fun e a w hq=>by cases e<;>first|exact hq|exact hq.elim)) hro
theorem aR.kept{wr W':World}{g:Nat}{cs:List Value}{t:TypeId}(h:aR wr g cs t){B:Nat}{row:Option Nat}(hB:g<B)(hg:wr.grownBy W' row)(hr:∀r,row=some r->B<=r):aR W' g cs t:=
 h.move (hg.block g h.lt (fun e=>by have:=hr g e.symm;omega))
def fH(a b:World):Prop:=∀D:Nat,a.heap[D]?=some (Obj.deferred (some []))->b.heap[D]?=some (Obj.deferred (some []))
theorem fH.refl(a:World):fH a a:=fun _ h=>h
theorem fH.setCell{a b:World}(h:fH a b)(p:Addr)(u:Value):fH a (b.setCell p u):=fun D hd=>(KeepsOthers.setCell b p u).same D _ (h D hd) rfl
theorem fH.drew{a b:World}(h:fH a b):fH a b.drew:=h
theorem fH.kept{a b c:World}(h:fH a b){B:Nat}{row:Option Nat}(hB:a.heap.size<=B)(hg:b.grownBy c row)(hr:∀r,row=some r->B<=r):fH a c:=fun D hd=>by
 have h1:D<a.heap.size:=(Array.getElem?_eq_some_iff.1 hd).1
 have h2:D<b.heap.size:=(Array.getElem?_eq_some_iff.1 (h D hd)).1
 exact(hg.block D h2 (fun e=>by have:=hr D e.symm;omega)).trans (h D hd)
theorem Marks.cons{lo:Nat}{a b:World}{ds:List Deferred}(h:Marks lo a ds)(hm:fH a b){D:Nat}(hD:a.heap.size<=D)(hlo:lo<=a.heap.size)(uW:b.heap[D]?=some (.deferred (some []))):Marks lo b ({target:= .collected D,args:=#[]}::ds):=by
 refine⟨⟨D,rfl,by omega,uW,?_⟩,Marks.move hm h⟩
 clear uW hm hlo
 induction ds with
 |nil=>exact fun d hd=>by cases hd
 |cons d ds ih=>
  obtain⟨⟨D',rfl,h2,h3,h4⟩,h5⟩:=h
  have h6:D'<a.heap.size:=(Array.getElem?_eq_some_iff.1 h3).1
  intro d' hd'
  rcases List.mem_cons.1 hd' with rfl|hd'
  .simp only[ne_eq,Target.collected.injEq]
   omega
  .exact ih h5 d' hd'
theorem bL(W:World){D k:Nat}(o:Obj)(h:k≠D):(W.putObj D o).heap[k]?=W.heap[k]?:=World.putObj_heap_other h
theorem Marks.put{lo:Nat}{W:World}{D:Nat}(o:Obj):∀{ds:List Deferred},Marks lo W ds->(∀d' ∈ ds,d'.target≠ .collected D)->Marks lo (W.putObj D o) ds
 |[],_,_=>trivial
 |d::ds,⟨⟨D',h1,h2,h3,h4⟩,h5⟩,hd=>by
  refine⟨⟨D',h1,h2,?_,h4⟩,Marks.put o h5 (fun d' hd'=>hd d' (List.mem_cons_of_mem _ hd'))⟩
  rw[bL W o (by rintro rfl;exact hd d List.mem_cons_self (by rw[h1]))]
  exact h3
theorem Marks.leaves{lo:Nat}{F:Fence}{n:Nat}{P:Program}{fn:Func}{tmps:Array Value}{R:Ending->World->Prop}{Inv:World->Prop}(hInv:∀(W:World) (D:Nat),lo<=D->W.heap[D]?=some (.deferred (some []))->Inv W->Inv (W.putObj D (.deferred none)))
  (hend:∀W,Inv W->LeavesIn F n P fn tmps R [] .returning W):∀(ds:List Deferred) (W:World),Marks lo W ds->Inv W->LeavesInM F n P fn tmps R ds .returning W
 |[],W,_,hi=>hend W hi
 |d::ds,W,⟨⟨D,h1,h2,h3,h4⟩,h5⟩,hi=>⟨by simp,.inl ⟨D,_,by rw[h1],run_takeDeferred h3,Marks.leaves hInv hend ds _ (h5.put _ h4) (hInv W D h2 h3 hi)⟩⟩
theorem Lm(t:Array Value)(i j:Tmp)(a b:Value):(#[i,j].zip #[a,b]).foldl (fun t (p,v)=>t.setIfInBounds p v) t=(t.setIfInBounds i a).setIfInBounds j b:=by simp
theorem Ae{F:Fence}{n:Nat}{P:Program}{α:Type}{g:Operand}{ps:Array Tmp}{assign body:Code}{Q:Exit->Act->World->Prop}{a:Act}{w:World}
  (hro:F.round=none) (h1:1<=n) {gf:Nat} {lb:Array Value} (hg:a.eval g= .func (.func gf) #[] lb) (hFg:F.fn gf) (eg:∀args w,(callFunc gf args).run P w= .ok (.enter gf args) w)
  {encs:α->Array Value} {Kp:World->World->Prop} {S Sp:List α->Prop} {N:Nat} (hseq:SeqStopsK F (n-1) P gf lb encs Kp S Sp N w)
  (hKt:∀{A B C:World},Kp A B->Kp B C->Kp A C) (hKb:∀(W:World) (l:Nat) (o o':Obj),w.heap.size<=l->W.heap[l]?=some o->o.isCells=false->o.isWalk=false->Kp W (W.putObj l o')) (hps:∀x,(encs x).size=ps.size)
  (fz f:Array Value->α->Array Value) (hz:∀t x,(ps.zip (encs x)).foldl (fun t (p,v)=>t.setIfInBounds p v) t=fz t x) (I:List α->World->Prop) (hI:OwnFrom w.heap.size I) (h0:I [] w)
  (hassign:∀(l:Nat) (x:α) (W:World) (K:Act->World->Prop),K {tmps:=f a.tmps x,defers:=[]} W ->
   assign.wpIn (F.inRound l) (n-1-1) P (Exit.then K (fun _ _ _=>False)) {tmps:=fz a.tmps x,defers:=[]} W)
  (hbody:∀(l:Nat) (pre:List α) (x:α) (W:World),I pre W->pre.length<N->body.wpIn (F.inRound l) (n-1-1) P (ownPostK Kp I (fun _ _ _=>False) (pre++[x]) W) {tmps:=f a.tmps x,defers:=[]} W)
  (hdone:∀(D:Nat) (xs:List α) (W:World),w.heap.size<=D->S xs->I xs W->W.heap[D]?=some (.deferred (some []))->Q .normal {a with defers:={target:= .collected D,args:=#[]}::a.defers} W):
  (Code.rangeFunc g ps assign body).wpIn F n P Q a w:=
 wpIn_rangeFunc_ownF hro h1 hg hFg eg hseq (fun h k=>hKt h k) hKb (Below.refl _ _) hps I (fun _ _ _=>False) hI (fun _ _ _ _ _ h=>h.elim) h0 (fun x=>{tmps:=f a.tmps x,defers:=[]}) (fun l x W K hK=>by rw[hz];exact hassign l x W K hK) hbody hdone (fun _ _ _ _ _ _ h=>h.elim)
def nD(ops:Array Oper):Bool:=ops.all fun o=>match o.op with | .defer _=>false|_=>true
theorem qy{ops:Array Oper}(h:nD ops=true){i:Nat}{o:Oper}(ho:ops[i]?=some o)(c:Call):o.op≠ .defer c:=by
 intro e
 obtain⟨hi,he⟩:=Array.getElem?_eq_some_iff.1 ho
 unfold nD at h
 rw[Array.all_eq_true] at h
 have:=h i hi
 rw[he,e] at this
 cases this
theorem jS{r n:Nat}{P:Program}{o:Oper}{a:Act}{K K':Act->World->Prop}{Q:Exit->Act->World->Prop}(hK:∀a w,K a w->K' a w){x:Result Next}(h:o.upon P a K Q x):o.uponIn (Fence.wide.inRound r) n P a K' Q x:=by
 have hno:(Fence.wide.inRound r).depth.isSome=true->1<=n:=fun e=>absurd e (by simp[Fence.wide])
 cases x with
 |ok v w'=>
  cases v with
  |value v=>exact hK _ _ h
  |skip=>exact hK _ _ h
  |defer d=>exact hK _ _ h
  |enter f args=>exact⟨hno,CallsIn.inRound r (callsIn_wide.2 (Calls.mono h (fun e w'' he=>by cases e<;>first|exact hK _ _ he|exact he)))⟩
  |row row args=>exact⟨hno,fun c cs _=>Exists.elim (h c cs) fun v h'=>Exists.elim h' fun w'' h''=>⟨v,w'',hK _ _ h''.1,stepsIn_wide.2 h''.2⟩⟩
  |_=>exact h.elim
 |halt o w'=>
  cases o with
  |panic v=>exact h
  |_=>exact h.elim
theorem eG{r n:Nat}{P:Program}{ops:Array Oper}{Q:Exit->Act->World->Prop}(hd:nD ops=true)(hQ:¬LetsOut Q):∀(l:List Nat) (a:Act) (w:World),wpOps P ops Q l a w->wpOpsIn (Fence.wide.inRound r) n P ops Q l a w
 |[],a,w,h=>h
 |i::rest,a,w,h=>by
  unfold wpOps at h
  unfold wpOpsIn
  cases ho:ops[i]? with
  |none=>
   rw[ho] at h
   exact eG hd hQ rest a w h
  |some o=>
   rw[ho] at h
   simp only at h ⊢
   by_cases hw:Region.wanted o (yielded ops a.tmps)=true
   .rw[if_pos hw] at h ⊢
    rcases h with h|h
    .refine⟨fun _ _=>trivial,?_⟩
     rw[Oper.semAt_eq _ _ _ (qy hd ho)]
     exact jS (eG hd hQ rest) h
    .exact absurd h.2 hQ
   .rw[if_neg hw] at h ⊢
    exact⟨fun _ _=>trivial,eG hd hQ rest _ w h⟩
theorem jN{r m id n:Nat}{P:Program}{ops:Array Oper}{Q:Exit->Act->World->Prop}{S:World->Prop}{ds:List Nat}{a:Act}{w:World}(hQ:¬LetsOut Q)(hd:nD ops=true)(l:Array Bool)(hm:P.follows .mixedOrders=true)(hn:ops.size=n)(hl:Array.replicate n false=l)(hS:S w.drew)
  (h:S w.drew->bD P .any ops Q S ds n l a w.drew):(Code.region id ops true).wpIn (Fence.wide.inRound r) m P Q a w:=by
 subst hn
 subst hl
 refine wpIn_region_draw fun t=>eG hd hQ _ _ _ ?_
 simp only[Region.schedule,hm,Bool.true_or,if_true]
 exact wpAny_sound _ t _ a _ (mD _ _ _ _ (h hS))
theorem nP{w:World}{A2:Option Addr}{ss:List bH}(h:Kd.C uB w A2 ss.length ss)(h0:0<ss.length):∀ad,A2=some ad->ad.block<w.heap.size:=by
 intro ad e
 obtain⟨ad',e',h1,_⟩:=qO h ((0:Nat):Int) (by omega) (by omega)
 rw[e] at e'
 obtain rfl:=Option.some.inj e'
 have hbk:∀(d:Addr) (i:Nat),(d.add i).block=d.block:=fun d i=>by unfold Addr.add;split<;>rfl
 have:=World.block_lt_of_cell? _ _ h1
 rwa [hbk] at this
end Go.Proofs.YtkjoilgpmngndaaGreat
namespace Go.Proofs.YtkjoilgpmngndaaGreat
open Go.RowKit Go.Shelf Go.Proofs.YtkjoilgpmngndaaGreat.av Go.Proofs.YtkjoilgpmngndaaGreatW.aA Go.Proofs.YtkjoilgpmngndaaGreatW.aJ
def cellsS(x:bH):List Value:=[.int .i64 x.f0,.int .i64 x.f1,.int .i64 x.f2,.int .i64 x.f3.f0,.int .i64 x.f3.f1]
theorem qY(B:Nat)(W:World)(o:Obj):KeepsFrom B W (W.alloc o):=⟨by simp,fun k o' _ hk _=>aQ hk o⟩
theorem vK{g:Operand}{pa pb:Tmp}{assign body:Code}{Q:Exit->Act->World->Prop}{a:Act}{w:World}{n:Nat}(h1:1<=n)(hn:1<=n-1){gm gn:Nat}
  (hg:a.eval g= .func (.func 96) #[] #[.pointer (some ⟨gm,0,none⟩),.pointer (some ⟨gn,0,none⟩)])
  {n₀:Nat} {S:Nat->Prop} {u0 u1 u3:Value} {A2:Option Addr} {c2:Nat} {ss:List bH} {old:Int} (qB:ss.length<=281474976710656) (hw:n₀<=w.heap.size) (hR:zD n₀ S w gm gn u0 u1 u3 A2 c2 ss old)
  (fz:Array Value->IS->Array Value) (f:Array Value->IS->Nat->Array Value) (hz:∀t x,(#[pa,pb].zip (Ky x)).foldl (fun t (p,v)=>t.setIfInBounds p v) t=fz t x)
  (I:List IS->World->Prop) (hI:OwnFrom w.heap.size I) (hIs:∀xs W,I xs W->w.heap.size<=W.heap.size) (h0:I [] w)
  (hassign:∀(l:Nat) (x:IS) (W:World) (K:Act->World->Prop),xB ss old x->K {tmps:=f a.tmps x W.heap.size,defers:=[]} (W.alloc (.cells (cellsS x.2).toArray 105)) ->
   assign.wpIn (Fence.wide.inRound l) (n-1-1) Tryz.prog (Exit.then K (fun _ _ _=>False)) {tmps:=fz a.tmps x,defers:=[]} W)
  (hbody:∀(l:Nat) (pre:List IS) (x:IS) (g:Nat) (W:World),xB ss old x->pre.length<ss.length->I pre W->w.heap.size<=g->aR W g (cellsS x.2) 105->body.wpIn (Fence.wide.inRound l) (n-1-1) Tryz.prog (ownPostG w.heap.size (bq n₀ S) I (fun _ _ _=>False) (pre++[x]) W) {tmps:=f a.tmps x g,defers:=[]} W)
  (hdone:∀(D:Nat) (W:World),w.heap.size<=D->I (dI ss old ss.length) W->W.heap[D]?=some (.deferred (some []))->Q .normal {a with defers:={target:= .collected D,args:=#[]}::a.defers} W):
  (Code.rangeFunc g #[pa,pb] assign body).wpIn Fence.wide n Tryz.prog Q a w:=by
 refine wpIn_rangeFunc_ownH (α:={x // xB ss old x}) rfl h1 hg trivial (enters Tryz.func96 (by kernel_rfl) rfl)
  (JK Fence.wide (n-1) trivial rfl hn gm gn n₀ S u0 u1 u3 A2 c2 ss old qB w hw hR) (fun h k=>h.trans k) (zo hw) (Below.refl _ _) (fun _=>rfl)
  (fun(xs:List {x // xB ss old x}) W=>I (xs.map Subtype.val) W) (fun _ _ _=>False) (by intro xs W W' row h hgr hr;exact hI _ W W' row h hgr hr) (by intro _ _ _ _ _ h;exact h.elim) h0
  (fun x a' W=>∃g,w.heap.size<=g/\aR W g (cellsS x.1.2) 105/\a'={tmps:=f a.tmps x.1 g,defers:=[]}) ?_ ?_ ?_ ?_ (fun _ _ _ _ _ _ h=>h.elim)
 .rintro x a' _ W W' row ⟨g,hg1,hg2,rfl⟩ hgr hr
  refine⟨g,hg1,hg2.move (hgr.block g hg2.lt (fun e=>?_)),rfl⟩
  obtain⟨_,o,ho,hc⟩:=hr g e.symm
  rw[show W.heap[g]?=_ from hg2] at ho
  cases ho
  cases hc
 .intro l pre x W K hi hK
  rw[hz]
  exact hassign l x.1 W K x.2 (hK _ _ (qY _ _ _) (bq.of_below ((Below.refl W.heap.size W).alloc (Nat.le_refl _) _) (Nat.le_trans hw (hIs _ _ hi))) (hI.alloc _ hi) ⟨W.heap.size,hIs _ _ hi,aR.new W (cellsS x.1.2) 105,rfl⟩)
 .rintro l pre x a' W _ _ hi ⟨g,hg1,hg2,rfl⟩ hlen
  have:=hbody l (pre.map Subtype.val) x.1 g W x.2 (by rw[List.length_map];exact hlen) hi hg1 hg2
  refine wpIn_mono this ?_
  rintro e a3 W3 hp
  cases e<;>first|(rw[List.map_append];exact hp)|exact hp|simpa[ownPostG] using hp
 .intro D xs W hD hS hi uW
  refine hdone D W hD ?_ uW
  have:xs.map Subtype.val=dI ss old ss.length:=hS
  rw[this] at hi
  exact hi
end Go.Proofs.YtkjoilgpmngndaaGreat
namespace Go.Proofs.YtkjoilgpmngndaaGreat
open Go.RowKit Go.Shelf Go.Proofs.YtkjoilgpmngndaaGreat.av Go.Proofs.YtkjoilgpmngndaaGreatW.aA Go.Proofs.YtkjoilgpmngndaaGreatW.aJ
attribute [local go_sem] Oper.semAt_some
def mW(xs:List IS):Int:=(xs.map (fun x=>x.2.f2)).sum
theorem O9(xs:List IS)(x:IS):mW (xs++[x])=mW xs+x.2.f2:=by
 unfold mW
 rw[List.map_append,List.sum_append]
 simp
def jc(no:Nat)(ss:List bH):Bool:=(List.range no).all (fun d=>!(mW (dI ss (d:Int) ss.length)==0))
theorem Cg{no:Nat}{ss:List bH}(d:Nat)(hd:d<no)(h:mW (dI ss (d:Int) ss.length)=0):jc no ss=false:=by
 unfold jc
 rw[List.all_eq_false]
 exact⟨d,by simpa using hd,by simp[h]⟩
theorem Dx{no:Nat}{ss:List bH}(h:∀d:Nat,d<no->mW (dI ss (d:Int) ss.length)≠0):jc no ss=true:=by
 unfold jc
 rw[List.all_eq_true]
 intro d hd
 have:=h d (by simpa using hd)
 simpa using this
def Wt(xs:List IS):Prop:=∀x ∈ xs,0<=x.2.f2/\x.2.f2<=1000
theorem Lp{xs:List IS}(h:Wt xs):0<=mW xs/\mW xs<=1000*xs.length:=by
 unfold mW
 induction xs with
 |nil=>simp
 |cons x xs ih=>
  have h1:=h x List.mem_cons_self
  have h2:=ih (fun y hy=>h y (List.mem_cons_of_mem _ hy))
  simp only[List.map_cons,List.sum_cons,List.length_cons]
  omega
theorem kM(ss:List bH)(k:Nat)(h:k<ss.length):aG ss k ∈ ss:=by
 have:aG ss k=ss[k]:=by simp[aG,fI,List.getD,h]
 rw[this]
 exact List.getElem_mem h
set_option maxRecDepth 100000 in
set_option maxHeartbeats 40000000 in
theorem Ch{A0:Option Addr}{c0:Nat}{old:List Int}{nw:Int}{A2:Option Addr}{c2:Nat}{ss:List bH}{A3:Option Addr}{c3:Nat}{js:List bS}{w:World}(h:uX w A0 c0 old A2 c2 ss A3 c3 js)(hss:ss.length<=1000)(hold:old.length<=1000)(hwt:∀s ∈ ss,0<=s.f2/\s.f2<=1000):
  Calls Tryz.prog 92 #[.agg #[.slice A0 old.length c0,.int .i64 nw,.slice A2 ss.length c2,.slice A3 js.length c3]] w fun e w'=>e= .returned (.bool (jc old.length ss))/\Below w.heap.size w w':=by
 have H:=aa.mk h
 have HWT:=aa.mk hwt
 have hb2:=h.b2
 clear h hwt
 refine(callsIn_wide (n:=9)).1 (dx Tryz.func92 rfl trivial ?_ rfl)
 simp only[Tryz.ntmps92,List.size_toArray,List.length_cons,List.length_nil,Nat.reduceAdd,Nat.reduceSub,Array.replicate_succ,Array.replicate_zero,List.push_toArray,List.append_toArray,List.nil_append,List.cons_append]
 refine wpIn_wide.2 ?_
 go_wp2_with (with_reducible refine wpIn_wide.2 ?_)
 have HB:=aa.mk (ae (Below.refl w.heap.size w) (.cells #[.slice A0 old.length c0,.int .i64 nw,.slice A2 ss.length c2,.slice A3 js.length c3] 43))
 have B1:=aa.mk (aR.new w [.slice A0 old.length c0,.int .i64 nw,.slice A2 ss.length c2,.slice A3 js.length c3] 43)
 have hs0:w.heap.size<(w.alloc (.cells #[.slice A0 old.length c0,.int .i64 nw,.slice A2 ss.length c2,.slice A3 js.length c3] 43)).heap.size:=size_alloc _ _
 generalize w.alloc (.cells #[.slice A0 old.length c0,.int .i64 nw,.slice A2 ss.length c2,.slice A3 js.length c3] 43)=w0 at HB B1 hs0 ⊢
 refine wp_loop (fun a' wr=>∃(ds:List Deferred) (d:Nat),d<=old.length/\aa (∀j:Nat,j<d->mW (dI ss (j:Int) ss.length)≠0)/\aa (Below w.heap.size w wr)/\aa (aR wr w.heap.size [.slice A0 old.length c0,.int .i64 nw,.slice A2 ss.length c2,.slice A3 js.length c3] 43)/\aa (Marks w.heap.size wr ds)/\a'={tmps:=#[.agg #[.slice A0 old.length c0,.int .i64 nw,.slice A2 ss.length c2,.slice A3 js.length c3],.pointer (some ⟨w.heap.size,0,none⟩),.bool false,a'.tmps.getD 3 undef,a'.tmps.getD 4 undef,a'.tmps.getD 5 undef,a'.tmps.getD 6 undef,.pointer (some ⟨w.heap.size,0,none⟩),.slice A0 old.length c0,.int .i64 (old.length:Int),.int .i64 (d:Int),a'.tmps.getD 11 undef,a'.tmps.getD 12 undef,a'.tmps.getD 13 undef,a'.tmps.getD 14 undef,a'.tmps.getD 15 undef,a'.tmps.getD 16 undef,a'.tmps.getD 17 undef,a'.tmps.getD 18 undef,a'.tmps.getD 19 undef,a'.tmps.getD 20 undef,a'.tmps.getD 21 undef,a'.tmps.getD 22 undef,a'.tmps.getD 23 undef,a'.tmps.getD 24 undef],defers:=ds}) (fun a' _=>old.length-(intOf (a'.tmps.getD 10 undef)).toNat) ?start ?round
 case start=>exact⟨[],0,Nat.zero_le _,⟨fun j hj=>absurd hj (Nat.not_lt_zero _)⟩,HB,B1,⟨trivial⟩,rfl⟩
 case round=>
  clear HB B1 hs0
  rintro a' wr ⟨ds,d,hd,HJ,HB,B1,HM,hfr⟩
  obtain⟨u,hu⟩:∃u:Nat->Value,a'={tmps:=#[.agg #[.slice A0 old.length c0,.int .i64 nw,.slice A2 ss.length c2,.slice A3 js.length c3],.pointer (some ⟨w.heap.size,0,none⟩),.bool false,(u 3),(u 4),(u 5),(u 6),.pointer (some ⟨w.heap.size,0,none⟩),.slice A0 old.length c0,.int .i64 (old.length:Int),.int .i64 (d:Int),(u 11),(u 12),(u 13),(u 14),(u 15),(u 16),(u 17),(u 18),(u 19),(u 20),(u 21),(u 22),(u 23),(u 24)],defers:=ds}:=⟨fun i=>a'.tmps.getD i undef,hfr⟩
  clear hfr
  subst hu
  dsimp only
  by_cases hlt:d<old.length
  .have hg1:=B1.out.lt
   have h10:=B1.out.cell 0
   have h11:=B1.out.cell 1
   have h12:=B1.out.cell 2
   have mg:=B1.out.cell 3
   simp only[List.getElem?_cons_zero,List.getElem?_cons_succ] at h10 h11 h12 mg
   go_wp2_with (with_reducible refine wpIn_wide.2 ?_)
   have HB1:=aa.mk (ae HB.out (.cells #[.int .i64 0] 3))
   have B11:=aa.mk (B1.out.alloc (.cells #[.int .i64 0] 3))
   have B4:=aa.mk (aR.new wr [.int .i64 0] 3)
   have zG:=aa.mk (HM.out.alloc (.cells #[.int .i64 0] 3))
   have hs1:=size_alloc wr (.cells #[.int .i64 0] 3)
   clear HB B1 HM h10 h11 h12 mg
   generalize wr.alloc (.cells #[.int .i64 0] 3)=wa at HB1 B11 B4 zG hs1 ⊢
   generalize wr.heap.size=g4 at B4 hs1 hg1 ⊢
   refine((callsIn_wide (n:=8)).1 (JL Fence.wide 8 trivial rfl _ _ _ _ _ rfl rfl rfl rfl wa)).mono ?_
   rintro e w4 ⟨rfl,rfl⟩
   have HB2:=aa.mk (ae (ae HB1.out (.cells #[.slice A0 old.length c0,.int .i64 nw,.slice A2 ss.length c2,.slice A3 js.length c3] 43)) (.cells #[.int .i64 (d:Int)] 3))
   have BP:=aa.mk ((B11.out.alloc (.cells #[.slice A0 old.length c0,.int .i64 nw,.slice A2 ss.length c2,.slice A3 js.length c3] 43)).alloc (.cells #[.int .i64 (d:Int)] 3))
   have xO:=aa.mk ((B4.out.alloc (.cells #[.slice A0 old.length c0,.int .i64 nw,.slice A2 ss.length c2,.slice A3 js.length c3] 43)).alloc (.cells #[.int .i64 (d:Int)] 3))
   have I5:=aa.mk ((zG.out.alloc (.cells #[.slice A0 old.length c0,.int .i64 nw,.slice A2 ss.length c2,.slice A3 js.length c3] 43)).alloc (.cells #[.int .i64 (d:Int)] 3))
   have xC:=aa.mk ((aR.new wa [.slice A0 old.length c0,.int .i64 nw,.slice A2 ss.length c2,.slice A3 js.length c3] 43).alloc (.cells #[.int .i64 (d:Int)] 3))
   have uT:=aa.mk (aR.new (wa.alloc (.cells #[.slice A0 old.length c0,.int .i64 nw,.slice A2 ss.length c2,.slice A3 js.length c3] 43)) [.int .i64 (d:Int)] 3)
   simp only[World.size_alloc] at uT
   have hsz:((wa.alloc (.cells #[.slice A0 old.length c0,.int .i64 nw,.slice A2 ss.length c2,.slice A3 js.length c3] 43)).alloc (.cells #[.int .i64 (d:Int)] 3)).heap.size=wa.heap.size+1+1:=by simp
   clear HB1 B11 B4 zG
   generalize(wa.alloc (.cells #[.slice A0 old.length c0,.int .i64 nw,.slice A2 ss.length c2,.slice A3 js.length c3] 43)).alloc (.cells #[.int .i64 (d:Int)] 3)=w4 at HB2 BP xO I5 xC uT hsz ⊢
   obtain⟨gx,hgx⟩:∃gx,wa.heap.size=gx:=⟨_,rfl⟩
   rw[hgx] at xC uT hsz hs1 ⊢
   clear hgx
   have HC:=aa.mk (H.out.below HB2.out)
   have hlo:=nP H.out.Lg
   go_wp2_with (with_reducible refine wpIn_wide.2 ?_)
   refine(wpIn_wide (n:=9)).1 ?_
   refine vK (gm:=gx) (gn:=gx+1) (by decide) (by decide) rfl (n₀:=w4.heap.size) (S:=fun b=>b=g4) (u0:= .slice A0 old.length c0) (u1:= .int .i64 nw) (u3:= .slice A3 js.length c3) (A2:=A2) (c2:=c2) (ss:=ss) (old:=(d:Int)) hb2 (Nat.le_refl _) ?reads
    (fun t x=>(t.setIfInBounds 16 (.int .i64 (x.1:Int))).setIfInBounds 17 (encS x.2)) (fun t x g=>((t.setIfInBounds 16 (.int .i64 (x.1:Int))).setIfInBounds 17 (encS x.2)).setIfInBounds 6 (.pointer (some ⟨g,0,none⟩))) (fun t x=>Lm t 16 17 _ _)
    (fun pre W=>aa (aR W g4 [.int .i64 (mW pre)] 3)/\aa (Below w.heap.size w W)/\aa (aR W w.heap.size [.slice A0 old.length c0,.int .i64 nw,.slice A2 ss.length c2,.slice A3 js.length c3] 43)/\aa (fH w4 W)/\aa (w4.heap.size<=W.heap.size)/\aa (Wt pre)) ?own (fun xs W hi=>hi.2.2.2.2.1.out) ⟨xO,HB2,BP,⟨fH.refl _⟩,⟨Nat.le_refl _⟩,⟨fun x hx=>by cases hx⟩⟩ ?assign ?body ?done
   case reads=>exact⟨xC.out,by simpa using uT.out.cell 0,HC.out.Lg,⟨by omega,by omega⟩,⟨by omega,by omega⟩,fun h0 ad e=>⟨by have:=hlo h0 ad e;omega,by have:=hlo h0 ad e;omega⟩⟩
   case own=>
    rintro xs W W' row ⟨i1,i2,i3,i4,i5,i6⟩ hg hr
    have hr':=fun r e=>(hr r e).1
    have h5:=i5.out
    have hw2:=HB2.out.size
    exact⟨⟨i1.out.kept (B:=w4.heap.size) (by omega) hg hr'⟩,⟨i2.out.grown hg i2.out.size (fun k e=>by have:=hr' k e;omega)⟩,⟨i3.out.kept (B:=w4.heap.size) (by omega) hg hr'⟩,⟨i4.out.kept (Nat.le_refl _) hg hr'⟩,⟨Nat.le_trans h5 hg.size⟩,i6⟩
   case assign=>
    intro l x W K hx hK
    simp only[List.setIfInBounds_toArray,List.set_cons_zero,List.set_cons_succ,cellsS,encS] at hK ⊢
    gi_wp2_with fail
    exact hK
   case body=>
    rintro l pre x g W hx hlen ⟨i1,i2,i3,i4,i5,i6⟩ hg hBg
    simp only[List.setIfInBounds_toArray,List.set_cons_zero,List.set_cons_succ,encS]
    have hc4:=i1.out.cell 0
    have ajR:=i1.out.frozen 0
    have hgc:=hBg.cell 2
    simp only[List.getElem?_cons_zero,List.getElem?_cons_succ,cellsS] at hc4 hgc
    have Sg:0<=x.2.f2/\x.2.f2<=1000:=HWT.out _ (by rw[hx.2.1];exact kM ss x.1 hx.1)
    have hws:=Lp i6.out
    have hpl:(pre.length:Int)<1000:=by omega
    have hsum:wrap64 (mW pre+x.2.f2)=mW pre+x.2.f2:=IntWalk.wrap64_in _ (by omega)
    have hsn:=O9 pre x
    obtain⟨sm,hsm⟩:∃s,mW pre=s:=⟨_,rfl⟩
    rw[hsm] at hsum hc4 hsn
    have TY:=aa.mk hsn
    have HWX:=aa.mk Sg
    have h5:=i5.out
    have hgw:=hBg.lt
    clear hsn hsm hws hpl Sg
    gi_wp2_with fail
    refine⟨⟨by simp[World.setCell],fun k o hk ho hc=>(Below.heap_setCell _ _ _ _ (by simp only;omega)).trans ho⟩,(bq.refl w4.heap.size (fun b=>b=g4) W).setCell (p:=⟨g4,0,none⟩) (.inl rfl) _,⟨by rw[TY.out];exact bM i1.out 0 _⟩,⟨i2.out.setCell (p:=⟨g4,0,none⟩) (by simp only;omega) _⟩,⟨i3.out.move (Below.heap_setCell _ _ _ _ (by simp only;omega))⟩,⟨i4.out.setCell _ _⟩,⟨by rw[size_set];exact h5⟩,⟨fun y hy=>?_⟩⟩
    rcases List.mem_append.1 hy with hy|hy
    .exact i6.out y hy
    .obtain rfl:=List.mem_singleton.1 hy
     exact HWX.out
   case done=>
    rintro D W hD ⟨i1,i2,i3,i4,i5,i6⟩ uW
    have NP:=aa.mk (Marks.cons I5.out i4.out hD (by omega) uW)
    have hc4:=i1.out.cell 0
    simp only[List.getElem?_cons_zero] at hc4
    obtain⟨sm,hsm⟩:∃s,mW (dI ss (d:Int) ss.length)=s:=⟨_,rfl⟩
    rw[hsm] at hc4
    dsimp only
    by_cases h0:sm=0
    .have h0b:(sm==0)=true:=by simp[h0]
     have HF:=aa.mk (Cg d hlt (hsm.trans h0))
     clear h0 hsm
     go_wp2_with fail
     refine Marks.leaves (lo:=w.heap.size) (Inv:=fun W=>Below w.heap.size w W) (fun W D hlo hD hi=>hi.grown (grownBy_putObj' W D _) hi.size (fun k e=>by cases e;exact hlo)) (fun W hi=>?_) _ W NP.out i2.out
     refine⟨_,results_tmp rfl _ _ _,?_,hi⟩
     show Ending.returned (.bool false)=_
     rw[HF.out]
    .have h0b:(sm==0)=false:=by simp[h0]
     have HJ2:=aa.mk (fun(j:Nat) (hj:j<d+1)=>if h:j=d then(show mW (dI ss (j:Int) ss.length)≠0 by rw[h,hsm];exact h0) else HJ.out j (by omega))
     clear h0 hsm
     go_wp2_with fail
     refine⟨⟨_,d+1,by omega,HJ2,i2,i3,NP,rfl⟩,?_⟩
     show old.length-(intOf (.int .i64 ((d:Int)+1))).toNat<old.length-(intOf (.int .i64 (d:Int))).toNat
     simp[intOf]
     omega
  .obtain rfl:d=old.length:=by omega
   go_wp2_with (with_reducible refine wpIn_wide.2 ?_)
   refine Marks.leaves (lo:=w.heap.size) (Inv:=fun W=>Below w.heap.size w W) (fun W D hlo hD hi=>hi.grown (grownBy_putObj' W D _) hi.size (fun k e=>by cases e;exact hlo)) (fun W hi=>?_) ds wr HM.out HB.out
   refine⟨_,results_tmp rfl _ _ _,?_,hi⟩
   show Ending.returned (.bool true)=_
   rw[Dx HJ.out]
end Go.Proofs.YtkjoilgpmngndaaGreat
