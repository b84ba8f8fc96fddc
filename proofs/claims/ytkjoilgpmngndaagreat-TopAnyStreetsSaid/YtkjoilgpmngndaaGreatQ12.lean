import Derived.Test.YtkjoilgpmngndaaGreatQ11
set_option linter.all false
namespace Go.Proofs.YtkjoilgpmngndaaGreat
open Go.RowKit Go.Shelf Go.Proofs.YtkjoilgpmngndaaGreat.av Go.Proofs.YtkjoilgpmngndaaGreatW.aA Go.Proofs.YtkjoilgpmngndaaGreatW.aJ
attribute [local go_sem] Oper.semAt_some
def JB.T9:Bool×List (List Nat×List Nat):=(true,[([],[]),([],[]),([0,1],[0,1]),([2],[2]),([],[]),([4],[4]),([5],[5]),([],[]),([7],[7]),([8],[8]),([3,6,9],[3,6,9]),([10],[10])])
def JB.B9:List Nat:=[0,0,3,7,0,16,48,0,128,384,1023,2047]
theorem JB.Je:eu .any (opsOf Tryz.f18 9)=JB.T9:=by kernel_rfl
theorem JB.yS:bO JB.T9.2 JB.B9=true:=by kernel_rfl
def JB.TI:Bool×List (List Nat×List Nat):=(true,[([],[]),([],[]),([],[]),([1,2],[1,2]),([3],[3]),([0,4],[0,4]),([5,0,1,2,3,4,5],[5])])
def JB.B11:List Nat:=[0,0,0,6,14,31,63]
theorem JB.zS:eu .any (opsOf Tryz.f18 11)=JB.TI:=by kernel_rfl
theorem JB.uQ:bO JB.TI.2 JB.B11=true:=by kernel_rfl
theorem PC{g:Operand}{pa pb:Tmp}{assign body:Code}{Q:Exit->Act->World->Prop}{a:Act}{w:World}{n:Nat}(h1:1<=n)(hn:1<=n-1){gm gn:Nat}
  (hg:a.eval g= .func (.func 96) #[] #[.pointer (some ⟨gm,0,none⟩),.pointer (some ⟨gn,0,none⟩)])
  {n₀:Nat} {S:Nat->Prop} {u0 u1 u3:Value} {A2:Option Addr} {c2:Nat} {ss:List bH} {old:Int} (qB:ss.length<=281474976710656) (hw:n₀<=w.heap.size) (hR:zD n₀ S w gm gn u0 u1 u3 A2 c2 ss old)
  (fz:Array Value->IS->Array Value) (f:Array Value->IS->Nat->Array Value) (hz:∀t x,(#[pa,pb].zip (Ky x)).foldl (fun t (p,v)=>t.setIfInBounds p v) t=fz t x)
  (I:List IS->World->Prop) (IX:World->Prop) (hI:OwnFrom w.heap.size I) (hIX:OwnFrom w.heap.size (fun(_:Unit)=>IX)) (hIs:∀xs W,I xs W->w.heap.size<=W.heap.size) (h0:I [] w)
  (hassign:∀(l:Nat) (x:IS) (W:World) (K:Act->World->Prop),xB ss old x->K {tmps:=f a.tmps x W.heap.size,defers:=[]} (W.alloc (.cells (cellsS x.2).toArray 105)) ->
   assign.wpIn (Fence.wide.inRound l) (n-1-1) Tryz.prog (Exit.then K (fun _ _ _=>False)) {tmps:=fz a.tmps x,defers:=[]} W)
  (hbody:∀(l:Nat) (pre:List IS) (x:IS) (g:Nat) (W:World),xB ss old x->pre.length<ss.length->I pre W->w.heap.size<=g->aR W g (cellsS x.2) 105->body.wpIn (Fence.wide.inRound l) (n-1-1) Tryz.prog (ownPostG w.heap.size (bq n₀ S) I (fun c _ W=>c= .ret/\IX W) (pre++[x]) W) {tmps:=f a.tmps x g,defers:=[]} W)
  (hdone:∀(D:Nat) (W:World),w.heap.size<=D->I (dI ss old ss.length) W->W.heap[D]?=some (.deferred (some []))->Q .normal {a with defers:={target:= .collected D,args:=#[]}::a.defers} W)
  (hstop:∀(D:Nat) (W:World),w.heap.size<=D->IX W->W.heap[D]?=some (.deferred (some []))->Code.ret.wpIn Fence.wide n Tryz.prog Q {a with defers:={target:= .collected D,args:=#[]}::a.defers} W):
  (Code.rangeFunc g #[pa,pb] assign body).wpIn Fence.wide n Tryz.prog Q a w:=by
 refine wpIn_rangeFunc_ownH (α:={x // xB ss old x}) rfl h1 hg trivial (enters Tryz.func96 (by kernel_rfl) rfl)
  (JK Fence.wide (n-1) trivial rfl hn gm gn n₀ S u0 u1 u3 A2 c2 ss old qB w hw hR) (fun h k=>h.trans k) (zo hw) (Below.refl _ _) (fun _=>rfl)
  (fun(xs:List {x // xB ss old x}) W=>I (xs.map Subtype.val) W) (fun c _ W=>c= .ret/\IX W) (by intro xs W W' row h hgr hr;exact hI _ W W' row h hgr hr) (by rintro c xs W W' row ⟨h,h2⟩ hgr hr;exact⟨h,hIX () W W' row h2 hgr hr⟩) h0
  (fun x a' W=>∃g,w.heap.size<=g/\aR W g (cellsS x.1.2) 105/\a'={tmps:=f a.tmps x.1 g,defers:=[]}) ?_ ?_ ?_ ?_ ?_
 .rintro x a' _ W W' row ⟨g,hg1,hg2,rfl⟩ hgr hr
  refine⟨g,hg1,hg2.move (hgr.block g hg2.lt (fun e=>?_)),rfl⟩
  obtain⟨_,o,ho,hc⟩:=hr g e.symm
  rw[show W.heap[g]?=_ from hg2] at ho
  cases ho
  cases hc
 .intro l pre x W K hi hK
  rw[hz]
  exact hassign l x.1 W K x.2 (hK _ _ (qY _ _ _) (bq.of_below ((Below.refl W.heap.size W).alloc (Nat.le_refl _) _) (Nat.le_trans hw (hIs _ _ hi))) (hI.alloc _ hi) ⟨W.heap.size,hIs _ _ hi,aR.new W (cellsS x.1.2) 105,rfl⟩)
 .rintro l pre x a' W _ _ hi ⟨g,hg1,hg2,rfl⟩ hlen
  have:=hbody l (pre.map Subtype.val) x.1 g W x.2 (by rw[List.length_map];exact hlen) hi hg1 hg2
  refine wpIn_mono this ?_
  rintro e a3 W3 hp
  cases e<;>first|(rw[List.map_append];exact hp)|exact hp|simpa[ownPostG] using hp
 .intro D xs W hD hS hi uW
  refine hdone D W hD ?_ uW
  have:xs.map Subtype.val=dI ss old ss.length:=hS
  rw[this] at hi
  exact hi
 .rintro D c pre W hD _ ⟨rfl,hix⟩ uW
  exact hstop D W hD hix uW
theorem xB.mem{ss:List bH}{old:Int}{x:IS}(h:xB ss old x):x ∈ dI ss old ss.length:=by
 unfold dI
 rw[List.mem_map]
 refine⟨x.1,?_,by rw[<- h.2.1]⟩
 rw[List.mem_filter,List.mem_range]
 exact⟨h.1,by rw[<- h.2.1];simpa using h.2.2⟩
def nC(ps:List Int)(xs:List IS):Int:=(xs.map (fun x=>rd ps (x.1:Int))).sum
theorem PG(ps:List Int)(xs:List IS)(x:IS):nC ps (xs++[x])=nC ps xs+rd ps (x.1:Int):=by
 unfold nC
 rw[List.map_append,List.sum_append]
 simp
def MX(ps:List Int)(x:IS):Bool:=aY (rd ps (x.1:Int)) x.2.f3.f0 x.2.f3.f1
def kK(old:List Int)(nw:Int)(ss:List bH)(js:List bS)(ps:List Int):Bool:=
 decide (gU old nw ss js=0)&&(decide (ps.length=ss.length)&&(List.range old.length).all (fun d=>(dI ss (d:Int) ss.length).all (MX ps)&&(rd old (d:Int)-nC ps (dI ss (d:Int) ss.length)==0)))
def PIn(ps:List Int)(xs:List IS):Prop:=∀x ∈ xs,MX ps x=true/\0<=x.2.f3.f0/\x.2.f3.f1<=10000
theorem Mi{ps:List Int}{xs:List IS}(h:PIn ps xs):0<=nC ps xs/\nC ps xs<=10000*xs.length:=by
 unfold nC
 induction xs with
 |nil=>simp
 |cons x xs ih=>
  obtain⟨h1,h2,h3⟩:=h x List.mem_cons_self
  have h4:=ih (fun y hy=>h y (List.mem_cons_of_mem _ hy))
  unfold MX aY at h1
  simp only[Bool.and_eq_true,decide_eq_true_eq] at h1
  simp only[List.map_cons,List.sum_cons,List.length_cons]
  omega
theorem CW{old:List Int}{nw:Int}{ss:List bH}{js:List bS}{ps:List Int}(h:gU old nw ss js≠0\/ps.length≠ss.length):kK old nw ss js ps=false:=by
 unfold kK
 rcases h with h|h
 .rw[decide_eq_false h];rfl
 .rw[decide_eq_false (p:=ps.length=ss.length) h];simp
theorem Pk{old:List Int}{nw:Int}{ss:List bH}{js:List bS}{ps:List Int}(d:Nat)(hd:d<old.length)(h:(∃x ∈ dI ss (d:Int) ss.length,MX ps x=false)\/rd old (d:Int)-nC ps (dI ss (d:Int) ss.length)≠0):kK old nw ss js ps=false:=by
 unfold kK
 rw[show(List.range old.length).all _=false from List.all_eq_false.2 ⟨d,by simpa using hd,?_⟩]
 .simp
 .rcases h with⟨x,hx,hb⟩|h
  .have:(dI ss (d:Int) ss.length).all (MX ps)=false:=List.all_eq_false.2 ⟨x,hx,by simp[hb]⟩
   simp[this]
  .simp[h]
def tOk(old:List Int)(ss:List bH)(ps:List Int)(d:Nat):Prop:=(dI ss (d:Int) ss.length).all (MX ps)=true/\rd old (d:Int)-nC ps (dI ss (d:Int) ss.length)=0
theorem Rc{old:List Int}{nw:Int}{ss:List bH}{js:List bS}{ps:List Int}(h1:gU old nw ss js=0)(h2:ps.length=ss.length)(h:∀j:Nat,j<old.length->tOk old ss ps j):kK old nw ss js ps=true:=by
 unfold kK
 rw[decide_eq_true h1,decide_eq_true h2,show(List.range old.length).all _=true from List.all_eq_true.2 (fun d hd=>?_)]
 .rfl
 .obtain⟨h3,h4⟩:=h d (by simpa using hd)
  rw[h3,h4]
  rfl
theorem vO{w W:World}{tmps:Array Value}{b t:Bool}{ds:List Deferred}(ht:t=b)(hp:tmps.getD 4 undef= .pointer (some ⟨w.heap.size+1+1,0,none⟩))(hM:Marks w.heap.size W ds)(hb:Below w.heap.size w W)(hB:aR W (w.heap.size+1+1) [.bool b] 4):
  LeavesInM Fence.wide 9 Tryz.prog Tryz.f18 tmps (fun e w'=>e= .returned (.bool t)/\Below w.heap.size w w') ds .returning W:=by
 refine Marks.leaves (lo:=w.heap.size) (Inv:=fun W=>Below w.heap.size w W/\aR W (w.heap.size+1+1) [.bool b] 4) (fun W D hlo hD hi=>⟨hi.1.grown (grownBy_putObj' W D _) hi.1.size (fun k e=>by cases e;exact hlo),hi.2.move (bL W _ (fun e=>by
  rw[<- e] at hD
  have:=hi.2
  unfold aR at this
  rw[hD] at this
  cases this))⟩) (fun W hi=>?_) ds W hM ⟨hb,hB⟩
 refine⟨.bool b,?_,by rw[ht],hi.1⟩
 have hc:W.cell? ⟨w.heap.size+1+1,0,none⟩=some (.bool b):=by simpa using hi.2.cell 0
 have hp':tmps[4]?.getD undef= .pointer (some ⟨w.heap.size+1+1,0,none⟩):=by simpa using hp
 have hr:Func.results Tryz.f18=#[.cell 4 4]:=rfl
 simp[results,hr,hp',asAddr,go_sem,hc]
set_option maxRecDepth 100000 in
set_option maxHeartbeats 40000000 in
theorem qi{A0:Option Addr}{c0:Nat}{old:List Int}{nw:Int}{A2:Option Addr}{c2:Nat}{ss:List bH}{A3:Option Addr}{c3:Nat}{js:List bS}{Ap:Option Addr}{cp:Nat}{ps:List Int}{w:World}(h:uX w A0 c0 old A2 c2 ss A3 c3 js)(hp:Kd.C (Kd.int .i64) w Ap ps.length ps)(hbp:ps.length<=281474976710656):
  Calls Tryz.prog 18 #[.agg #[.slice A0 old.length c0,.int .i64 nw,.slice A2 ss.length c2,.slice A3 js.length c3],.slice Ap ps.length cp] w fun e w'=>e= .returned (.bool (kK old nw ss js ps))/\Below w.heap.size w w':=by
 have H:=aa.mk h
 have HP:=aa.mk hp
 have hb0:=h.b0
 have hb2:=h.b2
 clear h hp
 refine(callsIn_wide (n:=9)).1 (dx Tryz.func18 rfl trivial ?_ rfl)
 simp only[Tryz.ntmps18,List.size_toArray,List.length_cons,List.length_nil,Nat.reduceAdd,Nat.reduceSub,Array.replicate_succ,Array.replicate_zero,List.push_toArray,List.append_toArray,List.nil_append,List.cons_append]
 refine wpIn_wide.2 ?_
 go_wp2_with (with_reducible refine wpIn_wide.2 ?_)
 have Xw:=aa.mk (ae (ae (ae (Below.refl w.heap.size w) (.cells #[.slice A0 old.length c0,.int .i64 nw,.slice A2 ss.length c2,.slice A3 js.length c3] 43)) (.cells #[.slice Ap ps.length cp] 22)) (.cells #[.bool false] 4))
 have Us:=aa.mk (((aR.new w [.slice A0 old.length c0,.int .i64 nw,.slice A2 ss.length c2,.slice A3 js.length c3] 43).alloc (.cells #[.slice Ap ps.length cp] 22)).alloc (.cells #[.bool false] 4))
 have B2a:=aa.mk ((aR.new (w.alloc (.cells #[.slice A0 old.length c0,.int .i64 nw,.slice A2 ss.length c2,.slice A3 js.length c3] 43)) [.slice Ap ps.length cp] 22).alloc (.cells #[.bool false] 4))
 have XG:=aa.mk (aR.new ((w.alloc (.cells #[.slice A0 old.length c0,.int .i64 nw,.slice A2 ss.length c2,.slice A3 js.length c3] 43)).alloc (.cells #[.slice Ap ps.length cp] 22)) [.bool false] 4)
 simp only[World.size_alloc] at B2a XG
 have hsa:(((w.alloc (.cells #[.slice A0 old.length c0,.int .i64 nw,.slice A2 ss.length c2,.slice A3 js.length c3] 43)).alloc (.cells #[.slice Ap ps.length cp] 22)).alloc (.cells #[.bool false] 4)).heap.size=w.heap.size+1+1+1:=by simp
 generalize((w.alloc (.cells #[.slice A0 old.length c0,.int .i64 nw,.slice A2 ss.length c2,.slice A3 js.length c3] 43)).alloc (.cells #[.slice Ap ps.length cp] 22)).alloc (.cells #[.bool false] 4)=wA at Xw Us B2a XG hsa ⊢
 refine(iH (H.out.below Xw.out)).mono ?_
 rintro e w0 ⟨rfl,jR⟩
 have HB:=aa.mk (Xw.out.trans (jR.mono Xw.out.size))
 have B1:=aa.mk (Us.out.below jR)
 have B2:=aa.mk (B2a.out.below jR)
 have B3:=aa.mk (XG.out.below jR)
 have hs0:w.heap.size+1+1+1<=w0.heap.size:=by have:=jR.size;omega
 clear jR Xw Us B2a XG hsa
 have h12:=B1.out.cell 2
 have h20:=B2.out.cell 0
 have kQ:=B3.out.cell 0
 have h3f:=B3.out.frozen 0
 have h10:=B1.out.cell 0
 simp only[List.getElem?_cons_zero,List.getElem?_cons_succ] at h12 h20 kQ h10
 by_cases hc:gU old nw ss js=0
 rotate_left
 .have hcb:(gU old nw ss js !=0)=true:=by simp[hc]
  have HF:=aa.mk (CW (ps:=ps) (.inl hc))
  clear hc
  go_wp2_with (with_reducible refine wpIn_wide.2 ?_)
  exact vO HF.out (by rfl) (ds:=[]) trivial (HB.out.setCell (p:=⟨w.heap.size+1+1,0,none⟩) (by simp only;omega) _) (bM B3.out 0 _)
 by_cases hl:ps.length=ss.length
 rotate_left
 .have hlb:((ps.length:Int) !=(ss.length:Int))=true:=by simp;omega
  have HF:=aa.mk (CW (old:=old) (nw:=nw) (js:=js) (.inr hl))
  rw[hc]
  clear hc hl
  go_wp2_with (with_reducible refine wpIn_wide.2 ?_)
  exact vO HF.out (by rfl) (ds:=[]) trivial (HB.out.setCell (p:=⟨w.heap.size+1+1,0,none⟩) (by simp only;omega) _) (bM B3.out 0 _)
 have HK:=aa.mk (kI hc)
 have HL:=aa.mk (fun h=>Rc hc hl h)
 have ai9:=(kI hc).2.2.2.1
 have HLn:=aa.mk hl
 have hlb:((ps.length:Int) !=(ss.length:Int))=false:=by simp[hl]
 rw[hc]
 clear hc hl
 go_wp2_with (with_reducible refine wpIn_wide.2 ?_)
 clear h10 h12 h20 kQ h3f hlb
 refine wp_loop (fun a' wr=>∃(ds:List Deferred) (d:Nat),d<=old.length/\aa (∀j:Nat,j<d->tOk old ss ps j)/\aa (Below w.heap.size w wr)/\aa (aR wr w.heap.size [.slice A0 old.length c0,.int .i64 nw,.slice A2 ss.length c2,.slice A3 js.length c3] 43)/\aa (aR wr (w.heap.size+1) [.slice Ap ps.length cp] 22)/\aa (aR wr (w.heap.size+1+1) [.bool false] 4)/\aa (Marks w.heap.size wr ds)/\a'={tmps:=#[.agg #[.slice A0 old.length c0,.int .i64 nw,.slice A2 ss.length c2,.slice A3 js.length c3],.slice Ap ps.length cp,.pointer (some ⟨w.heap.size,0,none⟩),.pointer (some ⟨w.heap.size+1,0,none⟩),.pointer (some ⟨w.heap.size+1+1,0,none⟩),a'.tmps.getD 5 undef,a'.tmps.getD 6 undef,a'.tmps.getD 7 undef,a'.tmps.getD 8 undef,a'.tmps.getD 9 undef,a'.tmps.getD 10 undef,a'.tmps.getD 11 undef,a'.tmps.getD 12 undef,a'.tmps.getD 13 undef,a'.tmps.getD 14 undef,a'.tmps.getD 15 undef,a'.tmps.getD 16 undef,a'.tmps.getD 17 undef,a'.tmps.getD 18 undef,a'.tmps.getD 19 undef,a'.tmps.getD 20 undef,.slice A0 old.length c0,.int .i64 (old.length:Int),.int .i64 (d:Int),a'.tmps.getD 24 undef,a'.tmps.getD 25 undef,a'.tmps.getD 26 undef,a'.tmps.getD 27 undef,a'.tmps.getD 28 undef,a'.tmps.getD 29 undef,a'.tmps.getD 30 undef,a'.tmps.getD 31 undef,a'.tmps.getD 32 undef,a'.tmps.getD 33 undef,a'.tmps.getD 34 undef,a'.tmps.getD 35 undef,a'.tmps.getD 36 undef,a'.tmps.getD 37 undef,a'.tmps.getD 38 undef,a'.tmps.getD 39 undef,a'.tmps.getD 40 undef,a'.tmps.getD 41 undef,a'.tmps.getD 42 undef,a'.tmps.getD 43 undef,a'.tmps.getD 44 undef,a'.tmps.getD 45 undef,a'.tmps.getD 46 undef,a'.tmps.getD 47 undef,a'.tmps.getD 48 undef,a'.tmps.getD 49 undef,a'.tmps.getD 50 undef,a'.tmps.getD 51 undef,a'.tmps.getD 52 undef,a'.tmps.getD 53 undef],defers:=ds}) (fun a' _=>old.length-(intOf (a'.tmps.getD 23 undef)).toNat) ?start ?round
 case start=>exact⟨[],0,Nat.zero_le _,⟨fun j hj=>absurd hj (Nat.not_lt_zero _)⟩,HB,B1,B2,B3,⟨trivial⟩,rfl⟩
 case round=>
  clear HB B1 B2 B3 hs0
  rintro a' wr ⟨ds,d,hd,HJ,HB,B1,B2,B3,HM,hfr⟩
  obtain⟨u,hu⟩:∃u:Nat->Value,a'={tmps:=#[.agg #[.slice A0 old.length c0,.int .i64 nw,.slice A2 ss.length c2,.slice A3 js.length c3],.slice Ap ps.length cp,.pointer (some ⟨w.heap.size,0,none⟩),.pointer (some ⟨w.heap.size+1,0,none⟩),.pointer (some ⟨w.heap.size+1+1,0,none⟩),(u 5),(u 6),(u 7),(u 8),(u 9),(u 10),(u 11),(u 12),(u 13),(u 14),(u 15),(u 16),(u 17),(u 18),(u 19),(u 20),.slice A0 old.length c0,.int .i64 (old.length:Int),.int .i64 (d:Int),(u 24),(u 25),(u 26),(u 27),(u 28),(u 29),(u 30),(u 31),(u 32),(u 33),(u 34),(u 35),(u 36),(u 37),(u 38),(u 39),(u 40),(u 41),(u 42),(u 43),(u 44),(u 45),(u 46),(u 47),(u 48),(u 49),(u 50),(u 51),(u 52),(u 53)],defers:=ds}:=⟨fun i=>a'.tmps.getD i undef,hfr⟩
  clear hfr
  subst hu
  dsimp only
  by_cases hlt:d<old.length
  .have hg1:=B3.out.lt
   have hg0:=B1.out.lt
   have h10:=B1.out.cell 0
   have h11:=B1.out.cell 1
   have h12:=B1.out.cell 2
   have mg:=B1.out.cell 3
   simp only[List.getElem?_cons_zero,List.getElem?_cons_succ] at h10 h11 h12 mg
   obtain⟨ad,e,hx⟩:=Kd.dz (H.out.below HB.out).PY (d:Int) (by omega) (by omega)
   cases e
   simp only[Int.toNat_natCast] at hx
   have hcn:=HK.out.2.2.2.2.2.1 (rd old (d:Int)) (by rw[LV old d hlt];exact List.getElem_mem hlt)
   have HCB:=aa.mk hcn
   clear hcn
   have HTO:=aa.mk (fun(h1:(dI ss (d:Int) ss.length).all (MX ps)=true) (h2:rd old (d:Int)-nC ps (dI ss (d:Int) ss.length)=0)=>(show tOk old ss ps d from⟨h1,h2⟩))
   have HTB:=aa.mk (Pk (old:=old) (nw:=nw) (ss:=ss) (js:=js) (ps:=ps) d hlt)
   obtain⟨cnt,hcnt⟩:∃x,rd old (d:Int)=x:=⟨_,rfl⟩
   rw[hcnt] at hx HCB HTO HTB
   clear hcnt
   go_wp2_with (with_reducible refine wpIn_wide.2 ?_)
   have HB1:=aa.mk (ae HB.out (.cells #[.int .i64 cnt] 3))
   have B11:=aa.mk (B1.out.alloc (.cells #[.int .i64 cnt] 3))
   have xK:=aa.mk (B2.out.alloc (.cells #[.int .i64 cnt] 3))
   have xJ:=aa.mk (B3.out.alloc (.cells #[.int .i64 cnt] 3))
   have B4:=aa.mk (aR.new wr [.int .i64 cnt] 3)
   have zG:=aa.mk (HM.out.alloc (.cells #[.int .i64 cnt] 3))
   have hs1:=size_alloc wr (.cells #[.int .i64 cnt] 3)
   clear HB B1 B2 B3 HM h10 h11 h12 mg hx
   generalize wr.alloc (.cells #[.int .i64 cnt] 3)=wa at HB1 B11 xK xJ B4 zG hs1 ⊢
   generalize wr.heap.size=g4 at B4 hs1 hg1 hg0 ⊢
   refine((callsIn_wide (n:=8)).1 (JL Fence.wide 8 trivial rfl _ _ _ _ _ rfl rfl rfl rfl wa)).mono ?_
   rintro e w4 ⟨rfl,rfl⟩
   have HB2:=aa.mk (ae (ae HB1.out (.cells #[.slice (some ad) old.length c0,.int .i64 nw,.slice A2 ss.length c2,.slice A3 js.length c3] 43)) (.cells #[.int .i64 (d:Int)] 3))
   have BP:=aa.mk ((B11.out.alloc (.cells #[.slice (some ad) old.length c0,.int .i64 nw,.slice A2 ss.length c2,.slice A3 js.length c3] 43)).alloc (.cells #[.int .i64 (d:Int)] 3))
   have I9:=aa.mk ((xK.out.alloc (.cells #[.slice (some ad) old.length c0,.int .i64 nw,.slice A2 ss.length c2,.slice A3 js.length c3] 43)).alloc (.cells #[.int .i64 (d:Int)] 3))
   have BM:=aa.mk ((xJ.out.alloc (.cells #[.slice (some ad) old.length c0,.int .i64 nw,.slice A2 ss.length c2,.slice A3 js.length c3] 43)).alloc (.cells #[.int .i64 (d:Int)] 3))
   have xO:=aa.mk ((B4.out.alloc (.cells #[.slice (some ad) old.length c0,.int .i64 nw,.slice A2 ss.length c2,.slice A3 js.length c3] 43)).alloc (.cells #[.int .i64 (d:Int)] 3))
   have I5:=aa.mk ((zG.out.alloc (.cells #[.slice (some ad) old.length c0,.int .i64 nw,.slice A2 ss.length c2,.slice A3 js.length c3] 43)).alloc (.cells #[.int .i64 (d:Int)] 3))
   have xC:=aa.mk ((aR.new wa [.slice (some ad) old.length c0,.int .i64 nw,.slice A2 ss.length c2,.slice A3 js.length c3] 43).alloc (.cells #[.int .i64 (d:Int)] 3))
   have uT:=aa.mk (aR.new (wa.alloc (.cells #[.slice (some ad) old.length c0,.int .i64 nw,.slice A2 ss.length c2,.slice A3 js.length c3] 43)) [.int .i64 (d:Int)] 3)
   simp only[World.size_alloc] at uT
   have hsz:((wa.alloc (.cells #[.slice (some ad) old.length c0,.int .i64 nw,.slice A2 ss.length c2,.slice A3 js.length c3] 43)).alloc (.cells #[.int .i64 (d:Int)] 3)).heap.size=wa.heap.size+1+1:=by simp
   clear HB1 B11 xK xJ B4 zG
   generalize(wa.alloc (.cells #[.slice (some ad) old.length c0,.int .i64 nw,.slice A2 ss.length c2,.slice A3 js.length c3] 43)).alloc (.cells #[.int .i64 (d:Int)] 3)=w4 at HB2 BP I9 BM xO I5 xC uT hsz ⊢
   obtain⟨gx,hgx⟩:∃gx,wa.heap.size=gx:=⟨_,rfl⟩
   rw[hgx] at xC uT hsz hs1 ⊢
   clear hgx
   have HC:=aa.mk (H.out.below HB2.out)
   have hlo:=nP H.out.Lg
   go_wp2_with (with_reducible refine wpIn_wide.2 ?_)
   refine(wpIn_wide (n:=9)).1 ?_
   refine PC (gm:=gx) (gn:=gx+1) (by decide) (by decide) rfl (n₀:=w4.heap.size) (S:=fun b=>b=g4\/b=w.heap.size+1+1) (u0:= .slice (some ad) old.length c0) (u1:= .int .i64 nw) (u3:= .slice A3 js.length c3) (A2:=A2) (c2:=c2) (ss:=ss) (old:=(d:Int)) hb2 (Nat.le_refl _) ?reads
    (fun t x=>(t.setIfInBounds 31 (.int .i64 (x.1:Int))).setIfInBounds 32 (encS x.2)) (fun t x g=>(((t.setIfInBounds 31 (.int .i64 (x.1:Int))).setIfInBounds 32 (encS x.2)).setIfInBounds 7 (.int .i64 (x.1:Int))).setIfInBounds 8 (.pointer (some ⟨g,0,none⟩))) (fun t x=>Lm t 31 32 _ _)
    (fun pre W=>aa (aR W g4 [.int .i64 (cnt-nC ps pre)] 3)/\aa (Below w.heap.size w W)/\aa (aR W w.heap.size [.slice (some ad) old.length c0,.int .i64 nw,.slice A2 ss.length c2,.slice A3 js.length c3] 43)/\aa (fH w4 W)/\aa (w4.heap.size<=W.heap.size)/\aa (PIn ps pre)/\aa (aR W (w.heap.size+1) [.slice Ap ps.length cp] 22)/\aa (aR W (w.heap.size+1+1) [.bool false] 4))
    (fun W=>aa (Below w.heap.size w W)/\aa (fH w4 W)/\aa (w4.heap.size<=W.heap.size)/\aa (aR W (w.heap.size+1+1) [.bool false] 4)/\aa (∃x ∈ dI ss (d:Int) ss.length,MX ps x=false)) ?own ?ownx (fun xs W hi=>hi.2.2.2.2.1.out) ⟨⟨by simpa[nC] using xO.out⟩,HB2,BP,⟨fH.refl _⟩,⟨Nat.le_refl _⟩,⟨fun x hx=>by cases hx⟩,I9,BM⟩ ?assign ?body ?done ?stop
   case reads=>exact⟨xC.out,by simpa using uT.out.cell 0,HC.out.Lg,⟨by omega,by omega⟩,⟨by omega,by omega⟩,fun h0 ad e=>⟨by have:=hlo h0 ad e;omega,by have:=hlo h0 ad e;omega⟩⟩
   case own=>
    rintro xs W W' row ⟨i1,i2,i3,i4,i5,i6,i7,i8⟩ hg hr
    have hr':=fun r e=>(hr r e).1
    have h5:=i5.out
    have hw2:=HB2.out.size
    exact⟨⟨i1.out.kept (B:=w4.heap.size) (by omega) hg hr'⟩,⟨i2.out.grown hg i2.out.size (fun k e=>by have:=hr' k e;omega)⟩,⟨i3.out.kept (B:=w4.heap.size) (by omega) hg hr'⟩,⟨i4.out.kept (Nat.le_refl _) hg hr'⟩,⟨Nat.le_trans h5 hg.size⟩,i6,⟨i7.out.kept (B:=w4.heap.size) (by omega) hg hr'⟩,⟨i8.out.kept (B:=w4.heap.size) (by omega) hg hr'⟩⟩
   case ownx=>
    rintro xs W W' row ⟨i2,i4,i5,i8,i9⟩ hg hr
    have hr':=fun r e=>(hr r e).1
    have h5:=i5.out
    have hw2:=HB2.out.size
    exact⟨⟨i2.out.grown hg i2.out.size (fun k e=>by have:=hr' k e;omega)⟩,⟨i4.out.kept (Nat.le_refl _) hg hr'⟩,⟨Nat.le_trans h5 hg.size⟩,⟨i8.out.kept (B:=w4.heap.size) (by omega) hg hr'⟩,i9⟩
   case assign=>
    intro l x W K hx hK
    simp only[List.setIfInBounds_toArray,List.set_cons_zero,List.set_cons_succ,cellsS,encS] at hK ⊢
    gi_wp2_with fail
    exact hK
   case body=>
    rintro l pre x g W hx hlen ⟨i1,i2,i3,i4,i5,i6,i7,B3⟩ hg hBg
    have B2:=i7
    simp only[List.setIfInBounds_toArray,List.set_cons_zero,List.set_cons_succ,encS]
    obtain⟨ap,e,hpi⟩:=Kd.dz (Kd.aK HP.out i2.out) (x.1:Int) (by omega) (by have:=hx.1;have:=HLn.out;omega)
    cases e
    simp only[Int.toNat_natCast] at hpi
    have hx0:(0:Int)<=(x.1:Int):=by omega
    have hxl:(x.1:Int)<(ps.length:Int):=by have:=hx.1;have:=HLn.out;omega
    have h5:=i5.out
    have hgw:=hBg.lt
    have hok:iP old.length nw x.2:=HK.out.2.2.2.2.2.2.2.2.1 _ (by rw[hx.2.1];exact kM ss x.1 hx.1)
    have IC:=aa.mk hok
    clear hok
    have HIN:=aa.mk (show MX ps x=aY (rd ps (x.1:Int)) x.2.f3.f0 x.2.f3.f1 from rfl)
    have YF:=aa.mk (PG ps pre x)
    obtain⟨pi,acW⟩:∃y,rd ps (x.1:Int)=y:=⟨_,rfl⟩
    rw[acW] at hpi HIN YF
    clear acW
    gi_wp2_with fail
    have HPI:=aa.mk hpi
    refine jN (by rintro⟨_,_,h⟩;exact h) (by kernel_rfl) (n:=12) (S:=fun w'=>w'.cell? ⟨w.heap.size+1,0,none⟩=some (.slice (some ap) ps.length cp)/\w'.cell? (ap.add x.1)=some (.int .i64 pi)/\w'.cell? ⟨g,3,none⟩=some (.int .i64 x.2.f3.f0)/\w'.cell? ⟨g,4,none⟩=some (.int .i64 x.2.f3.f1)) (ds:=[10]) #[O,O,O,O,O,O,O,O,O,O,O,O] (by kernel_rfl) rfl rfl ⟨(by simpa using B2.out.cell 0),hpi,(by simpa[cellsS] using hBg.cell 3),(by simpa[cellsS] using hBg.cell 4)⟩ (fun hHeld=>?_);refine bK JB.Je JB.yS (fun aC bW=>?_)
    have KW:=aa.mk (bG (Below.refl W.heap.size W))
    clear hpi
    generalize W.drew=Wd at KW hHeld ⊢
    refine eP 0 33 #[I,O,O,O,O,O,O,O,O,O,O,O] aC bW hHeld (hy:=by(rintro w' ⟨s0,s1,s2,s3⟩;go_simp;with_reducible rfl)) (h:=?_)
    refine bI 1 34 #[I,I,O,O,O,O,O,O,O,O,O,O] aC (h:=?_)
    refine bI 2 35 #[I,I,I,O,O,O,O,O,O,O,O,O] aC (h:=?_)
    refine eP 3 36 #[I,I,I,I,O,O,O,O,O,O,O,O] aC bW hHeld (hy:=by(rintro w' ⟨s0,s1,s2,s3⟩;go_simp;with_reducible rfl)) (h:=?_)
    refine bI 4 37 #[I,I,I,I,I,O,O,O,O,O,O,O] aC (h:=?_)
    refine bI 5 38 #[I,I,I,I,I,I,O,O,O,O,O,O] aC (h:=?_)
    refine eP 6 39 #[I,I,I,I,I,I,I,O,O,O,O,O] aC bW hHeld (hy:=by(rintro w' ⟨s0,s1,s2,s3⟩;go_simp;with_reducible rfl)) (h:=?_)
    refine bI 7 40 #[I,I,I,I,I,I,I,I,O,O,O,O] aC (h:=?_)
    refine bI 8 41 #[I,I,I,I,I,I,I,I,I,O,O,O] aC (h:=?_)
    refine eP 9 42 #[I,I,I,I,I,I,I,I,I,I,O,O] aC bW hHeld (hy:=by(rintro w' ⟨s0,s1,s2,s3⟩;go_simp;with_reducible rfl)) (h:=?_)
    refine dW (i:=10) (N:=some 43) #[I,I,I,I,I,I,I,I,I,I,I,O] rfl rfl (aN aC.out (by kernel_rfl)) (by decide) (fun K hK=>?_)
    refine fD Tryz.func53 (by kernel_rfl) rfl #[.int .i64 pi,.int .i64 x.2.f3.f0,.int .i64 x.2.f3.f1] (by rfl) rfl rfl (by(try simp only[List.map_toArray,List.map_cons,List.map_nil]);rfl) ?_
    refine(iq pi x.2.f3.f0 x.2.f3.f1 Wd).mono ?_
    rintro e_ w_ ⟨rfl,jR⟩
    refine⟨_,rfl,hK.out _ _ ?_⟩
    clear hK K
    have KW:=aa.mk (KW.out.trans (jR.mono KW.out.size))
    clear hHeld jR
    generalize hw_:w_=W5 at KW ⊢
    clear hw_
    refine bF (by simp only[Act.put,List.setIfInBounds_toArray,List.set_cons_zero,List.set_cons_succ];rfl) ?_
    refine bI 11 44 #[I,I,I,I,I,I,I,I,I,I,I,I] aC (h:=?_)
    refine fF (bQ aC.out (by kernel_rfl)) ?_
    have apG:=KW.out.size
    have B3c:=aa.mk (B3.out.below KW.out)
    have B2c:=aa.mk (B2.out.below KW.out)
    have B4c:=aa.mk (i1.out.below KW.out)
    have KS:=aa.mk ((Stp.refl (w.heap.size+1+1) W).below KW.out)
    have KS4:=aa.mk ((Stp.refl g4 W).below KW.out)
    have aje:=(KW.out.cell (World.block_lt_of_cell? _ _ HPI.out)).trans HPI.out
    have kQ:=B3c.out.cell 0
    have h3f:=B3c.out.frozen 0
    simp only[List.getElem?_cons_zero] at kQ
    cases hin:aY pi x.2.f3.f0 x.2.f3.f1
    .have HBAD:=aa.mk (show ∃x ∈ dI ss (d:Int) ss.length,MX ps x=false from⟨x,xB.mem hx,by rw[HIN.out,hin]⟩)
     gi_wp2_with fail
     have hg6:=HB2.out.size
     refine⟨(KS.out.set 0 _).ko.from _,rfl,⟨(KS.out.set 0 _).seq i2.out (by omega) i2.out.size⟩,⟨(KS.out.set 0 _).Ol i4.out⟩,⟨Nat.le_trans h5 (KS.out.set 0 _).ko.size⟩,⟨by exact bM B3c.out 0 _⟩,HBAD⟩
    .have alo:=aa.mk (show MX ps x=true by rw[HIN.out,hin])
     have hpb:=Mi i6.out
     have hpl:(pre.length:Int)<8:=by omega
     have hcb:=HCB.out
     have ZI:=hin
     unfold aY at ZI
     simp only[Bool.and_eq_true,decide_eq_true_eq] at ZI
     have hok:=IC.out
     have hp0:=hok.p0
     have hp2:=hok.p2
     have hsub:wrap64 (cnt-nC ps pre-pi)=cnt-nC ps pre-pi:=IntWalk.wrap64_in _ (by omega)
     obtain⟨sm,hsm⟩:∃y,cnt-nC ps pre=y:=⟨_,rfl⟩
     rw[hsm] at hsub B4c
     have HSM:=aa.mk hsm
     clear hsm hpb hpl hcb ZI hok hp0 hp2 i1
     gi_wp2_with fail
     refine jN (by rintro⟨_,_,h⟩;exact h) (by kernel_rfl) (n:=7) (S:=fun w'=>w'.cell? ⟨w.heap.size+1,0,none⟩=some (.slice (some ap) ps.length cp)/\w'.cell? (ap.add x.1)=some (.int .i64 pi)/\w'.cell? ⟨g4,0,none⟩=some (.int .i64 sm)) (ds:=[6]) #[O,O,O,O,O,O,O] (by kernel_rfl) rfl rfl ⟨(by simpa using B2c.out.cell 0),aje,(by simpa using B4c.out.cell 0)⟩ (fun hHeld=>?_);refine bK JB.zS JB.uQ (fun aC bW=>?_)
     have HF4:=aa.mk (show W5.drew.frozen? ⟨g4,0,none⟩=false from B4c.out.frozen 0)
     obtain⟨Wd,hWd⟩:∃Wd,W5.drew=Wd:=⟨_,rfl⟩
     rw[hWd] at HF4 hHeld ⊢
     refine eP 0 45 #[I,O,O,O,O,O,O] aC bW hHeld (hy:=by(rintro w' ⟨s0,s1,s2⟩;go_simp;with_reducible rfl)) (h:=?_)
     refine eP 1 46 #[I,I,O,O,O,O,O] aC bW hHeld (hy:=by(rintro w' ⟨s0,s1,s2⟩;go_simp;with_reducible rfl)) (h:=?_)
     refine bI 2 47 #[I,I,I,O,O,O,O] aC (h:=?_)
     refine bI 3 48 #[I,I,I,I,O,O,O] aC (h:=?_)
     refine eP 4 49 #[I,I,I,I,I,O,O] aC bW hHeld (hy:=by(rintro w' ⟨s0,s1,s2⟩;go_simp;with_reducible rfl)) (h:=?_)
     refine bI 5 50 #[I,I,I,I,I,I,O] aC (h:=?_)
     refine dW (i:=6) (N:=none) #[I,I,I,I,I,I,I] rfl rfl (aN aC.out (by kernel_rfl)) (by decide) (fun K hK=>?_)
     have eB:=hHeld.2.2
     have gP:=(show Wd.frozen? ⟨g4,0,none⟩=false from HF4.out)
     refine ib (w1:=?_) (by rfl) rfl ?_ ?_
     rotate_left
     .go_simp
      rfl
     refine hK.out _ _ ?_
     clear hK K eB gP
     refine fF (bQ aC.out (by kernel_rfl)) ?_
     subst hWd
     have hg6:=HB2.out.size
     have KX:=aa.mk ((KS4.out.drew).set 0 (.int .i64 (sm-pi)))
     refine⟨KX.out.ko.from _,KX.out.keep (.inl (.inl rfl)) h5,⟨by rw[YF.out,<- Int.sub_sub,HSM.out];exact bM (B4c.out.move rfl:aR W5.drew _ _ _) 0 _⟩,⟨KX.out.seq i2.out (by omega) i2.out.size⟩,⟨KX.out.blk i3.out (by omega)⟩,⟨KX.out.Ol i4.out⟩,⟨Nat.le_trans h5 KX.out.ko.size⟩,⟨fun y hy=>?_⟩,⟨KX.out.blk B2.out (by omega)⟩,⟨KX.out.blk B3.out (by omega)⟩⟩
     rcases List.mem_append.1 hy with hy|hy
     .exact i6.out y hy
     .obtain rfl:=List.mem_singleton.1 hy
      exact⟨alo.out,IC.out.p0,IC.out.p2⟩
   case done=>
    rintro D W hD ⟨i1,i2,i3,i4,i5,i6,i7,i8⟩ uW
    have hw2:=HB2.out.size
    have NP:=aa.mk (Marks.cons I5.out i4.out hD (by omega) uW)
    have hc4:=i1.out.cell 0
    have kQ:=i8.out.cell 0
    have h3f:=i8.out.frozen 0
    simp only[List.getElem?_cons_zero,List.getElem?_cons_succ] at hc4 kQ
    have II:=aa.mk (show(dI ss (d:Int) ss.length).all (MX ps)=true from List.all_eq_true.2 (fun x hx=>(i6.out x hx).1))
    obtain⟨sm,hsm⟩:∃s,cnt-nC ps (dI ss (d:Int) ss.length)=s:=⟨_,rfl⟩
    rw[hsm] at hc4 HTO HTB
    clear hsm
    dsimp only
    by_cases h0:sm=0
    .have h0b:(sm !=0)=false:=by simp[h0]
     have HJ2:=aa.mk (fun(j:Nat) (hj:j<d+1)=>if h:j=d then(show tOk old ss ps j by rw[h];exact HTO.out II.out h0) else HJ.out j (by omega))
     clear h0
     go_wp2_with fail
     refine⟨⟨_,d+1,by omega,HJ2,i2,i3,i7,i8,NP,rfl⟩,?_⟩
     show old.length-(intOf (.int .i64 ((d:Int)+1))).toNat<old.length-(intOf (.int .i64 (d:Int))).toNat
     simp[intOf]
     omega
    .have h0b:(sm !=0)=true:=by simp[h0]
     have HF:=aa.mk (HTB.out (.inr h0))
     clear h0
     go_wp2_with fail
     exact vO HF.out (by rfl) (NP.out.setCell _ _) (i2.out.setCell (p:=⟨w.heap.size+1+1,0,none⟩) (by simp only;omega) _) (bM i8.out 0 _)
   case stop=>
    rintro D W hD ⟨i2,i4,i5,i8,i9⟩ uW
    have hw2:=HB2.out.size
    have NP:=aa.mk (Marks.cons I5.out i4.out hD (by omega) uW)
    have HF:=aa.mk (HTB.out (.inl i9.out))
    dsimp only
    refine wpIn_wide.2 ?_
    go_wp2_with fail
    exact vO HF.out (by rfl) NP.out i2.out i8.out
  .obtain rfl:d=old.length:=by omega
   have kQ:=B3.out.cell 0
   have h3f:=B3.out.frozen 0
   simp only[List.getElem?_cons_zero] at kQ
   go_wp2_with (with_reducible refine wpIn_wide.2 ?_)
   exact vO (HL.out HJ.out) (by rfl) (HM.out.setCell _ _) (HB.out.setCell (p:=⟨w.heap.size+1+1,0,none⟩) (by simp only;omega) _) (bM B3.out 0 _)
end Go.Proofs.YtkjoilgpmngndaaGreat
