import Derived.Test.YtkjoilgpmngndaaGreatQ26
set_option linter.all false
namespace Go.Proofs.YtkjoilgpmngndaaGreat
open Go.RowKit Go.Shelf Go.Proofs.YtkjoilgpmngndaaGreat.av Go.Proofs.YtkjoilgpmngndaaGreatW.aA Go.Proofs.YtkjoilgpmngndaaGreatW.aJ
attribute [local go_sem] Oper.semAt_some
def pX.T2:Bool×List (List Nat×List Nat):=(true,[([],[]),([0],[0]),([1],[1]),([2],[2]),([],[]),([4],[4]),([3,5],[3,5])])
def pX.B2:List Nat:=[0,1,3,7,0,16,63]
theorem pX.Pm:eu .any (opsOf Tryz.f83 2)=pX.T2:=by kernel_rfl
theorem pX.Dr:bO pX.T2.2 pX.B2=true:=by kernel_rfl
def pX.T5:Bool×List (List Nat×List Nat):=(true,[([],[]),([0],[0]),([1],[1]),([2],[2]),([],[]),([3,4],[3,4]),([5],[5]),([6],[6]),([6],[6]),([],[]),([9,7,0,1,2,3,4,5,6,7,9],[7,9]),([8,10,0,1,2,3,4,5,6,7,8,9,10],[8])])
def pX.B5:List Nat:=[0,1,3,7,0,31,63,127,127,0,767,2047]
theorem pX.Jf:eu .any (opsOf Tryz.f83 5)=pX.T5:=by kernel_rfl
theorem pX.yT:bO pX.T5.2 pX.B5=true:=by kernel_rfl
def pX.TI:Bool×List (List Nat×List Nat):=(true,[([],[]),([],[]),([1],[1]),([2],[2]),([],[]),([4],[4]),([],[]),([5,6],[5,6]),([3,7],[3,7]),([0,8,7],[0,8]),([],[]),([10,9,9,0,1,2,3,4,5,6,7,8,9,10],[9,10])])
def pX.B11:List Nat:=[0,0,2,6,0,16,0,112,254,511,0,2047]
theorem pX.zS:eu .any (opsOf Tryz.f83 11)=pX.TI:=by kernel_rfl
theorem pX.uQ:bO pX.TI.2 pX.B11=true:=by kernel_rfl
def pX.T13:Bool×List (List Nat×List Nat):=(true,[([],[]),([0],[0]),([],[]),([],[]),([3],[3]),([],[]),([2,4,5],[2,4,5]),([1,6],[1,6]),([7,6,0,1,2,3,4,5,6,7],[7])])
def pX.zk:List Nat:=[0,1,0,0,8,0,60,127,255]
theorem pX.acz:eu .any (opsOf Tryz.f83 13)=pX.T13:=by kernel_rfl
theorem pX.aa4:bO pX.T13.2 pX.zk=true:=by kernel_rfl
def pX.T17:Bool×List (List Nat×List Nat):=(true,[([],[]),([0],[0]),([1],[1]),([2],[2]),([],[]),([],[]),([3,4,5,0,1,2,3,4,5],[3,4,5])])
def pX.B17:List Nat:=[0,1,3,7,0,0,63]
theorem pX.XK:eu .any (opsOf Tryz.f83 17)=pX.T17:=by kernel_rfl
theorem pX.Tp:bO pX.T17.2 pX.B17=true:=by kernel_rfl
theorem rQ{F:(Nat->Int)->IZ}{row:List Int}{s:Nat->Int}{B C:Int}(hB:0<=B)(hC:0<=C)(hF:∀s,0<=(F s).1/\(F s).1<=B/\0<=(F s).2.1/\(F s).2.1<=C):∀(ls:List (List Int)) (acc:IZ) (X:Int),(∀l ∈ ls,0<=tN row l/\tN row l<=400)->0<=acc.1/\acc.1<=X->0<=acc.2.1/\acc.2.1<=C+400 ->
  0<=(ls.foldl (mK F row s) acc).1/\(ls.foldl (mK F row s) acc).1<=X+B*ls.length/\0<=(ls.foldl (mK F row s) acc).2.1/\(ls.foldl (mK F row s) acc).2.1<=C+400
 |[],acc,X,_,h1,h2=>by simp;omega
 |l::ls,acc,X,hl,h1,h2=>by
  have hf:=hF (oP s l)
  have hc:=hl l List.mem_cons_self
  rw[List.foldl_cons,List.length_cons]
  have hst:(0<=(mK F row s acc l).1/\(mK F row s acc l).1<=X+B)/\0<=(mK F row s acc l).2.1/\(mK F row s acc l).2.1<=C+400:=by
   unfold mK
   split
   .omega
   .simp only
    split
    .simp only;omega
    .omega
  have:=rQ (s:=s) hB hC hF ls (mK F row s acc l) (X+B) (fun x hx=>hl x (List.mem_cons_of_mem _ hx)) hst.1 hst.2
  have e:B*((ls.length+1:Nat):Int)=B*ls.length+B:=by push_cast;rw[Int.mul_add,Int.mul_one]
  rw[e]
  omega
structure KR(base:Int)(rows:List (List Int))(fx:List dJ):Prop where
 b0:2<=base
 b1:base<=100
 n:rows.length<=5
 l:∀r ∈ rows,r.length=(rows.getD 0 []).length
 l4:(rows.getD 0 []).length<=4
 x:∀r ∈ rows,∀x ∈ r,0<=x/\x<=10100
theorem xx.in_{w:World}{A:Option Addr}{c:Nat}{base:Int}{rows:List (List Int)}{Af:Option Addr}{cf:Nat}{fx:List dJ}(h:xx w A c base rows Af cf fx):KR base rows fx:=⟨h.b0,h.b1,h.n,h.l,h.l4,h.x⟩
theorem nQ{rows:List (List Int)}{k:Nat}(h:k<rows.length):rows.getD k [] ∈ rows:=by
 rw[List.getD_eq_getElem?_getD,List.getElem?_eq_getElem h]
 exact List.getElem_mem h
theorem Dk{xs:List Int}{k:Nat}(h:k<xs.length):xs.getD k 0 ∈ xs:=by
 rw[List.getD_eq_getElem?_getD,List.getElem?_eq_getElem h]
 exact List.getElem_mem h
structure akF(row l:List Int):Prop where
 len:l.length=row.length
 b:∀c,c<l.length->0<=l.getD c 0/\l.getD c 0<=10200
 a:∀c,c<l.length->oq (l.getD c 0) (row.getD c 0)<=100
 c:0<=tN row l/\tN row l<=400
theorem KR.leaf{base:Int}{rows:List (List Int)}{fx:List dJ}(h:KR base rows fx){k:Nat}(hk:k<rows.length){ok:List Int->Bool}{l:List Int}(hl:l ∈ dO base ok (rows.getD k []) []):akF (rows.getD k []) l:=by
 obtain⟨_,t,h1,h2,h3⟩:=yL h.b0 hl
 rw[List.nil_append] at h1
 subst h1
 have hm:=nQ hk
 have hx:=h.x _ hm
 have hb:=h.b1
 have hlen:=h.l _ hm
 have h4:=h.l4
 have ha:∀c,c<l.length->oq (l.getD c 0) ((rows.getD k []).getD c 0)<=100:=fun c hc=>by
  have:=h3 c (by omega)
  unfold oq
  omega
 have hc:=qL (rows.getD k []) l l.length ha
 refine⟨h2,fun c hc=>?_,ha,hc.1,?_⟩
 .have h5:=h3 c (by omega)
  have h6:=hx _ (Dk (show c<(rows.getD k []).length by omega))
  omega
 .have:=hc.2
  show oh _ _ _<=400
  omega
theorem KR.jU{base:Int}{rows:List (List Int)}{fx:List dJ}(h:KR base rows fx):∀(left:Nat),left<=rows.length->∀s,0<=(gV base rows fx left s).1/\(gV base rows fx left s).1<=(16:Int)^left/\0<=(gV base rows fx left s).2.1/\(gV base rows fx left s).2.1<=400*left
 |0,_,s=>by
  unfold gV
  split<;>simp
 |left+1,hl,s=>by
  have hk:rows.length-(left+1)<rows.length:=by omega
  have ih:=h.jU left (by omega)
  have hp:(0:Int)<=16^left:=Int.pow_nonneg (by omega)
  have hb:=rQ (s:=s) hp (show(0:Int)<=400*left by omega) ih (dO base (Aq base (rows.getD (rows.length-(left+1)) []) fx ((rows.length-(left+1):Nat):Int)) (rows.getD (rows.length-(left+1)) []) []) (0,0,[]) 0 (fun l hm=>(h.leaf hk hm).c) (by simp) (by simp;omega)
  have hlen:=oU base (Aq base (rows.getD (rows.length-(left+1)) []) fx ((rows.length-(left+1):Nat):Int)) (rows.getD (rows.length-(left+1)) []) []
  have hr:(rows.getD (rows.length-(left+1)) []).length<=4:=by rw[h.l _ (nQ hk)];exact h.l4
  have apU:2^(rows.getD (rows.length-(left+1)) []).length<=2^4:=Nat.pow_le_pow_right (by omega) hr
  have h16:((dO base (Aq base (rows.getD (rows.length-(left+1)) []) fx ((rows.length-(left+1):Nat):Int)) (rows.getD (rows.length-(left+1)) []) []).length:Int)<=16:=by omega
  have hmul:(16:Int)^left*((dO base (Aq base (rows.getD (rows.length-(left+1)) []) fx ((rows.length-(left+1):Nat):Int)) (rows.getD (rows.length-(left+1)) []) []).length:Int)<=16^left*16:=Int.mul_le_mul_of_nonneg_left h16 hp
  have hex:(16:Int)^(left+1)=16^left*16:=by rw[Int.pow_succ]
  rw[gV]
  rw[hex]
  refine⟨hb.1,by omega,hb.2.2.1,?_⟩
  push_cast
  omega
structure fT(w0:World)(gk mb:Nat)(base:Int)(rows:List (List Int))(fx:List dJ)(Ar:Option Addr)(cr:Nat)(Af:Option Addr)(cf:Nat)(Ok:Nat->Prop)(W:World):Prop where
 k:aR W gk [.int .i64 base,.slice Ar rows.length cr,.slice Af fx.length cf,.map (some mb)] 215
 b:Below w0.heap.size w0 W
 m:jY W mb (fun k s=>gV base rows fx (rows.length-k) s) Ok
 Uw:w0.heap.size<=mb
 ne:gk≠mb
 ok:∀b,Ok b->b≠mb/\b≠gk
theorem fT.step{w0:World}{gk mb:Nat}{base:Int}{rows:List (List Int)}{fx:List dJ}{Ar:Option Addr}{cr:Nat}{Af:Option Addr}{cf:Nat}{Ok:Nat->Prop}{W W':World}(h:fT w0 gk mb base rows fx Ar cr Af cf Ok W)(T:Nat->Prop)(hk:bq W.heap.size T W W')(h0:∀b,T b->w0.heap.size<=b/\¬Ok b/\b≠gk/\b≠mb):fT w0 gk mb base rows fx Ar cr Af cf Ok W':=
 ⟨h.k.move (hk.block _ h.k.lt (fun e=>(h0 _ e).2.2.1 rfl)),⟨hk.os.trans h.b.os,hk.tape.trans h.b.tape,hk.output.trans h.b.output,Nat.le_trans h.b.size hk.size,fun b hb=>(hk.block b (Nat.lt_of_lt_of_le hb h.b.size) (fun e=>by have:=(h0 _ e).1;omega)).trans (h.b.block b hb)⟩,
  h.m.step (hk.block _ h.m.lt (fun e=>(h0 _ e).2.2.2 rfl)) (fun b hb hlt=>hk.block b hlt (fun e=>(h0 _ e).2.1 hb)) (fun _ h=>h),h.Uw,h.ne,h.ok⟩
theorem fT.below{w0:World}{gk mb:Nat}{base:Int}{rows:List (List Int)}{fx:List dJ}{Ar:Option Addr}{cr:Nat}{Af:Option Addr}{cf:Nat}{Ok:Nat->Prop}{W W':World}(h:fT w0 gk mb base rows fx Ar cr Af cf Ok W)(hb:Below W.heap.size W W'):fT w0 gk mb base rows fx Ar cr Af cf Ok W':=
 h.step (fun _=>False) (bq.of_below hb (Nat.le_refl _)) (fun _ e=>e.elim)
theorem jY.put{W:World}{mb D:Nat}{F:Nat->(Nat->Int)->Int×Int×List Int}{Ok:Nat->Prop}{x:Option (List Deferred)}(h:jY W mb F Ok)(hD:W.heap[D]?=some (.deferred x))(o:Obj):jY (W.putObj D o) mb F Ok:=by
 obtain⟨es,clock,h0,h1,hnd⟩:=h
 refine⟨es,clock,(World.putObj_heap_other (by rintro rfl;rw[h0] at hD;cases hD)).trans h0,fun e he=>?_,hnd⟩
 obtain⟨k,s,v,a,b,c,d,r⟩:=h1 e he
 refine⟨k,s,v,a,b,c,d,Kd.cK (Kd.fJ (Kd.dP r) (fun i hi _=>World.putObj_heap_other ?_)) (fun _ h=>h.1)⟩
 rintro rfl
 obtain⟨_,_,_,q,_,cells,hc⟩:=hi
 rw[hc] at hD
 cases hD
theorem OV{W:World}{D b:Nat}{Ok:Nat->Prop}{v:Value}{xs:List Int}{x:Option (List Deferred)}(h:(Kd.int .i64).R 3 W b Ok v xs)(hD:W.heap[D]?=some (.deferred x))(o:Obj):(Kd.int .i64).R 3 (W.putObj D o) b Ok v xs:=by
 refine Kd.cK (Kd.fJ (Kd.dP h) (fun i hi _=>World.putObj_heap_other ?_)) (fun _ h=>h.1)
 rintro rfl
 obtain⟨_,_,_,q,_,cells,hc⟩:=hi
 rw[hc] at hD
 cases hD
theorem fT.put{w0:World}{gk mb D:Nat}{base:Int}{rows:List (List Int)}{fx:List dJ}{Ar:Option Addr}{cr:Nat}{Af:Option Addr}{cf:Nat}{Ok:Nat->Prop}{W:World}{x:Option (List Deferred)}(h:fT w0 gk mb base rows fx Ar cr Af cf Ok W)(hD:W.heap[D]?=some (.deferred x))(h0:w0.heap.size<=D)(o:Obj):fT w0 gk mb base rows fx Ar cr Af cf Ok (W.putObj D o):=
 ⟨h.k.move (World.putObj_heap_other (by rintro rfl;rw[h.k] at hD;cases hD)),h.b.grown (grownBy_putObj' W D o) h.b.size (fun k e=>by cases e;exact h0),h.m.put hD o,h.Uw,h.ne,h.ok⟩
def xE(w0:World)(gk mb:Nat)(base:Int)(rows:List (List Int))(fx:List dJ)(Ar:Option Addr)(cr:Nat)(Af:Option Addr)(cf:Nat)(Ok:Nat->Prop)(w:World)(x:IZ)(e:Ending)(w':World):Prop:=
 ∃v,e= .returned (lG x v)/\(Kd.int .i64).R 3 w' 0 (fun b=>Ok b\/w.heap.size<=b) v x.2.2/\fT w0 gk mb base rows fx Ar cr Af cf (fun b=>Ok b\/w.heap.size<=b) w'/\bq w.heap.size (fun b=>b=mb) w w'
theorem acD:Tryz.prog.underlying 178=some (.struct (Tryz.prog.fieldsOf 178)):=by kernel_rfl
theorem o9{w0:World}{gk mb:Nat}{base:Int}{rows:List (List Int)}{fx:List dJ}{Ar:Option Addr}{cr:Nat}{Af:Option Addr}{cf:Nat}{Ok CO:Nat->Prop}{w W:World}{x:IZ}{v:Value}{g4:Nat}{ds:List Deferred}{tmps:Array Value}{n:Nat}
  (hm:Marks w.heap.size W ds) (h4:tmps.getD 4 undef= .pointer (some ⟨g4,0,none⟩)) (hB:aR W g4 [.int .i64 x.1,.int .i64 x.2.1,v] 178) (hR:(Kd.int .i64).R 3 W 0 CO v x.2.2) (hW:fT w0 gk mb base rows fx Ar cr Af cf CO W) (hK:bq w.heap.size (fun b=>b=mb) w W)
  (hO:∀b,CO b->Ok b\/w.heap.size<=b) (hO2:∀b,Ok b\/w.heap.size<=b->b≠mb/\b≠gk) (h0:w0.heap.size<=w.heap.size):
  LeavesInM Fence.wide n Tryz.prog Tryz.f83 tmps (xE w0 gk mb base rows fx Ar cr Af cf Ok w x) ds .returning W:=by
 refine Marks.leaves (lo:=w.heap.size) (Inv:=fun W=>aR W g4 [.int .i64 x.1,.int .i64 x.2.1,v] 178/\(Kd.int .i64).R 3 W 0 CO v x.2.2/\fT w0 gk mb base rows fx Ar cr Af cf CO W/\bq w.heap.size (fun b=>b=mb) w W) ?_ (fun W hi=>?_) ds W hm ⟨hB,hR,hW,hK⟩
 .rintro W D hlo hD ⟨i1,i2,i3,i4⟩
  exact⟨i1.move (World.putObj_heap_other (by rintro rfl;rw[i1] at hD;cases hD)),OV i2 hD _,i3.put hD (by omega) _,i4.put (.inr hlo) _⟩
 .obtain⟨i1,i2,i3,i4⟩:=hi
  refine⟨_,results_cell_row rfl _ _ g4 178 #[.int .i64 x.1,.int .i64 x.2.1,v] (0,0) _ h4 i1 acD rfl (by kernel_rfl),v,rfl,Kd.cK i2 hO,⟨i3.k,i3.b,i3.m.step rfl (fun _ _ _=>rfl) hO,i3.Uw,i3.ne,hO2⟩,i4⟩
structure lW(w0:World)(gk mb:Nat)(base:Int)(rows:List (List Int))(fx:List dJ)(Ar:Option Addr)(cr:Nat)(Af:Option Addr)(cf:Nat)(Ok:Nat->Prop)(k:Nat)(s:Nat->Int)(w W:World):Prop where
 b2:aR W w.heap.size [.pointer (some ⟨gk,0,none⟩)] 174
 b3:aR W (w.heap.size+1) [.int .i64 (k:Int),.int .i64 (s 0),.int .i64 (s 1),.int .i64 (s 2),.int .i64 (s 3)] 183
 b4:aR W (w.heap.size+2) [.int .i64 0,.int .i64 0,.slice none 0 0] 178
 wk:fT w0 gk mb base rows fx Ar cr Af cf Ok W
 kp:bq w.heap.size (fun b=>b=mb) w W
theorem lW.below{w0:World}{gk mb:Nat}{base:Int}{rows:List (List Int)}{fx:List dJ}{Ar:Option Addr}{cr:Nat}{Af:Option Addr}{cf:Nat}{Ok:Nat->Prop}{k:Nat}{s:Nat->Int}{w W W':World}(h:lW w0 gk mb base rows fx Ar cr Af cf Ok k s w W)(hb:Below W.heap.size W W'):lW w0 gk mb base rows fx Ar cr Af cf Ok k s w W':=
 ⟨h.b2.below hb,h.b3.below hb,h.b4.below hb,h.wk.below hb,h.kp.trans (bq.of_below hb h.kp.size)⟩
theorem lW.new{w0:World}{gk mb:Nat}{base:Int}{rows:List (List Int)}{fx:List dJ}{Ar:Option Addr}{cr:Nat}{Af:Option Addr}{cf:Nat}{Ok:Nat->Prop}{w:World}(k:Nat)(s:Nat->Int)(h:fT w0 gk mb base rows fx Ar cr Af cf Ok w):
  lW w0 gk mb base rows fx Ar cr Af cf Ok k s w (((w.alloc (.cells #[.pointer (some ⟨gk,0,none⟩)] 174)).alloc (.cells #[.int .i64 (k:Int),.int .i64 (s 0),.int .i64 (s 1),.int .i64 (s 2),.int .i64 (s 3)] 183)).alloc (.cells #[.int .i64 0,.int .i64 0,.slice none 0 0] 178)):=by
 have hb:=ae (ae (ae (Below.refl w.heap.size w) (.cells #[.pointer (some ⟨gk,0,none⟩)] 174)) (.cells #[.int .i64 (k:Int),.int .i64 (s 0),.int .i64 (s 1),.int .i64 (s 2),.int .i64 (s 3)] 183)) (.cells #[.int .i64 0,.int .i64 0,.slice none 0 0] 178)
 have h3:=aR.second w (.cells #[.pointer (some ⟨gk,0,none⟩)] 174) [.int .i64 (k:Int),.int .i64 (s 0),.int .i64 (s 1),.int .i64 (s 2),.int .i64 (s 3)] 183
 have h4:=aR.second (w.alloc (.cells #[.pointer (some ⟨gk,0,none⟩)] 174)) (.cells #[.int .i64 (k:Int),.int .i64 (s 0),.int .i64 (s 1),.int .i64 (s 2),.int .i64 (s 3)] 183) [.int .i64 0,.int .i64 0,.slice none 0 0] 178
 rw[World.size_alloc] at h4
 exact⟨((aR.new w [.pointer (some ⟨gk,0,none⟩)] 174).alloc _).alloc _,h3.alloc _,h4,h.below hb,bq.of_below hb (Nat.le_refl _)⟩
theorem aR.Pt{w:World}{g:Nat}{a b c:Value}{t:TypeId}(h:aR w g [a,b,c] t)(u v x:Value):aR (((w.setCell ⟨g,0,none⟩ u).setCell ⟨g,1,none⟩ v).setCell ⟨g,2,none⟩ x) g [u,v,x] t:=((h.setAt 0 u).setAt 1 v).setAt 2 x
theorem fT.far{w0:World}{gk mb:Nat}{base:Int}{rows:List (List Int)}{fx:List dJ}{Ar:Option Addr}{cr:Nat}{Af:Option Addr}{cf:Nat}{Ok:Nat->Prop}{W:World}(h:fT w0 gk mb base rows fx Ar cr Af cf Ok W){p:Addr}(h0:w0.heap.size<=p.block/\¬Ok p.block/\p.block≠gk/\p.block≠mb)(u:Value):fT w0 gk mb base rows fx Ar cr Af cf Ok (W.setCell p u):=
 h.step (fun b=>b=p.block) ((bq.refl W.heap.size (fun b=>b=p.block) W).setCell (p:=p) (.inl rfl) u) (fun b e=>by subst e;exact h0)
theorem lW.akf{w0:World}{gk mb:Nat}{base:Int}{rows:List (List Int)}{fx:List dJ}{Ar:Option Addr}{cr:Nat}{Af:Option Addr}{cf:Nat}{Ok:Nat->Prop}{k:Nat}{s:Nat->Int}{w W:World}(h:lW w0 gk mb base rows fx Ar cr Af cf Ok k s w W){g:Nat}(hg:w.heap.size+2<g)(hgg:g≠gk/\g≠mb)(hO:∀b,w.heap.size<=b->¬Ok b)(h0:w0.heap.size<=w.heap.size)(a b c:Value):
  lW w0 gk mb base rows fx Ar cr Af cf Ok k s w (((W.setCell ⟨g,0,none⟩ a).setCell ⟨g,1,none⟩ b).setCell ⟨g,2,none⟩ c):=by
 have far:∀{V:World} (p:Addr) (u:Value),p.block=g->lW w0 gk mb base rows fx Ar cr Af cf Ok k s w V->lW w0 gk mb base rows fx Ar cr Af cf Ok k s w (V.setCell p u):=fun p u e h=>
  ⟨h.b2.move (Below.heap_setCell _ _ _ _ (by omega)),h.b3.move (Below.heap_setCell _ _ _ _ (by omega)),h.b4.move (Below.heap_setCell _ _ _ _ (by omega)),h.wk.far ⟨by omega,hO _ (by omega),by omega,by omega⟩ u,h.kp.setCell (.inr (by omega)) u⟩
 exact far _ _ rfl (far _ _ rfl (far _ _ rfl h))
theorem Ct{W W':World}{row:Option Nat}(hg:W.grownBy W' row):bq W.heap.size (fun b=>row=some b) W W':=⟨hg.os,hg.tape,hg.output,hg.size,fun k hk hs=>hg.block k hk (fun e=>hs e.symm)⟩
theorem lW.grown{w0:World}{gk mb:Nat}{base:Int}{rows:List (List Int)}{fx:List dJ}{Ar:Option Addr}{cr:Nat}{Af:Option Addr}{cf:Nat}{Ok:Nat->Prop}{k:Nat}{s:Nat->Int}{w W W':World}(h:lW w0 gk mb base rows fx Ar cr Af cf Ok k s w W){row:Option Nat}(hg:W.grownBy W' row)(h0:w0.heap.size<=w.heap.size)(hr:∀r,row=some r->w.heap.size+2<r/\¬Ok r/\r≠gk/\r≠mb):lW w0 gk mb base rows fx Ar cr Af cf Ok k s w W':=
 have hk:=Ct hg
 ⟨h.b2.move (hk.block _ h.b2.lt (fun e=>by have:=(hr _ e).1;omega)),h.b3.move (hk.block _ h.b3.lt (fun e=>by have:=(hr _ e).1;omega)),h.b4.move (hk.block _ h.b4.lt (fun e=>by have:=(hr _ e).1;omega)),h.wk.step _ hk (fun b e=>⟨by have:=(hr _ e).1;omega,(hr _ e).2⟩),h.kp.trans (hk.mono h.kp.size (fun b hb e=>by have:=(hr _ e).1;omega))⟩
theorem lW.ok{w0:World}{gk mb:Nat}{base:Int}{rows:List (List Int)}{fx:List dJ}{Ar:Option Addr}{cr:Nat}{Af:Option Addr}{cf:Nat}{Ok CO:Nat->Prop}{k:Nat}{s:Nat->Int}{w W:World}(h:lW w0 gk mb base rows fx Ar cr Af cf Ok k s w W)(hi:∀b,Ok b->CO b)(hn:∀b,CO b->b≠mb/\b≠gk):lW w0 gk mb base rows fx Ar cr Af cf CO k s w W:=
 ⟨h.b2,h.b3,h.b4,⟨h.wk.k,h.wk.b,h.wk.m.step rfl (fun _ _ _=>rfl) hi,h.wk.Uw,h.wk.ne,hn⟩,h.kp⟩
def Bo(base:Int)(rows:List (List Int))(fx:List dJ)(left:Nat)(cells:List Int)(s:Nat->Int)(pre:List E3):IZ:=(pre.map (·.1)).foldl (mK (gV base rows fx left) cells s) (0,0,[])
theorem lW.call{w0:World}{gk mb:Nat}{base:Int}{rows:List (List Int)}{fx:List dJ}{Ar:Option Addr}{cr:Nat}{Af:Option Addr}{cf:Nat}{Ok:Nat->Prop}{k:Nat}{s:Nat->Int}{w W W':World}(h:lW w0 gk mb base rows fx Ar cr Af cf Ok k s w W)(hO:∀b,W.heap.size<=b->Ok b)
  (hw:fT w0 gk mb base rows fx Ar cr Af cf (fun b=>Ok b\/W.heap.size<=b) W') (hk:bq W.heap.size (fun b=>b=mb) W W') (hmb:mb<w.heap.size):lW w0 gk mb base rows fx Ar cr Af cf Ok k s w W':=
 ⟨h.b2.move (hk.block _ h.b2.lt (by omega)),h.b3.move (hk.block _ h.b3.lt (by omega)),h.b4.move (hk.block _ h.b4.lt (by omega)),⟨hw.k,hw.b,hw.m.step rfl (fun _ _ _=>rfl) (fun b hb=>hb.elim id (hO b)),hw.Uw,hw.ne,fun b hb=>hw.ok b (.inl hb)⟩,h.kp.trans (hk.mono h.kp.size (fun _ _ h=>h))⟩
structure iK(w0:World)(gk mb:Nat)(base:Int)(rows:List (List Int))(fx:List dJ)(Ar:Option Addr)(cr:Nat)(Af:Option Addr)(cf:Nat)(Ok:Nat->Prop)(k:Nat)(s:Nat->Int)(w:World)(B g7:Nat)(acc:IZ)(v7:Value)(x:E3)(Wr W:World):Prop where
 fr:lW w0 gk mb base rows fx Ar cr Af cf (fun b=>Ok b\/B<=b) k s w W
 b7:aR W g7 [.int .i64 acc.1,.int .i64 acc.2.1,v7] 178
 r7:(Kd.int .i64).R 3 W 0 (fun b=>B<=b) v7 acc.2.2
 rx:(Kd.int .i64).R 3 W 0 (fun b=>B<=b) (.slice x.2.1 x.1.length x.2.2) x.1
 kb:bq Wr.heap.size (fun b=>b=mb) Wr W
 sz:B<=W.heap.size
section
variable {w0:World} {gk mb:Nat} {base:Int} {rows:List (List Int)} {fx:List dJ} {Ar:Option Addr} {cr:Nat} {Af:Option Addr} {cf:Nat} {Ok:Nat->Prop} {k:Nat} {s:Nat->Int} {w:World} {B g7:Nat} {acc:IZ} {v7:Value} {x:E3} {Wr W W':World}
theorem iK.below(h:iK w0 gk mb base rows fx Ar cr Af cf Ok k s w B g7 acc v7 x Wr W)(hb:Below W.heap.size W W'):iK w0 gk mb base rows fx Ar cr Af cf Ok k s w B g7 acc v7 x Wr W':=
 ⟨h.fr.below hb,h.b7.below hb,Kd.fC h.r7 hb,Kd.fC h.rx hb,h.kb.trans (bq.of_below hb h.kb.size),Nat.le_trans h.sz hb.size⟩
theorem iK.call(h:iK w0 gk mb base rows fx Ar cr Af cf Ok k s w B g7 acc v7 x Wr W)(hw:fT w0 gk mb base rows fx Ar cr Af cf (fun b=>(Ok b\/B<=b)\/W.heap.size<=b) W')(hk:bq W.heap.size (fun b=>b=mb) W W')(hmb:mb<w.heap.size)(h7:g7≠mb)(hB:mb<B):iK w0 gk mb base rows fx Ar cr Af cf Ok k s w B g7 acc v7 x Wr W':=
 ⟨h.fr.call (fun b hb=> .inr (Nat.le_trans h.sz hb)) hw hk hmb,h.b7.move (hk.block _ h.b7.lt h7),Kd.fJ h.r7 (fun b hb hlt=>hk.block b hlt (by omega)),Kd.fJ h.rx (fun b hb hlt=>hk.block b hlt (by omega)),h.kb.trans (hk.mono h.kb.size (fun _ _ h=>h)),Nat.le_trans h.sz hk.size⟩
end
theorem lM{W:World}{b g:Nat}{Ok:Nat->Prop}{v:Value}{xs:List Int}{cs:List Value}(h:(Kd.int .i64).R 3 W b Ok v xs)(hb:aR W g cs 178)(j:Nat)(u:Value):(Kd.int .i64).R 3 (W.setCell ⟨g,j,none⟩ u) b Ok v xs:=
 Kd.aeR h (g:=g) (t:=178) (cells:=cs.toArray) hb (fun q hq=>by rcases List.mem_cons.1 hq with rfl|hq<;>first|decide|cases hq) j u
theorem jY.typed{W:World}{mb g:Nat}{F:Nat->(Nat->Int)->Int×Int×List Int}{Ok:Nat->Prop}{cs:List Value}(h:jY W mb F Ok)(hb:aR W g cs 178)(j:Nat)(u:Value):jY (W.setCell ⟨g,j,none⟩ u) mb F Ok:=by
 obtain⟨es,clock,h0,h1,hnd⟩:=h
 refine⟨es,clock,(Below.heap_setCell _ _ _ _ (by rintro rfl;have:=h0.symm.trans hb;cases this)).trans h0,fun e he=>?_,hnd⟩
 obtain⟨k,s,v,a,b,c,d,r⟩:=h1 e he
 exact⟨k,s,v,a,b,c,d,lM r hb j u⟩
theorem fT.typed{w0:World}{gk mb g:Nat}{base:Int}{rows:List (List Int)}{fx:List dJ}{Ar:Option Addr}{cr:Nat}{Af:Option Addr}{cf:Nat}{Ok:Nat->Prop}{W:World}{cs:List Value}(h:fT w0 gk mb base rows fx Ar cr Af cf Ok W)(hb:aR W g cs 178)(h0:w0.heap.size<=g)(j:Nat)(u:Value):fT w0 gk mb base rows fx Ar cr Af cf Ok (W.setCell ⟨g,j,none⟩ u):=
 have hne:gk≠g:=by
  rintro rfl
  have:=h.k.symm.trans hb
  injection this with this
  injection this with _ h2
  cases h2
 ⟨h.k.move (Below.heap_setCell _ _ _ _ hne),h.b.setCell (p:=⟨g,j,none⟩) h0 u,h.m.typed hb j u,h.Uw,h.ne,h.ok⟩
theorem lW.typed{w0:World}{gk mb g:Nat}{base:Int}{rows:List (List Int)}{fx:List dJ}{Ar:Option Addr}{cr:Nat}{Af:Option Addr}{cf:Nat}{Ok:Nat->Prop}{k:Nat}{s:Nat->Int}{w W:World}{cs:List Value}(h:lW w0 gk mb base rows fx Ar cr Af cf Ok k s w W)(hb:aR W g cs 178)(h0:w0.heap.size<=w.heap.size)(hg:w.heap.size+2<g)(j:Nat)(u:Value):lW w0 gk mb base rows fx Ar cr Af cf Ok k s w (W.setCell ⟨g,j,none⟩ u):=
 ⟨h.b2.move (Below.heap_setCell _ _ _ _ (by simp only;omega)),h.b3.move (Below.heap_setCell _ _ _ _ (by simp only;omega)),h.b4.move (Below.heap_setCell _ _ _ _ (by simp only;omega)),h.wk.typed hb (by omega) j u,h.kp.setCell (p:=⟨g,j,none⟩) (.inr (by simp only;omega)) u⟩
theorem fT.bound{w0:World}{gk mb:Nat}{base:Int}{rows:List (List Int)}{fx:List dJ}{Ar:Option Addr}{cr:Nat}{Af:Option Addr}{cf:Nat}{Ok:Nat->Prop}{W:World}(h:fT w0 gk mb base rows fx Ar cr Af cf Ok W):fT w0 gk mb base rows fx Ar cr Af cf (fun b=>Ok b/\b<W.heap.size) W:=by
 refine⟨h.k,h.b,?_,h.Uw,h.ne,fun b hb=>h.ok b hb.1⟩
 obtain⟨es,clock,h0,h1,hnd⟩:=h.m
 refine⟨es,clock,h0,fun e he=>?_,hnd⟩
 obtain⟨k,s,v,a,b,c,d,r⟩:=h1 e he
 exact⟨k,s,v,a,b,c,d,Kd.cK (Kd.dP r) (fun _ h=>⟨h.1,h.2.2.1⟩)⟩
theorem iK.store{w0:World}{gk mb:Nat}{base:Int}{rows:List (List Int)}{fx:List dJ}{Ar:Option Addr}{cr:Nat}{Af:Option Addr}{cf:Nat}{Ok:Nat->Prop}{k:Nat}{s:Nat->Int}{w:World}{B g7 g:Nat}{acc:IZ}{v7:Value}{x:E3}{Wr W:World}{cs:List Value}
  (h:iK w0 gk mb base rows fx Ar cr Af cf Ok k s w B g7 acc v7 x Wr W) (hb:aR W g cs 178) (h0:w0.heap.size<=w.heap.size) (hB:w.heap.size+2<B) (hg:B<=g) (h7:g7<B) (hW:Wr.heap.size<=g) (j:Nat) (u:Value):iK w0 gk mb base rows fx Ar cr Af cf Ok k s w B g7 acc v7 x Wr (W.setCell ⟨g,j,none⟩ u):=
 ⟨h.fr.typed hb h0 (by omega) j u,h.b7.move (Below.heap_setCell _ _ _ _ (by simp only;omega)),lM h.r7 hb j u,lM h.rx hb j u,h.kb.setCell (p:=⟨g,j,none⟩) (.inr hW) u,by have:=h.sz;simp[World.setCell];omega⟩
theorem iK.Zc{w0:World}{gk mb:Nat}{base:Int}{rows:List (List Int)}{fx:List dJ}{Ar:Option Addr}{cr:Nat}{Af:Option Addr}{cf:Nat}{Ok:Nat->Prop}{k:Nat}{s:Nat->Int}{w:World}{B g7 g:Nat}{acc:IZ}{v7:Value}{x:E3}{Wr W:World}{cs:List Value}
  (h:iK w0 gk mb base rows fx Ar cr Af cf Ok k s w B g7 acc v7 x Wr W) (hb:aR W g cs 178) (h0:w0.heap.size<=w.heap.size) (hB:w.heap.size+2<B) (hg:B<=g) (h7:g7<B) (hW:Wr.heap.size<=g) (a b c:Value):iK w0 gk mb base rows fx Ar cr Af cf Ok k s w B g7 acc v7 x Wr (((W.setCell ⟨g,0,none⟩ a).setCell ⟨g,1,none⟩ b).setCell ⟨g,2,none⟩ c):=
 ((h.store hb h0 hB hg h7 hW 0 a).store (hb.setAt 0 a) h0 hB hg h7 hW 1 b).store ((hb.setAt 0 a).setAt 1 b) h0 hB hg h7 hW 2 c
def Uh(w0:World)(gk mb:Nat)(base:Int)(rows:List (List Int))(fx:List dJ)(Ar:Option Addr)(cr:Nat)(Af:Option Addr)(cf:Nat)(Ok:Nat->Prop)(k:Nat)(s:Nat->Int)(w:World)(B g7 left:Nat)(cells:List Int)(all:List (List Int))(pre:List E3)(W:World):Prop:=
 (∃v7,aR W g7 [.int .i64 (Bo base rows fx left cells s pre).1,.int .i64 (Bo base rows fx left cells s pre).2.1,v7] 178/\(Kd.int .i64).R 3 W 0 (fun b=>B<=b) v7 (Bo base rows fx left cells s pre).2.2)/\lW w0 gk mb base rows fx Ar cr Af cf (fun b=>Ok b\/B<=b) k s w W/\∀y ∈ pre,y.1 ∈ all
theorem QD(base:Int)(rows:List (List Int))(fx:List dJ)(left:Nat)(cells:List Int)(s:Nat->Int)(pre:List E3)(x:E3):Bo base rows fx left cells s (pre++[x])=mK (gV base rows fx left) cells s (Bo base rows fx left cells s pre) x.1:=by
 unfold Bo
 rw[List.map_append,List.foldl_append]
 rfl
theorem qR{W:World}{b:Nat}{Ok:Nat->Prop}{A:Option Addr}{n c:Nat}{xs:List Int}(h:(Kd.int .i64).R 3 W b Ok (.slice A n c) xs):(Kd.int .i64).C W A n xs:=by
 have:=Kd.iQ h
 rw[this.1]
 exact this.2.2
def zH(w0:World)(gk mb:Nat)(base:Int)(rows:List (List Int))(fx:List dJ)(Ar:Option Addr)(cr:Nat)(Af:Option Addr)(cf:Nat)(Ok:Nat->Prop)(k:Nat)(s:Nat->Int)(w:World)(B g7:Nat)(acc:IZ)(Wr W:World):Prop:=
 bq Wr.heap.size (fun b=>b=mb\/b=g7) Wr W/\(∃v7,aR W g7 [.int .i64 acc.1,.int .i64 acc.2.1,v7] 178/\(Kd.int .i64).R 3 W 0 (fun b=>B<=b) v7 acc.2.2)/\lW w0 gk mb base rows fx Ar cr Af cf (fun b=>Ok b\/B<=b) k s w W
theorem iK.same{w0:World}{gk mb:Nat}{base:Int}{rows:List (List Int)}{fx:List dJ}{Ar:Option Addr}{cr:Nat}{Af:Option Addr}{cf:Nat}{Ok:Nat->Prop}{k:Nat}{s:Nat->Int}{w:World}{B g7:Nat}{acc:IZ}{v7:Value}{x:E3}{Wr W:World}(h:iK w0 gk mb base rows fx Ar cr Af cf Ok k s w B g7 acc v7 x Wr W):zH w0 gk mb base rows fx Ar cr Af cf Ok k s w B g7 acc Wr W:=
 ⟨h.kb.mono (Nat.le_refl _) (fun _ _ h=> .inl h),⟨v7,h.b7,h.r7⟩,h.fr⟩
theorem iK.ways{w0:World}{gk mb:Nat}{base:Int}{rows:List (List Int)}{fx:List dJ}{Ar:Option Addr}{cr:Nat}{Af:Option Addr}{cf:Nat}{Ok:Nat->Prop}{k:Nat}{s:Nat->Int}{w:World}{B g7:Nat}{acc:IZ}{v7:Value}{x:E3}{Wr W:World}(h:iK w0 gk mb base rows fx Ar cr Af cf Ok k s w B g7 acc v7 x Wr W)(h0:w0.heap.size<=w.heap.size)(hg:w.heap.size+2<g7)(a:Int):zH w0 gk mb base rows fx Ar cr Af cf Ok k s w B g7 (a,acc.2) Wr (W.setCell ⟨g7,0,none⟩ (.int .i64 a)):=
 ⟨(h.kb.mono (Nat.le_refl _) (fun _ _ h=> .inl h)).setCell (p:=⟨g7,0,none⟩) (.inl (.inr rfl)) _,⟨v7,h.b7.setAt 0 _,lM h.r7 h.b7 0 _⟩,h.fr.typed h.b7 h0 hg 0 _⟩
theorem iK.Nq{w0:World}{gk mb:Nat}{base:Int}{rows:List (List Int)}{fx:List dJ}{Ar:Option Addr}{cr:Nat}{Af:Option Addr}{cf:Nat}{Ok:Nat->Prop}{k:Nat}{s:Nat->Int}{w:World}{B g7:Nat}{acc:IZ}{v7:Value}{x:E3}{Wr W:World}(h:iK w0 gk mb base rows fx Ar cr Af cf Ok k s w B g7 acc v7 x Wr W)(h0:w0.heap.size<=w.heap.size)(hg:w.heap.size+2<g7)(a n:Int):zH w0 gk mb base rows fx Ar cr Af cf Ok k s w B g7 (a,n,x.1) Wr (((W.setCell ⟨g7,1,none⟩ (.int .i64 n)).setCell ⟨g7,2,none⟩ (.slice x.2.1 x.1.length x.2.2)).setCell ⟨g7,0,none⟩ (.int .i64 a)):=
 ⟨(((h.kb.mono (Nat.le_refl _) (fun _ _ h=> .inl h)).setCell (p:=⟨g7,1,none⟩) (.inl (.inr rfl)) _).setCell (p:=⟨g7,2,none⟩) (.inl (.inr rfl)) _).setCell (p:=⟨g7,0,none⟩) (.inl (.inr rfl)) _,
  ⟨_,((h.b7.setAt 1 _).setAt 2 _).setAt 0 _,lM (lM (lM h.rx h.b7 1 _) (h.b7.setAt 1 _) 2 _) ((h.b7.setAt 1 _).setAt 2 _) 0 _⟩,((h.fr.typed h.b7 h0 hg 1 _).typed (h.b7.setAt 1 _) h0 hg 2 _).typed ((h.b7.setAt 1 _).setAt 2 _) h0 hg 0 _⟩
set_option maxRecDepth 100000 in
set_option maxHeartbeats 40000000 in
theorem M7{w0:World}{gk mb:Nat}{base:Int}{rows:List (List Int)}{fx:List dJ}{Ar:Option Addr}{cr:Nat}{Af:Option Addr}{cf:Nat}(hT:xx w0 Ar cr base rows Af cf fx)(hfx:∀f ∈ fx,0<=f.f1/\f.f1<(rows.getD 0 []).length)(hf:fx.length<=1000):
  ∀(left k:Nat),k+left=rows.length->∀(s:Nat->Int),(∀i,0<=s i/\s i<=10200*(k:Int))->(∀i,4<=i->s i=0)->∀(Ok:Nat->Prop) (w:World),fT w0 gk mb base rows fx Ar cr Af cf Ok w->(∀b,Ok b->b<w.heap.size) ->
  Calls Tryz.prog 83 #[.pointer (some ⟨gk,0,none⟩),gX k s] w (xE w0 gk mb base rows fx Ar cr Af cf Ok w (gV base rows fx left s)):=by
 have HT:=aa.mk hT
 have HFX:=aa.mk hfx
 have hn5:=hT.n
 clear hT hfx
 intro left
 induction left with
 |zero=>
  intro k hk s hs hs4 Ok w hW X8
  have HS:=aa.mk hs
  have zi:=aa.mk hs4
  obtain rfl:k=rows.length:=by omega
  clear hs hs4 hk
  unfold gX
  refine(callsIn_wide (n:=9)).1 (dx Tryz.func83 rfl trivial ?_ rfl)
  simp only[Tryz.ntmps83,List.size_toArray,List.length_cons,List.length_nil,Nat.reduceAdd,Nat.reduceSub,Array.replicate_succ,Array.replicate_zero,List.push_toArray,List.append_toArray,List.nil_append,List.cons_append]
  refine wpIn_wide.2 ?_
  have HF:=aa.mk (lW.new rows.length s hW)
  have QK:=aa.mk (show ∀b,Ok b\/w.heap.size<=b->b≠mb/\b≠gk from fun b hb=>hb.elim (hW.ok b) (fun h=>by have h1:=hW.m.lt;have h2:=hW.k.lt;omega))
  have NN:=aa.mk (show ∀i,¬Ok (w.heap.size+i) from fun i h=>by have:=X8 _ h;omega)
  have HNE:=aa.mk (show w.heap.size+2≠gk/\w.heap.size+2≠mb from by have h1:=hW.m.lt;have h2:=hW.k.lt;omega)
  have hs0:=hW.b.size
  clear hW X8
  go_wp2_with (with_reducible refine wpIn_wide.2 ?_)
  rw[show w.heap.size+1+1=w.heap.size+2 from rfl]
  generalize((w.alloc (.cells #[.pointer (some ⟨gk,0,none⟩)] 174)).alloc (.cells #[.int .i64 (rows.length:Int),.int .i64 (s 0),.int .i64 (s 1),.int .i64 (s 2),.int .i64 (s 3)] 183)).alloc (.cells #[.int .i64 0,.int .i64 0,.slice none 0 0] 178)=w3 at HF ⊢
  have h2:=HF.out.b2.cell 0
  have h3:=HF.out.b3.cell 0
  have h1:=HF.out.wk.k.cell 1
  simp only[List.getElem?_cons_zero,List.getElem?_cons_succ] at h1 h2 h3
  go_region
  clear h1 h2 h3
  go_wp2_with (with_reducible refine wpIn_wide.2 ?_)
  replace HF:=aa.mk (HF.out.below (bG (Below.refl _ _)))
  generalize w3.drew=w4 at HF ⊢
  obtain⟨b,hb⟩:∃b,qM base rows s=b:=⟨_,rfl⟩
  have HB:=aa.mk hb
  have hV:gV base rows fx 0 s=(if b then 1 else 0,0,[]):=by rw[<- hb];rfl
  have HV:=aa.mk hV
  clear hb hV
  refine gz (n:=7) (S:=fun w'=>w'.cell? ⟨w.heap.size,0,none⟩=some (.pointer (some ⟨gk,0,none⟩))/\w'.cell? ⟨gk,0,none⟩=some (.int .i64 base)/\w'.cell? ⟨gk,1,none⟩=some (.slice Ar rows.length cr)/\w'.cell? ⟨gk,2,none⟩=some (.slice Af fx.length cf)/\w'.cell? ⟨w.heap.size+1,1,none⟩=some (.int .i64 (s 0))/\w'.cell? ⟨w.heap.size+1,2,none⟩=some (.int .i64 (s 1))/\w'.cell? ⟨w.heap.size+1,3,none⟩=some (.int .i64 (s 2))/\w'.cell? ⟨w.heap.size+1,4,none⟩=some (.int .i64 (s 3))) (ds:=[6]) #[O,O,O,O,O,O,O] (by kernel_rfl) rfl rfl ⟨(by simpa using HF.out.b2.cell 0),(by simpa using HF.out.wk.k.cell 0),(by simpa using HF.out.wk.k.cell 1),(by simpa using HF.out.wk.k.cell 2),(by simpa using HF.out.b3.cell 1),(by simpa using HF.out.b3.cell 2),(by simpa using HF.out.b3.cell 3),(by simpa using HF.out.b3.cell 4)⟩ (fun hHeld=>?_);refine bK pX.Pm pX.Dr (fun aC bW=>?_)
  replace HF:=aa.mk (HF.out.below (bG (Below.refl _ _)))
  generalize w4.drew=wd at HF hHeld ⊢
  refine eP 0 20 #[I,O,O,O,O,O,O] aC bW hHeld (hy:=by(rintro w' ⟨s0,s1,s2,s3,s4,s5,s6,s7⟩;go_simp;with_reducible rfl)) (h:=?_)
  refine bI 1 21 #[I,I,O,O,O,O,O] aC (h:=?_)
  refine bI 2 22 #[I,I,I,O,O,O,O] aC (h:=?_)
  refine eP 3 23 #[I,I,I,I,O,O,O] aC bW hHeld (hy:=by(rintro w' ⟨s0,s1,s2,s3,s4,s5,s6,s7⟩;go_simp;with_reducible rfl)) (h:=?_)
  refine bI 4 24 #[I,I,I,I,I,O,O] aC (h:=?_)
  refine eP 5 25 #[I,I,I,I,I,I,O] aC bW hHeld (hy:=by(rintro w' ⟨s0,s1,s2,s3,s4,s5,s6,s7⟩;go_simp;with_reducible rfl)) (h:=?_)
  refine dW (i:=6) (N:=some 26) #[I,I,I,I,I,I,I] rfl rfl (aN aC.out (by kernel_rfl)) (by decide) (fun K hK=>?_)
  refine fD Tryz.func115 (by kernel_rfl) rfl #[.agg #[.int .i64 base,.slice Ar rows.length cr,.slice Af fx.length cf],.agg #[.int .i64 (s 0),.int .i64 (s 1),.int .i64 (s 2),.int .i64 (s 3)]] (by rfl) rfl rfl (by(try simp only[List.map_toArray,List.map_cons,List.map_nil]);rfl) ?_
  refine(Ik s _ (HT.out.later HF.out.wk.b) (fun i=>by have:=HS.out i;omega)).mono ?_
  rintro e_ w_ ⟨rfl,hbx⟩
  refine⟨_,rfl,hK.out _ _ ?_⟩
  clear hK K
  replace HF:=aa.mk (HF.out.below hbx)
  clear hbx
  rw[HB.out]
  refine bF (by simp only[Act.put,List.setIfInBounds_toArray,List.set_cons_zero,List.set_cons_succ];rfl) ?_
  refine fF (bQ aC.out (by kernel_rfl)) ?_
  have pW:=HF.out.b4.cell 0
  have pV:=HF.out.b4.cell 1
  have BU:=HF.out.b4.cell 2
  have f40:=HF.out.b4.frozen 0
  have f41:=HF.out.b4.frozen 1
  have f42:=HF.out.b4.frozen 2
  simp only[List.getElem?_cons_zero,List.getElem?_cons_succ] at pW pV BU
  cases b
  .go_wp2_with (with_reducible refine wpIn_wide.2 ?_)
   refine o9 (CO:=Ok) (g4:=w.heap.size+2) (v:= .slice none 0 0) (ds:=[]) trivial rfl ?_ (by rw[HV.out];exact Kd.jL _ _ _ _ _) ?_ ?_ (fun b h=> .inl h) QK.out hs0
   .rw[HV.out];exact HF.out.b4.Pt _ _ _
   .exact((HF.out.wk.far ⟨by simp only;omega,NN.out _,HNE.out⟩ _).far ⟨by simp only;omega,NN.out _,HNE.out⟩ _).far ⟨by simp only;omega,NN.out _,HNE.out⟩ _
   .exact((HF.out.kp.setCell (.inr (by simp only;omega)) _).setCell (.inr (by simp only;omega)) _).setCell (.inr (by simp only;omega)) _
  .go_wp2_with (with_reducible refine wpIn_wide.2 ?_)
   refine o9 (CO:=Ok) (g4:=w.heap.size+2) (v:= .slice none 0 0) (ds:=[]) trivial rfl ?_ (by rw[HV.out];exact Kd.jL _ _ _ _ _) ?_ ?_ (fun b h=> .inl h) QK.out hs0
   .rw[HV.out];exact HF.out.b4.Pt _ _ _
   .exact((HF.out.wk.far ⟨by simp only;omega,NN.out _,HNE.out⟩ _).far ⟨by simp only;omega,NN.out _,HNE.out⟩ _).far ⟨by simp only;omega,NN.out _,HNE.out⟩ _
   .exact((HF.out.kp.setCell (.inr (by simp only;omega)) _).setCell (.inr (by simp only;omega)) _).setCell (.inr (by simp only;omega)) _
 |succ left ih=>
  intro k hk s hs hs4 Ok w hW X8
  have HS:=aa.mk hs
  have zi:=aa.mk hs4
  have hkr:((k:Int)==(rows.length:Int))=false:=by simpa using (show(k:Int)≠(rows.length:Int) by omega)
  have hkl:k<rows.length:=by omega
  have hleft:rows.length-k=left+1:=by omega
  have HIH:=aa.mk (fun(s':Nat->Int) (h1:∀i,0<=s' i/\s' i<=10200*((k:Int)+1)) (h2:∀i,4<=i->s' i=0) (CO:Nat->Prop) (W:World) (hw:fT w0 gk mb base rows fx Ar cr Af cf CO W) (ho:∀b,CO b->b<W.heap.size)=>(by
   have:=ih (k+1) (by omega) s' (by push_cast;exact h1) h2 CO W hw ho
   unfold gX at this
   rw[show((k+1:Nat):Int)=(k:Int)+1 from by push_cast;rfl] at this
   exact this:Calls Tryz.prog 83 #[.pointer (some ⟨gk,0,none⟩),.agg #[.int .i64 ((k:Int)+1),.int .i64 (s' 0),.int .i64 (s' 1),.int .i64 (s' 2),.int .i64 (s' 3)]] W (xE w0 gk mb base rows fx Ar cr Af cf CO W (gV base rows fx left s'))))
  have hso:uS s:=⟨fun i=>by have:=hs i;omega,hs4⟩
  have HSO:=aa.mk hso
  clear hs hs4 hk ih hso
  unfold gX
  refine(callsIn_wide (n:=9)).1 (dx Tryz.func83 rfl trivial ?_ rfl)
  simp only[Tryz.ntmps83,List.size_toArray,List.length_cons,List.length_nil,Nat.reduceAdd,Nat.reduceSub,Array.replicate_succ,Array.replicate_zero,List.push_toArray,List.append_toArray,List.nil_append,List.cons_append]
  refine wpIn_wide.2 ?_
  have HF:=aa.mk (lW.new k s hW)
  have QK:=aa.mk (show ∀b,Ok b\/w.heap.size<=b->b≠mb/\b≠gk from fun b hb=>hb.elim (hW.ok b) (fun h=>by have h1:=hW.m.lt;have h2:=hW.k.lt;omega))
  have NN:=aa.mk (show ∀i,¬Ok (w.heap.size+i) from fun i h=>by have:=X8 _ h;omega)
  have IC:=aa.mk X8
  have hmb:=hW.m.lt
  have hgk:=hW.k.lt
  have hs0:=hW.b.size
  have ajs:=hW.Uw
  clear hW X8
  go_wp2_with (with_reducible refine wpIn_wide.2 ?_)
  rw[show w.heap.size+1+1=w.heap.size+2 from rfl]
  generalize((w.alloc (.cells #[.pointer (some ⟨gk,0,none⟩)] 174)).alloc (.cells #[.int .i64 (k:Int),.int .i64 (s 0),.int .i64 (s 1),.int .i64 (s 2),.int .i64 (s 3)] 183)).alloc (.cells #[.int .i64 0,.int .i64 0,.slice none 0 0] 178)=w3 at HF ⊢
  have h2:=HF.out.b2.cell 0
  have h3:=HF.out.b3.cell 0
  have h1:=HF.out.wk.k.cell 1
  simp only[List.getElem?_cons_zero,List.getElem?_cons_succ] at h1 h2 h3
  go_region
  clear h1 h2 h3
  go_wp2_with (with_reducible refine wpIn_wide.2 ?_)
  replace HF:=aa.mk (HF.out.below (bG (Below.refl _ _)))
  generalize w3.drew=w4 at HF ⊢
  obtain⟨x,A5,n5,c5,b,hbt,hlk⟩:=HF.out.wk.m.lookup (k:=k) (s:=s) (by omega) HSO.out
  rw[hleft] at hbt
  obtain⟨x1,x2,x3⟩:=x
  have HBT:=aa.mk hbt
  clear hbt
  unfold lG gX at hlk
  simp only at hlk
  refine gz (n:=12) (S:=fun w'=>w'.cell? ⟨w.heap.size,0,none⟩=some (.pointer (some ⟨gk,0,none⟩))/\w'.cell? ⟨gk,3,none⟩=some (.map (some mb))/\w'.cell? ⟨w.heap.size+1,0,none⟩=some (.int .i64 (k:Int))/\w'.cell? ⟨w.heap.size+1,1,none⟩=some (.int .i64 (s 0))/\w'.cell? ⟨w.heap.size+1,2,none⟩=some (.int .i64 (s 1))/\w'.cell? ⟨w.heap.size+1,3,none⟩=some (.int .i64 (s 2))/\w'.cell? ⟨w.heap.size+1,4,none⟩=some (.int .i64 (s 3))/\(Instr.lookup 213 (.map (some mb)) (.agg #[.int .i64 (k:Int),.int .i64 (s 0),.int .i64 (s 1),.int .i64 (s 2),.int .i64 (s 3)]) true).run Tryz.prog w'= .ok (.tuple #[.agg #[.int .i64 x1,.int .i64 x2,.slice A5 n5 c5],.bool b]) w') (ds:=[10]) #[O,O,O,O,O,O,O,O,O,O,O,O] (by kernel_rfl) rfl rfl ⟨(by simpa using (HF.out).b2.cell 0),(by simpa using (HF.out).wk.k.cell 3),(by simpa using (HF.out).b3.cell 0),(by simpa using (HF.out).b3.cell 1),(by simpa using (HF.out).b3.cell 2),(by simpa using (HF.out).b3.cell 3),(by simpa using (HF.out).b3.cell 4),(hlk _ rfl)⟩ (fun hHeld=>?_);refine bK pX.Jf pX.yT (fun aC bW=>?_)
  replace HF:=aa.mk (HF.out.below (bG (Below.refl _ _)))
  have alb:=aa.mk (show ∀b,w.heap.size<=b->¬Ok b from fun b h1 h2=>by have:=IC.out b h2;omega)
  replace hlk:∀w':World,w'.heap[mb]?=w4.drew.heap[mb]?->_:=hlk
  have HW4:=aa.mk (show Below w4.heap.size w4 w4.drew from bG (Below.refl _ _))
  generalize w4.drew=wd at HF HW4 hlk hHeld ⊢
  refine eP 0 30 #[I,O,O,O,O,O,O,O,O,O,O,O] aC bW hHeld (hy:=by(rintro w' ⟨s0,s1,s2,s3,s4,s5,s6,s7⟩;go_simp;with_reducible rfl)) (h:=?_)
  refine bI 1 31 #[I,I,O,O,O,O,O,O,O,O,O,O] aC (h:=?_)
  refine bI 2 32 #[I,I,I,O,O,O,O,O,O,O,O,O] aC (h:=?_)
  refine eP 3 33 #[I,I,I,I,O,O,O,O,O,O,O,O] aC bW hHeld (hy:=by(rintro w' ⟨s0,s1,s2,s3,s4,s5,s6,s7⟩;go_simp;with_reducible rfl)) (h:=?_)
  refine eP 4 34 #[I,I,I,I,I,O,O,O,O,O,O,O] aC bW hHeld (hy:=by(rintro w' ⟨s0,s1,s2,s3,s4,s5,s6,s7⟩;go_simp;with_reducible rfl)) (h:=?_)
  refine eP 5 35 #[I,I,I,I,I,I,O,O,O,O,O,O] aC bW hHeld (hy:=by(rintro w' ⟨s0,s1,s2,s3,s4,s5,s6,s7⟩;go_simp;with_reducible rfl)) (h:=?_)
  refine bI 6 29 #[I,I,I,I,I,I,I,O,O,O,O,O] aC (h:=?_)
  refine bI 7 36 #[I,I,I,I,I,I,I,I,O,O,O,O] aC (h:=?_)
  refine bI 8 37 #[I,I,I,I,I,I,I,I,I,O,O,O] aC (h:=?_)
  refine iC (i:=9) (N:=some 5) #[I,I,I,I,I,I,I,I,I,I,O,O] rfl rfl (aN aC.out (by kernel_rfl)) (by decide) (fun K hK=>?_)
  refine dV (w1:=?_) (v:=?_) (by rfl) rfl ?_ ?_
  rotate_left 2
  .go_simp
   constructor<;>rfl
  refine hK.out _ _ ⟨(by simpa using (HF.out.below (ae (Below.refl _ _) (.cells #[.int .i64 0,.int .i64 0,.slice none 0 0] 178))).b2.cell 0),(by simpa using (HF.out.below (ae (Below.refl _ _) (.cells #[.int .i64 0,.int .i64 0,.slice none 0 0] 178))).wk.k.cell 3),(by simpa using (HF.out.below (ae (Below.refl _ _) (.cells #[.int .i64 0,.int .i64 0,.slice none 0 0] 178))).b3.cell 0),(by simpa using (HF.out.below (ae (Below.refl _ _) (.cells #[.int .i64 0,.int .i64 0,.slice none 0 0] 178))).b3.cell 1),(by simpa using (HF.out.below (ae (Below.refl _ _) (.cells #[.int .i64 0,.int .i64 0,.slice none 0 0] 178))).b3.cell 2),(by simpa using (HF.out.below (ae (Below.refl _ _) (.cells #[.int .i64 0,.int .i64 0,.slice none 0 0] 178))).b3.cell 3),(by simpa using (HF.out.below (ae (Below.refl _ _) (.cells #[.int .i64 0,.int .i64 0,.slice none 0 0] 178))).b3.cell 4),(hlk _ (Below.heap_alloc _ _ _ HF.out.wk.m.lt))⟩ (fun hHeld=>?_)
  clear hK K
  have B5:=aa.mk (aR.new wd [.int .i64 0,.int .i64 0,.slice none 0 0] 178)
  have HG5:=aa.mk (show w.heap.size+2<wd.heap.size from HF.out.b4.lt)
  have Q3:=aa.mk ((bq.refl wd.heap.size (fun _=>False) wd).alloc (Nat.le_refl _) (.cells #[.int .i64 0,.int .i64 0,.slice none 0 0] 178))
  have abt:=aa.mk (show w.heap.size<=wd.heap.size from HF.out.kp.size)
  replace HF:=aa.mk (HF.out.below (ae (Below.refl _ _) (.cells #[.int .i64 0,.int .i64 0,.slice none 0 0] 178)))
  clear hlk
  generalize hg5:wd.heap.size=g5 at B5 HG5 Q3 abt ⊢
  clear hg5
  generalize wd.alloc (.cells #[.int .i64 0,.int .i64 0,.slice none 0 0] 178)=we at B5 HF Q3 hHeld ⊢
  refine bF (by simp only[Act.put,List.setIfInBounds_toArray,List.set_cons_zero,List.set_cons_succ];rfl) ?_
  refine dW (i:=10) (N:=none) #[I,I,I,I,I,I,I,I,I,I,I,O] rfl rfl (aN aC.out (by kernel_rfl)) (by decide) (fun K hK=>?_)
  have eB:=(show we.cell? ⟨g5,0,none⟩=some (.int .i64 0) by simpa using B5.out.cell 0)
  have gP:=B5.out.frozen 0
  have Kh:we.cell? ⟨g5,1,none⟩=some (.int .i64 0):=by simpa using B5.out.cell 1
  have Km:=B5.out.frozen 1
  have rH:we.cell? ⟨g5,2,none⟩=some (.slice none 0 0):=by simpa using B5.out.cell 2
  have rM:=B5.out.frozen 2
  refine ib (w1:=?_) (by rfl) rfl ?_ ?_
  rotate_left
  .go_simp
   rfl
  refine hK.out _ _ ?_
  clear hK K eB gP Kh Km rH rM
  replace HF:=aa.mk (lW.akf HF.out (by have:=HG5.out;omega) (by have:=HG5.out;omega) alb.out hs0 (.int .i64 x1) (.int .i64 x2) (.slice A5 n5 c5))
  replace Q3:=aa.mk (((Q3.out.setCell (p:=⟨g5,0,none⟩) (.inr (Nat.le_refl _)) (.int .i64 x1)).setCell (p:=⟨g5,1,none⟩) (.inr (Nat.le_refl _)) (.int .i64 x2)).setCell (p:=⟨g5,2,none⟩) (.inr (Nat.le_refl _)) (.slice A5 n5 c5))
  replace B5:=aa.mk (B5.out.Pt (.int .i64 x1) (.int .i64 x2) (.slice A5 n5 c5))
  generalize((we.setCell ⟨g5,0,none⟩ (.int .i64 x1)).setCell ⟨g5,1,none⟩ (.int .i64 x2)).setCell ⟨g5,2,none⟩ (.slice A5 n5 c5)=wf at B5 HF Q3 ⊢
  refine bI 11 6 #[I,I,I,I,I,I,I,I,I,I,I,I] aC (h:=?_)
  refine fF (bQ aC.out (by kernel_rfl)) ?_
  have hz5:w.heap.size+2<g5:=HG5.out
  have h50:=B5.out.cell 0
  have Di:=B5.out.cell 1
  have h52:=B5.out.cell 2
  have pW:=HF.out.b4.cell 0
  have pV:=HF.out.b4.cell 1
  have BU:=HF.out.b4.cell 2
  have f40:=HF.out.b4.frozen 0
  have f41:=HF.out.b4.frozen 1
  have f42:=HF.out.b4.frozen 2
  simp only[List.getElem?_cons_zero,List.getElem?_cons_succ] at pW pV BU h50 Di h52
  cases b
  rotate_left
  .obtain⟨hx,hR⟩:=HBT.out rfl
   have HX:=aa.mk hx
   have HR:=aa.mk hR
   clear hx hR
   go_wp2_with (with_reducible refine wpIn_wide.2 ?_)
   refine o9 (CO:=Ok) (g4:=w.heap.size+2) (v:= .slice A5 n5 c5) (ds:=[]) trivial rfl ?_ ?_ ?_ ?_ (fun b h=> .inl h) QK.out hs0
   .rw[<- HX.out];exact HF.out.b4.Pt _ _ _
   .rw[<- HX.out]
    exact Kd.fJ (Kd.fJ (Kd.fJ (Kd.fJ (Kd.fC HR.out HW4.out) (fun b hb _=>Q3.out.block b (by have:=IC.out b hb;have:=abt.out;omega) (fun h=>h))) (fun b hb _=>Below.heap_setCell _ _ _ _ (by have:=IC.out b hb;simp only;omega))) (fun b hb _=>Below.heap_setCell _ _ _ _ (by have:=IC.out b hb;simp only;omega))) (fun b hb _=>Below.heap_setCell _ _ _ _ (by have:=IC.out b hb;simp only;omega))
   .exact((HF.out.wk.far ⟨by simp only;omega,NN.out _,by simp only;omega,by simp only;omega⟩ _).far ⟨by simp only;omega,NN.out _,by simp only;omega,by simp only;omega⟩ _).far ⟨by simp only;omega,NN.out _,by simp only;omega,by simp only;omega⟩ _
   .exact((HF.out.kp.setCell (.inr (by simp only;omega)) _).setCell (.inr (by simp only;omega)) _).setCell (.inr (by simp only;omega)) _
  .clear HBT pW pV BU f40 f41 f42 h50 Di h52
   have B7:=aa.mk (aR.new wf [.int .i64 0,.int .i64 0,.slice none 0 0] 178)
   have HG7:=aa.mk (show w.heap.size+2<wf.heap.size from HF.out.b4.lt)
   replace HF:=aa.mk (HF.out.below (ae (Below.refl _ _) (.cells #[.int .i64 0,.int .i64 0,.slice none 0 0] 178)))
   have h2:=HF.out.b2.cell 0
   have h3:=HF.out.b3.cell 0
   simp only[List.getElem?_cons_zero,List.getElem?_cons_succ] at h2 h3
   go_wp2_with (with_reducible refine wpIn_wide.2 ?_)
   have VG:=B7.out.lt
   clear h2 h3 B5 Q3 abt HW4 HG5 hz5
   generalize XZ:wf.heap.size=g7 at B7 HG7 VG ⊢
   generalize hw8:wf.alloc (.cells #[.int .i64 0,.int .i64 0,.slice none 0 0] 178)=w8 at HF B7 VG ⊢
   clear XZ hw8
   refine(CG gk k w8).mono ?_
   rintro e w9 ⟨rfl,hw9⟩
   have hgw:=(aR.new w8 [.pointer (some ⟨gk,0,none⟩)] 174).alloc (.cells #[.int .i64 (k:Int)] 3)
   have hgr:=aR.second w8 (.cells #[.pointer (some ⟨gk,0,none⟩)] 174) [.int .i64 (k:Int)] 3
   rw[<- hw9] at hgw hgr
   have BW:=aa.mk hgw
   have BR:=aa.mk hgr
   have Sq:Below w8.heap.size w8 w9:=by rw[hw9];exact ae (ae (Below.refl _ _) _) _
   have HS9:=aa.mk (show w9.heap.size=w8.heap.size+2 by rw[hw9];simp)
   replace HF:=aa.mk (HF.out.below Sq)
   replace B7:=aa.mk (B7.out.below Sq)
   have h8:=HG7.out
   have HL:=aa.mk Sq.size
   generalize w8.heap.size=g8 at BW BR HS9 VG ⊢
   clear hw9 hgw hgr Sq
   go_wp2_with (with_reducible refine wpIn_wide.2 ?_)
   refine(wpIn_wide (n:=9)).1 ?_
   obtain⟨B,hB⟩:∃B,w9.heap.size+6=B:=⟨_,rfl⟩
   have hw9:w9.heap.size<=g8+2/\g8+2<=w9.heap.size:=by have:=HS9.out;omega
   have aqd:gk<w.heap.size:=hgk
   have XV:gV base rows fx (left+1) s=(dO base (Aq base (rows.getD k []) fx (k:Int)) (rows.getD k []) []).foldl (mK (gV base rows fx left) (rows.getD k []) s) (0,0,[]):=by
    rw[gV,show rows.length-(left+1)=k by omega]
   have HRK:=aa.mk XV
   have hlf:=fun l=>HT.out.in_.leaf (k:=k) hkl (ok:=Aq base (rows.getD k []) fx (k:Int)) (l:=l)
   have HLF:=aa.mk hlf
   have hlN:(dO base (Aq base (rows.getD k []) fx (k:Int)) (rows.getD k []) []).length<=16:=by
    have h1:=oU base (Aq base (rows.getD k []) fx (k:Int)) (rows.getD k []) []
    have h2:(rows.getD k []).length<=4:=by rw[HT.out.l _ (nQ hkl)];exact HT.out.l4
    have h3:2^(rows.getD k []).length<=2^4:=Nat.pow_le_pow_right (by omega) h2
    omega
   clear XV hlf
   have hse:=KC (w:=w9) (gw:=g8) (gr:=g8+1) (gk:=gk) (N:=16) (S:=fun b=>b=mb\/b=g7\/b=w9.heap.size\/b=w9.heap.size+1) (row:=k) HT.out HFX.out hf hkl ?hE ?hS ?hS0 hlN
   case hE=>
    intro W' hk
    have nS:∀b,(b=g8\/b=g8+1\/b=gk)->¬(b=mb\/b=g7\/b=w9.heap.size\/b=w9.heap.size+1):=fun b hb=>by
     have:=HF.out.wk.ne
     omega
    have b1:=BW.out.move (hk.block _ BW.out.lt (nS _ (.inl rfl)))
    have b2:=BR.out.move (hk.block _ BR.out.lt (nS _ (.inr (.inl rfl))))
    have b3:=HF.out.wk.k.move (hk.block _ HF.out.wk.k.lt (nS _ (.inr (.inr rfl))))
    exact⟨b1.cell 0,b3.cell 0,b3.cell 1,b3.cell 2,b2.cell 0,⟨hk.os.trans HF.out.wk.b.os,hk.tape.trans HF.out.wk.b.tape,hk.output.trans HF.out.wk.b.output,Nat.le_trans HF.out.wk.b.size hk.size,fun b hb=>(hk.block b (Nat.lt_of_lt_of_le hb HF.out.wk.b.size) (by omega)).trans (HF.out.wk.b.block b hb)⟩⟩
   case hS=>intro b hb;omega
   case hS0=>intro b hb;omega
   rw[hB] at hse
   obtain⟨cells,hcells⟩:∃c,rows.getD k []=c:=⟨_,rfl⟩
   rw[hcells] at hse HRK HLF
   obtain⟨all,hall⟩:∃a,dO base (Aq base cells fx (k:Int)) cells []=a:=⟨_,rfl⟩
   rw[hall] at hse HRK HLF
   have HCE:=aa.mk hcells
   clear hcells hall hlN
   refine PD (k:=4) (n:=9) (by decide) rfl (enters Tryz.func150 (by kernel_rfl) rfl) hse (fun h k=>h.trans (k.mono h.size (fun _ _ h=>h))) (fun W l o' h1 h2 h3=>(bq.refl W.heap.size _ W).put (.inl (by omega)) o') (fun x=>rfl) ?hX
    (fun t x=>t.setIfInBounds 44 (.slice x.2.1 x.1.length x.2.2)) (fun t x=>(t.setIfInBounds 44 (.slice x.2.1 x.1.length x.2.2)).setIfInBounds 8 (.slice x.2.1 x.1.length x.2.2)) (fun t x=>by simp[enc3])
    (Uh w0 gk mb base rows fx Ar cr Af cf Ok k s w B g7 left cells all)
    ?hI ⟨⟨_,B7.out,Kd.jL _ _ _ _ _⟩,HF.out.ok (fun b h=> .inl h) (fun b hb=>hb.elim (fun h=>QK.out b (.inl h)) (fun h=>by omega)),fun y hy=>by cases hy⟩ ?assign ?body ?done
   case hX=>
    rintro x _ W W' row ⟨h1,h2,h3⟩ hg hr
    exact⟨Kd.cK (Kd.xy (Kd.dP h1) hg (fun b hb e=>by have:=hr b e.symm;have:=hb.2.1;omega)) (fun _ h=>trivial),h2,Nat.le_trans h3 hg.size⟩
   case hI=>
    rintro pre W W' row ⟨i1,i2,i3⟩ hg hr
    obtain⟨v7,j1,j2⟩:=i1
    exact⟨⟨v7,j1.move (hg.block g7 j1.lt (fun e=>by have:=hr _ e.symm;omega)),Kd.xy j2 hg (fun b hb e=>by have:=hr b e.symm;omega)⟩,i2.grown hg hs0 (fun r e=>by have h1:=hr r e;have h2:=NN.out;exact⟨by omega,fun h=>h.elim (fun h=>by have:=IC.out r h;omega) (fun h=>by omega),by omega,by omega⟩),i3⟩
   case assign=>
    intro l x W K hK
    simp only[List.setIfInBounds_toArray,List.set_cons_zero,List.set_cons_succ] at hK ⊢
    gi_wp2_with fail
    exact hK
   case body=>
    rintro l pre ⟨xl,xA,xc⟩ W ⟨i1,i2,i3⟩ ⟨hx1,hx2,hx3⟩ hlen
    obtain⟨v7,j1,j2⟩:=i1
    obtain⟨A7,c7,rfl⟩:=Kd.pq j2
    have Sj:=HLF.out xl hx2
    have hacc:=QD base rows fx left cells s pre (xl,xA,xc)
    have hab:=rQ (s:=s) (row:=cells) (show(0:Int)<=16^left from Int.pow_nonneg (by omega)) (show(0:Int)<=400*left by omega) (HT.out.in_.jU left (by omega)) (pre.map (·.1)) (0,0,[]) 0 (fun l hl=>by
     obtain⟨y,hy,rfl⟩:=List.mem_map.1 hl
     exact(HLF.out y.1 (i3 y hy)).c) (by simp) (by simp;omega)
    have h16:(16:Int)^left<=65536:=by
     rcases(show left=0\/left=1\/left=2\/left=3\/left=4 by omega) with rfl|rfl|rfl|rfl|rfl<;>decide
    rw[show(pre.map (·.1)).foldl (mK (gV base rows fx left) cells s) (0,0,[])=Bo base rows fx left cells s pre from rfl,List.length_map] at hab
    obtain⟨acc,hac⟩:∃a,Bo base rows fx left cells s pre=a:=⟨_,rfl⟩
    have ajW:acc.1<=16*65536:=by
     rw[hac] at hab
     have h1:(16:Int)^left*(pre.length:Int)<=65536*(pre.length:Int):=Int.mul_le_mul_of_nonneg_right h16 (by omega)
     omega
    rw[hac] at hab hacc j1 j2
    have ajX:=hab.1
    have ajV:=hab.2.2
    have ak5:=aa.mk (fun y (hy:y ∈ pre++[(xl,xA,xc)])=>(List.mem_append.1 hy).elim (i3 y) (fun h=>by rw[List.mem_singleton.1 h];exact hx2):∀y ∈ pre++[(xl,xA,xc)],y.1 ∈ all)
    have HB:=aa.mk (show iK w0 gk mb base rows fx Ar cr Af cf Ok k s w B g7 acc (.slice A7 acc.2.2.length c7) (xl,xA,xc) W W from⟨i2,j1,j2,Kd.jD (Kd.cK (Kd.dP hx1) (fun _ h=>h.2.1)) (Nat.zero_le _),bq.refl _ _ _,hx3⟩)
    obtain⟨sU,Bp,KQ⟩:=acc
    simp only at ajX ajW ajV
    obtain⟨n7,hn7⟩:∃n,KQ.length=n:=⟨_,rfl⟩
    simp only[hn7] at HB
    obtain⟨s',hs'⟩:∃s',oP s xl=s':=⟨_,rfl⟩
    have ajt:xl.length<=4:=by rw[Sj.len,<- HCE.out,HT.out.l _ (nQ hkl)];exact HT.out.l4
    have hxb:∀x ∈ xl,0<=x/\x<=10200:=fun x hx=>by
     obtain⟨i,hi,rfl⟩:=List.getElem_of_mem hx
     have:=Sj.b i hi
     rwa [List.getD_eq_getElem?_getD,List.getElem?_eq_getElem hi] at this
    have acS:∀i,0<=s' i/\s' i<=10200*((k:Int)+1):=fun i=>by
     have:=yJ HS.out (d:=10200) (by omega) hxb i
     rw[hs'] at this
     omega
    have acT:∀i,4<=i->s' i=0:=fun i hi=>by
     rw[<- hs']
     unfold oP mY
     rw[if_neg (by omega)]
     exact zi.out i hi
    have YG:=aa.mk (fun(W1:World) (hc:(Kd.int .i64).C W1 xA xl.length xl)=>(by
     have:=Ag s (c:=xc) xl W1 hc ajt (fun i=>by have:=HS.out i;omega) (fun x hx=>by have:=hxb x hx;omega)
     rw[hs'] at this
     exact this:Calls Tryz.prog 117 #[.agg #[.int .i64 (s 0),.int .i64 (s 1),.int .i64 (s 2),.int .i64 (s 3)],.slice xA xl.length xc] W1 fun e w'=>e= .returned (.agg #[.int .i64 (s' 0),.int .i64 (s' 1),.int .i64 (s' 2),.int .i64 (s' 3)])/\Below W1.heap.size W1 w'))
    obtain⟨⟨JM,DN,nx3⟩,hnx⟩:∃r,gV base rows fx left s'=r:=⟨_,rfl⟩
    have hnb:=HT.out.in_.jU left (by omega) s'
    rw[hnx] at hnb
    simp only at hnb
    have ajr:mb<B:=by omega
    have ald:=aa.mk (show JM<=65536 by omega)
    have HFR:=aa.mk (fun(W1:World) (hB1:iK w0 gk mb base rows fx Ar cr Af cf Ok k s w B g7 (sU,Bp,KQ) (.slice A7 n7 c7) (xl,xA,xc) W W1)=>(by
     refine(HIH.out s' acS acT _ W1 hB1.fr.wk.bound (fun b hb=>hb.2)).mono ?_
     rintro e w' ⟨v,rfl,hR,hW,hK⟩
     rw[hnx] at hR ⊢
     obtain⟨A9,c9,rfl⟩:=Kd.pq hR
     refine⟨A9,_,c9,rfl,Kd.cK hR (fun b hb=>hb.elim (fun h=>h.1) (fun h=> .inr (Nat.le_trans hB1.sz h))),hB1.call ⟨hW.k,hW.b,hW.m.step rfl (fun _ _ _=>rfl) (fun b hb=>hb.elim (fun h=> .inl h.1) .inr),hW.Uw,hW.ne,fun b hb=>hb.elim (fun h=>hB1.fr.wk.ok b h) (fun h=>by have h1:=hB1.fr.wk.k.lt;have h2:=hB1.fr.wk.m.lt;omega)⟩ hK hmb (by omega) ajr,hK⟩:Calls Tryz.prog 83 #[.pointer (some ⟨gk,0,none⟩),.agg #[.int .i64 ((k:Int)+1),.int .i64 (s' 0),.int .i64 (s' 1),.int .i64 (s' 2),.int .i64 (s' 3)]] W1 fun e w'=>∃A9 n9 c9,e= .returned (.agg #[.int .i64 JM,.int .i64 DN,.slice A9 n9 c9])/\(Kd.int .i64).R 3 w' 0 (fun b=>Ok b\/B<=b) (.slice A9 n9 c9) nx3/\(iK w0 gk mb base rows fx Ar cr Af cf Ok k s w B g7 (sU,Bp,KQ) (.slice A7 n7 c7) (xl,xA,xc) W w')/\bq W1.heap.size (fun b=>b=mb) W1 w'))
    have hst:mK (gV base rows fx left) cells s (sU,Bp,KQ) xl=if JM=0 then(sU,Bp,KQ) else(sU+JM,if sU=0\/DN+tN cells xl<Bp then(DN+tN cells xl,xl) else(Bp,KQ)):=by
     unfold mK
     rw[hs',hnx]
    rw[hst] at hacc
    have QR:=aa.mk hacc
    have UC:=aa.mk Sj
    have hcb:=Sj.c
    have hB9:w.heap.size+2<B:=by omega
    have h7B:g7<B:=by omega
    have hwB:W.heap.size<=W.heap.size:=Nat.le_refl _
    have hk5:(k:Int)+1<=5:=by omega
    have Xu:=aa.mk (fun(W1:World) (r:IZ) (hr:Bo base rows fx left cells s (pre++[(xl,xA,xc)])=r) (h:zH w0 gk mb base rows fx Ar cr Af cf Ok k s w B g7 r W W1)=>(⟨⟨h.1.size,fun b o hb ho _=>(h.1.block b (Array.getElem?_eq_some_iff.1 ho).1 (by omega)).trans ho⟩,h.1.mono (Nat.le_refl _) (fun b _ hb=>by omega),by unfold Uh;rw[hr];exact⟨h.2.1,h.2.2,ak5.out⟩⟩:KeepsFrom w9.heap.size W W1/\bq W.heap.size (fun b=>b=mb\/b=g7\/b=w9.heap.size\/b=w9.heap.size+1) W W1/\Uh w0 gk mb base rows fx Ar cr Af cf Ok k s w B g7 left cells all (pre++[(xl,xA,xc)]) W1))
    clear i2 i3 hx1 hx2 hx3 j1 j2 Sj hacc hab hac hs' acS acT hxb hnx hst hn7 h16
    simp only[List.setIfInBounds_toArray,List.set_cons_zero,List.set_cons_succ]
    gi_wp2_with fail
    refine jN (by rintro⟨_,_,h⟩;exact h) (by kernel_rfl) (n:=12) (S:=fun w'=>w'.cell? ⟨w.heap.size,0,none⟩=some (.pointer (some ⟨gk,0,none⟩))/\w'.cell? ⟨w.heap.size+1,0,none⟩=some (.int .i64 (k:Int))/\w'.cell? ⟨w.heap.size+1,1,none⟩=some (.int .i64 (s 0))/\w'.cell? ⟨w.heap.size+1,2,none⟩=some (.int .i64 (s 1))/\w'.cell? ⟨w.heap.size+1,3,none⟩=some (.int .i64 (s 2))/\w'.cell? ⟨w.heap.size+1,4,none⟩=some (.int .i64 (s 3))) (ds:=[11]) #[O,O,O,O,O,O,O,O,O,O,O,O] (by kernel_rfl) rfl rfl ⟨(by simpa using (HB.out.fr).b2.cell 0),(by simpa using (HB.out.fr).b3.cell 0),(by simpa using (HB.out.fr).b3.cell 1),(by simpa using (HB.out.fr).b3.cell 2),(by simpa using (HB.out.fr).b3.cell 3),(by simpa using (HB.out.fr).b3.cell 4)⟩ (fun hHeld=>?_);refine bK pX.zS pX.uQ (fun aC bW=>?_)
    replace HB:=aa.mk (HB.out.below (bG (Below.refl _ _)))
    generalize W.drew=wd at HB hHeld ⊢
    have hwk:IntKind.i64.wrap ((k:Int)+1)=(k:Int)+1:=by rw[dL];unfold wrap64;omega
    refine eP 0 45 #[I,O,O,O,O,O,O,O,O,O,O,O] aC bW hHeld (hy:=by(rintro w' ⟨s0,s1,s2,s3,s4,s5⟩;go_simp;with_reducible rfl)) (h:=?_)
    refine bI 1 46 #[I,I,O,O,O,O,O,O,O,O,O,O] aC (h:=?_)
    refine eP 2 47 #[I,I,I,O,O,O,O,O,O,O,O,O] aC bW hHeld (hy:=by(rintro w' ⟨s0,s1,s2,s3,s4,s5⟩;go_simp;with_reducible rfl)) (h:=?_)
    refine bI 3 48 #[I,I,I,I,O,O,O,O,O,O,O,O] aC (h:=?_)
    refine bI 4 49 #[I,I,I,I,I,O,O,O,O,O,O,O] aC (h:=?_)
    refine eP 5 50 #[I,I,I,I,I,I,O,O,O,O,O,O] aC bW hHeld (hy:=by(rintro w' ⟨s0,s1,s2,s3,s4,s5⟩;go_simp;with_reducible rfl)) (h:=?_)
    refine bI 6 51 #[I,I,I,I,I,I,I,O,O,O,O,O] aC (h:=?_)
    clear hwk
    refine nX (σ:=Nat×Option Addr×Nat×Nat) 1 #[I,I,I,I,I,I,I,I,I,I,I,O] (fun x=>[(52,(.agg #[.int .i64 (s' 0),.int .i64 (s' 1),.int .i64 (s' 2),.int .i64 (s' 3)])),(53,.agg #[.int .i64 ((k:Int)+1),.int .i64 (s' 0),.int .i64 (s' 1),.int .i64 (s' 2),.int .i64 (s' 3)]),(54,.agg #[.int .i64 JM,.int .i64 DN,.slice x.2.1 x.2.2.1 x.2.2.2]),(9,.pointer (some ⟨x.1,0,none⟩))]) (fun x w'=>(iK w0 gk mb base rows fx Ar cr Af cf Ok k s w B g7 (sU,Bp,KQ) (.slice A7 n7 c7) (xl,xA,xc) W w')/\aR w' x.1 [.int .i64 0,.int .i64 0,.slice none 0 0] 178/\B<=x.1/\W.heap.size<=x.1) ?cont ?orders
    case orders=>
     intro hcont
     refine zQ (i:=7) (j:=10) (Ni:=some 52) (Nj:=some 9) #[I,I,I,I,I,I,I,I,O,O,O,O] #[I,I,I,I,I,I,I,O,O,O,I,O] rfl rfl rfl rfl (nN aC.out (by kernel_rfl)) (by decide) (by decide) (fun K hK=>?_) (fun K hK=>?_)
     .refine fD Tryz.func117 (by kernel_rfl) rfl #[.agg #[.int .i64 (s 0),.int .i64 (s 1),.int .i64 (s 2),.int .i64 (s 3)],.slice xA xl.length xc] (by rfl) rfl rfl (by(try simp only[List.map_toArray,List.map_cons,List.map_nil]);rfl) ?_
      refine(YG.out _ (qR HB.out.rx)).mono ?_
      rintro e_ w_ ⟨rfl,hbx⟩
      refine⟨_,rfl,hK.out _ _ (⟨(by simpa using ((HB.out.below hbx).fr).b2.cell 0),(by simpa using ((HB.out.below hbx).fr).b3.cell 0),(by simpa using ((HB.out.below hbx).fr).b3.cell 1),(by simpa using ((HB.out.below hbx).fr).b3.cell 2),(by simpa using ((HB.out.below hbx).fr).b3.cell 3),(by simpa using ((HB.out.below hbx).fr).b3.cell 4)⟩) (fun hHeld=>?_)⟩
      clear hK K
      replace HB:=aa.mk (HB.out.below hbx)
      refine bF (by simp only[Act.put,List.setIfInBounds_toArray,List.set_cons_zero,List.set_cons_succ];rfl) ?_
      generalize w_=wp at HB hHeld ⊢
      refine bI 8 53 #[I,I,I,I,I,I,I,I,I,O,O,O] aC (h:=?_)
      refine zQ (i:=9) (j:=10) (Ni:=some 54) (Nj:=some 9) #[I,I,I,I,I,I,I,I,I,I,O,O] #[I,I,I,I,I,I,I,I,I,O,I,O] rfl rfl rfl rfl (nN aC.out (by kernel_rfl)) (by decide) (by decide) (fun K hK=>?_) (fun K hK=>?_)
      .refine fD Tryz.func83 (by kernel_rfl) rfl #[.pointer (some ⟨gk,0,none⟩),.agg #[.int .i64 ((k:Int)+1),.int .i64 (s' 0),.int .i64 (s' 1),.int .i64 (s' 2),.int .i64 (s' 3)]] (by rfl) rfl rfl (by(try simp only[List.map_toArray,List.map_cons,List.map_nil]);rfl) ?_
       refine(HFR.out _ HB.out).mono ?_
       rintro e_ w_ ⟨A9,n9,c9,rfl,hR9,mU,hK9⟩
       refine⟨_,rfl,hK.out _ _ (⟨(by simpa using (mU.fr).b2.cell 0),(by simpa using (mU.fr).b3.cell 0),(by simpa using (mU.fr).b3.cell 1),(by simpa using (mU.fr).b3.cell 2),(by simpa using (mU.fr).b3.cell 3),(by simpa using (mU.fr).b3.cell 4)⟩) (fun hHeld=>?_)⟩
       clear hK K
       replace HB:=aa.mk mU
       clear mU hR9
       refine bF (by simp only[Act.put,List.setIfInBounds_toArray,List.set_cons_zero,List.set_cons_succ];rfl) ?_
       generalize w_=wq at HB hHeld ⊢
       refine iC (i:=10) (N:=some 9) #[I,I,I,I,I,I,I,I,I,I,I,O] rfl rfl (aN aC.out (by kernel_rfl)) (by decide) (fun K hK=>?_)
       refine dV (w1:=?_) (v:=?_) (by rfl) rfl ?_ ?_
       rotate_left 2
       .go_simp
        constructor<;>rfl
       refine hK.out _ _ ⟨(by simpa using ((HB.out.below (ae (Below.refl _ _) (.cells #[.int .i64 0,.int .i64 0,.slice none 0 0] 178))).fr).b2.cell 0),(by simpa using ((HB.out.below (ae (Below.refl _ _) (.cells #[.int .i64 0,.int .i64 0,.slice none 0 0] 178))).fr).b3.cell 0),(by simpa using ((HB.out.below (ae (Below.refl _ _) (.cells #[.int .i64 0,.int .i64 0,.slice none 0 0] 178))).fr).b3.cell 1),(by simpa using ((HB.out.below (ae (Below.refl _ _) (.cells #[.int .i64 0,.int .i64 0,.slice none 0 0] 178))).fr).b3.cell 2),(by simpa using ((HB.out.below (ae (Below.refl _ _) (.cells #[.int .i64 0,.int .i64 0,.slice none 0 0] 178))).fr).b3.cell 3),(by simpa using ((HB.out.below (ae (Below.refl _ _) (.cells #[.int .i64 0,.int .i64 0,.slice none 0 0] 178))).fr).b3.cell 4)⟩ (fun hHeld=>?_)
       clear hK K
       have I8:=aa.mk (aR.new wq [.int .i64 0,.int .i64 0,.slice none 0 0] 178)
       have Uz:B<=wq.heap.size:=HB.out.sz
       have Cy:W.heap.size<=wq.heap.size:=HB.out.kb.size
       replace HB:=aa.mk (HB.out.below (ae (Below.refl _ _) (.cells #[.int .i64 0,.int .i64 0,.slice none 0 0] 178)))
       refine bF (by simp only[Act.put,List.setIfInBounds_toArray,List.set_cons_zero,List.set_cons_succ];rfl) ?_
       have hfin:=hcont (wq.heap.size,A9,n9,c9) _ ⟨HB.out,I8.out,Uz,Cy⟩
       refine bF ?_ hfin
       simp only[cB,Act.put,List.setIfInBounds_toArray,List.set_cons_zero,List.set_cons_succ]
      .refine dV (w1:=?_) (v:=?_) (by rfl) rfl ?_ ?_
       rotate_left 2
       .go_simp
        constructor<;>rfl
       refine hK.out _ _ ⟨(by simpa using ((HB.out.below (ae (Below.refl _ _) (.cells #[.int .i64 0,.int .i64 0,.slice none 0 0] 178))).fr).b2.cell 0),(by simpa using ((HB.out.below (ae (Below.refl _ _) (.cells #[.int .i64 0,.int .i64 0,.slice none 0 0] 178))).fr).b3.cell 0),(by simpa using ((HB.out.below (ae (Below.refl _ _) (.cells #[.int .i64 0,.int .i64 0,.slice none 0 0] 178))).fr).b3.cell 1),(by simpa using ((HB.out.below (ae (Below.refl _ _) (.cells #[.int .i64 0,.int .i64 0,.slice none 0 0] 178))).fr).b3.cell 2),(by simpa using ((HB.out.below (ae (Below.refl _ _) (.cells #[.int .i64 0,.int .i64 0,.slice none 0 0] 178))).fr).b3.cell 3),(by simpa using ((HB.out.below (ae (Below.refl _ _) (.cells #[.int .i64 0,.int .i64 0,.slice none 0 0] 178))).fr).b3.cell 4)⟩ (fun hHeld=>?_)
       clear hK K
       have I8:=aa.mk (aR.new wp [.int .i64 0,.int .i64 0,.slice none 0 0] 178)
       have Uz:B<=wp.heap.size:=HB.out.sz
       have Cy:W.heap.size<=wp.heap.size:=HB.out.kb.size
       replace HB:=aa.mk (HB.out.below (ae (Below.refl _ _) (.cells #[.int .i64 0,.int .i64 0,.slice none 0 0] 178)))
       generalize hg9:wp.heap.size=g9 at I8 Uz Cy ⊢
       clear hg9
       generalize wp.alloc (.cells #[.int .i64 0,.int .i64 0,.slice none 0 0] 178)=wa at I8 HB hHeld ⊢
       refine bF (by simp only[Act.put,List.setIfInBounds_toArray,List.set_cons_zero,List.set_cons_succ];rfl) ?_
       refine iC (i:=9) (N:=some 54) #[I,I,I,I,I,I,I,I,I,I,I,O] rfl rfl (aN aC.out (by kernel_rfl)) (by decide) (fun K hK=>?_)
       refine fD Tryz.func83 (by kernel_rfl) rfl #[.pointer (some ⟨gk,0,none⟩),.agg #[.int .i64 ((k:Int)+1),.int .i64 (s' 0),.int .i64 (s' 1),.int .i64 (s' 2),.int .i64 (s' 3)]] (by rfl) rfl rfl (by(try simp only[List.map_toArray,List.map_cons,List.map_nil]);rfl) ?_
       refine(HFR.out _ HB.out).mono ?_
       rintro e_ w_ ⟨A9,n9,c9,rfl,hR9,mU,hK9⟩
       refine⟨_,rfl,hK.out _ _ (⟨(by simpa using (mU.fr).b2.cell 0),(by simpa using (mU.fr).b3.cell 0),(by simpa using (mU.fr).b3.cell 1),(by simpa using (mU.fr).b3.cell 2),(by simpa using (mU.fr).b3.cell 3),(by simpa using (mU.fr).b3.cell 4)⟩) (fun hHeld=>?_)⟩
       clear hK K
       replace HB:=aa.mk mU
       replace I8:=aa.mk (I8.out.move (hK9.block _ I8.out.lt (by omega)))
       clear mU hR9
       refine bF (by simp only[Act.put,List.setIfInBounds_toArray,List.set_cons_zero,List.set_cons_succ];rfl) ?_
       have hfin:=hcont (g9,A9,n9,c9) _ ⟨HB.out,I8.out,Uz,Cy⟩
       refine bF ?_ hfin
       simp only[cB,Act.put,List.setIfInBounds_toArray,List.set_cons_zero,List.set_cons_succ]
     .refine dV (w1:=?_) (v:=?_) (by rfl) rfl ?_ ?_
      rotate_left 2
      .go_simp
       constructor<;>rfl
      refine hK.out _ _ ⟨(by simpa using ((HB.out.below (ae (Below.refl _ _) (.cells #[.int .i64 0,.int .i64 0,.slice none 0 0] 178))).fr).b2.cell 0),(by simpa using ((HB.out.below (ae (Below.refl _ _) (.cells #[.int .i64 0,.int .i64 0,.slice none 0 0] 178))).fr).b3.cell 0),(by simpa using ((HB.out.below (ae (Below.refl _ _) (.cells #[.int .i64 0,.int .i64 0,.slice none 0 0] 178))).fr).b3.cell 1),(by simpa using ((HB.out.below (ae (Below.refl _ _) (.cells #[.int .i64 0,.int .i64 0,.slice none 0 0] 178))).fr).b3.cell 2),(by simpa using ((HB.out.below (ae (Below.refl _ _) (.cells #[.int .i64 0,.int .i64 0,.slice none 0 0] 178))).fr).b3.cell 3),(by simpa using ((HB.out.below (ae (Below.refl _ _) (.cells #[.int .i64 0,.int .i64 0,.slice none 0 0] 178))).fr).b3.cell 4)⟩ (fun hHeld=>?_)
      clear hK K
      have I8:=aa.mk (aR.new wd [.int .i64 0,.int .i64 0,.slice none 0 0] 178)
      have Uz:B<=wd.heap.size:=HB.out.sz
      have Cy:W.heap.size<=wd.heap.size:=HB.out.kb.size
      replace HB:=aa.mk (HB.out.below (ae (Below.refl _ _) (.cells #[.int .i64 0,.int .i64 0,.slice none 0 0] 178)))
      generalize hg9:wd.heap.size=g9 at I8 Uz Cy ⊢
      clear hg9
      generalize wd.alloc (.cells #[.int .i64 0,.int .i64 0,.slice none 0 0] 178)=wa at I8 HB hHeld ⊢
      refine bF (by simp only[Act.put,List.setIfInBounds_toArray,List.set_cons_zero,List.set_cons_succ];rfl) ?_
      refine iC (i:=7) (N:=some 52) #[I,I,I,I,I,I,I,I,O,O,I,O] rfl rfl (aN aC.out (by kernel_rfl)) (by decide) (fun K hK=>?_)
      refine fD Tryz.func117 (by kernel_rfl) rfl #[.agg #[.int .i64 (s 0),.int .i64 (s 1),.int .i64 (s 2),.int .i64 (s 3)],.slice xA xl.length xc] (by rfl) rfl rfl (by(try simp only[List.map_toArray,List.map_cons,List.map_nil]);rfl) ?_
      refine(YG.out _ (qR HB.out.rx)).mono ?_
      rintro e_ w_ ⟨rfl,hbx⟩
      refine⟨_,rfl,hK.out _ _ (⟨(by simpa using ((HB.out.below hbx).fr).b2.cell 0),(by simpa using ((HB.out.below hbx).fr).b3.cell 0),(by simpa using ((HB.out.below hbx).fr).b3.cell 1),(by simpa using ((HB.out.below hbx).fr).b3.cell 2),(by simpa using ((HB.out.below hbx).fr).b3.cell 3),(by simpa using ((HB.out.below hbx).fr).b3.cell 4)⟩) (fun hHeld=>?_)⟩
      clear hK K
      replace HB:=aa.mk (HB.out.below hbx)
      refine bF (by simp only[Act.put,List.setIfInBounds_toArray,List.set_cons_zero,List.set_cons_succ];rfl) ?_
      replace I8:=aa.mk (I8.out.below hbx)
      clear hbx
      generalize w_=wp at HB hHeld I8 ⊢
      refine bI 8 53 #[I,I,I,I,I,I,I,I,I,O,I,O] aC (h:=?_)
      refine iC (i:=9) (N:=some 54) #[I,I,I,I,I,I,I,I,I,I,I,O] rfl rfl (aN aC.out (by kernel_rfl)) (by decide) (fun K hK=>?_)
      refine fD Tryz.func83 (by kernel_rfl) rfl #[.pointer (some ⟨gk,0,none⟩),.agg #[.int .i64 ((k:Int)+1),.int .i64 (s' 0),.int .i64 (s' 1),.int .i64 (s' 2),.int .i64 (s' 3)]] (by rfl) rfl rfl (by(try simp only[List.map_toArray,List.map_cons,List.map_nil]);rfl) ?_
      refine(HFR.out _ HB.out).mono ?_
      rintro e_ w_ ⟨A9,n9,c9,rfl,hR9,mU,hK9⟩
      refine⟨_,rfl,hK.out _ _ (⟨(by simpa using (mU.fr).b2.cell 0),(by simpa using (mU.fr).b3.cell 0),(by simpa using (mU.fr).b3.cell 1),(by simpa using (mU.fr).b3.cell 2),(by simpa using (mU.fr).b3.cell 3),(by simpa using (mU.fr).b3.cell 4)⟩) (fun hHeld=>?_)⟩
      clear hK K
      replace HB:=aa.mk mU
      replace I8:=aa.mk (I8.out.move (hK9.block _ I8.out.lt (by omega)))
      clear mU hR9
      refine bF (by simp only[Act.put,List.setIfInBounds_toArray,List.set_cons_zero,List.set_cons_succ];rfl) ?_
      have hfin:=hcont (g9,A9,n9,c9) _ ⟨HB.out,I8.out,Uz,Cy⟩
      refine bF ?_ hfin
      simp only[cB,Act.put,List.setIfInBounds_toArray,List.set_cons_zero,List.set_cons_succ]
    case cont=>
     rintro⟨x9,A9,n9,c9⟩ we ⟨hB_,Sq,Uz,Cy⟩
     replace HB:=aa.mk hB_
     have B9:=aa.mk Sq
     clear hB_ Sq hHeld
     simp only at B9 Uz Cy
     refine bF (by simp only[cB,Act.put,List.setIfInBounds_toArray,List.set_cons_zero,List.set_cons_succ];rfl) ?_
     refine dW (i:=11) (N:=none) #[I,I,I,I,I,I,I,I,I,I,I,I] rfl rfl (aN aC.out (by kernel_rfl)) (by decide) (fun K hK=>?_)
     have eB:=(show we.cell? ⟨x9,0,none⟩=some (.int .i64 0) by simpa using B9.out.cell 0)
     have gP:=B9.out.frozen 0
     have Kh:we.cell? ⟨x9,1,none⟩=some (.int .i64 0):=by simpa using B9.out.cell 1
     have Km:=B9.out.frozen 1
     have rH:we.cell? ⟨x9,2,none⟩=some (.slice none 0 0):=by simpa using B9.out.cell 2
     have rM:=B9.out.frozen 2
     refine ib (w1:=?_) (by rfl) rfl ?_ ?_
     rotate_left
     .go_simp
      rfl
     refine hK.out _ _ ?_
     clear hK K eB gP Kh Km rH rM
     replace HB:=aa.mk (HB.out.Zc B9.out hs0 hB9 Uz h7B Cy (.int .i64 JM) (.int .i64 DN) (.slice A9 n9 c9))
     replace B9:=aa.mk (B9.out.Pt (.int .i64 JM) (.int .i64 DN) (.slice A9 n9 c9))
     generalize((we.setCell ⟨x9,0,none⟩ (.int .i64 JM)).setCell ⟨x9,1,none⟩ (.int .i64 DN)).setCell ⟨x9,2,none⟩ (.slice A9 n9 c9)=wf at B9 HB ⊢
     refine fF (bQ aC.out (by kernel_rfl)) ?_
     have h90:=B9.out.cell 0
     have h91:=B9.out.cell 1
     simp only[List.getElem?_cons_zero,List.getElem?_cons_succ] at h90 h91
     by_cases p0:JM=0
     .have XN:(JM==0)=true:=by simpa using p0
      have HE:=aa.mk (Xu.out wf (sU,Bp,KQ) (by rw[QR.out,if_pos p0]) HB.out.same)
      clear p0
      gi_wp2_with fail
      exact HE.out
     have XN:(JM==0)=false:=by simpa using p0
     have HP0:=aa.mk p0
     clear p0
     gi_wp2_with fail
     clear h90 h91
     obtain⟨cst,WJ⟩:∃c,tN cells xl=c:=⟨_,rfl⟩
     have afq:=aa.mk (fun(W1:World) (hl:(Kd.int .i64).C W1 xA xl.length xl) (hb:Below w0.heap.size w0 W1) (hg:W1.cell? ⟨gk,1,none⟩=some (.slice Ar rows.length cr))=>(by
      have:=Nb (cl:=xc) rows k xl W1 hl (Kd.aK HT.out.kr hb) hg hkl (by omega) (by rw[HCE.out];exact UC.out.len) (by omega) (fun c hc=>by have:=UC.out.b c hc;omega) (fun c hc=>by
       have:=HT.out.x _ (nQ hkl) _ (Dk (show c<(rows.getD k []).length by rw[HCE.out,<- UC.out.len];exact hc))
       omega) (fun c hc=>by rw[HCE.out];exact UC.out.a c hc)
      rw[HCE.out,WJ] at this
      exact this:Calls Tryz.prog 118 #[.pointer (some ⟨gk,0,none⟩),.int .i64 (k:Int),.slice xA xl.length xc] W1 fun e w'=>e= .returned (.int .i64 cst)/\Below W1.heap.size W1 w'))
     rw[WJ] at hcb
     have ajO:=hcb.1
     have ajN:=hcb.2
     have hacc:=QR.out
     rw[WJ] at hacc
     replace QR:=aa.mk hacc
     have aji:0<=DN:=by omega
     have ajh:DN<=400*4:=by omega
     clear WJ hacc hcb
     have HCB:=aa.mk (⟨aji,ajh,ajO,ajN⟩:0<=DN/\DN<=400*4/\0<=cst/\cst<=400)
     refine jN (by rintro⟨_,_,h⟩;exact h) (by kernel_rfl) (n:=9) (S:=fun w'=>w'.cell? ⟨x9,1,none⟩=some (.int .i64 DN)/\w'.cell? ⟨w.heap.size,0,none⟩=some (.pointer (some ⟨gk,0,none⟩))/\w'.cell? ⟨w.heap.size+1,0,none⟩=some (.int .i64 (k:Int))) (ds:=[]) #[O,O,O,O,O,O,O,O,O] (by kernel_rfl) rfl rfl ⟨(by simpa using B9.out.cell 1),(by simpa using HB.out.fr.b2.cell 0),(by simpa using HB.out.fr.b3.cell 0)⟩ (fun hHeld=>?_);refine bK pX.acz pX.aa4 (fun aC bW=>?_)
     replace HB:=aa.mk (HB.out.below (bG (Below.refl _ _)))
     replace B9:=aa.mk (B9.out.move rfl:aR wf.drew _ _ _)
     generalize wf.drew=wg at HB B9 hHeld ⊢
     refine bI 0 58 #[I,O,O,O,O,O,O,O,O] aC (h:=?_)
     refine eP 1 59 #[I,I,O,O,O,O,O,O,O] aC bW hHeld (hy:=by(rintro w' ⟨s0,s1,s2⟩;go_simp;with_reducible rfl)) (h:=?_)
     refine eP 2 60 #[I,I,I,O,O,O,O,O,O] aC bW hHeld (hy:=by(rintro w' ⟨s0,s1,s2⟩;go_simp;with_reducible rfl)) (h:=?_)
     refine bI 3 61 #[I,I,I,I,O,O,O,O,O] aC (h:=?_)
     refine eP 4 62 #[I,I,I,I,I,O,O,O,O] aC bW hHeld (hy:=by(rintro w' ⟨s0,s1,s2⟩;go_simp;with_reducible rfl)) (h:=?_)
     refine bI 5 63 #[I,I,I,I,I,I,O,O,O] aC (h:=?_)
     refine iC (i:=6) (N:=some 64) #[I,I,I,I,I,I,I,O,O] rfl rfl (aN aC.out (by kernel_rfl)) (by decide) (fun K hK=>?_)
     refine fD Tryz.func118 (by kernel_rfl) rfl #[.pointer (some ⟨gk,0,none⟩),.int .i64 (k:Int),.slice xA xl.length xc] (by rfl) rfl rfl (by(try simp only[List.map_toArray,List.map_cons,List.map_nil]);rfl) ?_
     refine(afq.out _ (qR HB.out.rx) HB.out.fr.wk.b (by simpa using HB.out.fr.wk.k.cell 1)).mono ?_
     rintro e_ w_ ⟨rfl,hbx⟩
     refine⟨_,rfl,hK.out _ _ ⟨(by simpa using (B9.out.below hbx).cell 1),(by simpa using (HB.out.below hbx).fr.b2.cell 0),(by simpa using (HB.out.below hbx).fr.b3.cell 0)⟩ (fun hHeld=>?_)⟩
     clear hK K
     replace HB:=aa.mk (HB.out.below hbx)
     replace B9:=aa.mk (B9.out.below hbx)
     clear hbx hHeld afq
     generalize w_=wf at HB B9 ⊢
     have hwk:IntKind.i64.wrap (DN+cst)=DN+cst:=by have:=HCB.out;rw[dL];unfold wrap64;omega
     refine bF (by simp only[Act.put,List.setIfInBounds_toArray,List.set_cons_zero,List.set_cons_succ];rfl) ?_
     refine bI 7 65 #[I,I,I,I,I,I,I,I,O] aC (h:=?_)
     refine bI 8 10 #[I,I,I,I,I,I,I,I,I] aC (h:=?_)
     refine fF (bQ aC.out (by kernel_rfl)) ?_
     clear hwk
     have M5:=HB.out.b7.cell 0
     have Qi:=HB.out.b7.cell 1
     have h72:=HB.out.b7.cell 2
     have f70:=HB.out.b7.frozen 0
     have f71:=HB.out.b7.frozen 1
     have f72:=HB.out.b7.frozen 2
     have h90:=B9.out.cell 0
     simp only[List.getElem?_cons_zero,List.getElem?_cons_succ] at M5 Qi h72 h90
     have hnx1:JM<=65536:=by have:=ald.out;omega
     have hww:wrap64 (sU+JM)=sU+JM:=by unfold wrap64;omega
     by_cases p1:sU=0
     .have p1b:(sU==0)=true:=by simpa using p1
      have HE:=aa.mk (Xu.out _ _ (by rw[QR.out,if_neg HP0.out,if_pos (.inl p1)]) (HB.out.Nq hs0 (by omega) (sU+JM) (DN+cst)))
      clear p1
      gi_wp2_with fail
      exact HE.out
     have p1b:(sU==0)=false:=by simpa using p1
     by_cases p2:DN+cst<Bp
     .have p2b:decide (DN+cst<Bp)=true:=by simpa using p2
      have HE:=aa.mk (Xu.out _ _ (by rw[QR.out,if_neg HP0.out,if_pos (.inr p2)]) (HB.out.Nq hs0 (by omega) (sU+JM) (DN+cst)))
      clear p1 p2
      gi_wp2_with fail
      exact HE.out
     .have p2b:decide (DN+cst<Bp)=false:=by simpa using p2
      have HE:=aa.mk (Xu.out _ _ (by rw[QR.out,if_neg HP0.out,if_neg (fun h=>h.elim p1 p2)]) (HB.out.ways hs0 (by omega) (sU+JM)))
      clear p1 p2
      gi_wp2_with fail
      exact HE.out
   case done=>
    rintro D xs W hD hxs ⟨i1,i2,i3⟩ uW
    obtain⟨v7,j1,j2⟩:=i1
    have hacc:Bo base rows fx left cells s xs=gV base rows fx (left+1) s:=by
     rw[HRK.out]
     unfold Bo
     rw[hxs]
    rw[hacc] at j1 j2
    obtain⟨A7,c7,rfl⟩:=Kd.pq j2
    have adS:=i2.wk.ok
    have hup:=i2.wk.m
    obtain⟨o,ho,hMo⟩:=(hup.below (bG (Below.refl _ _))).update (fun b hb=>(adS b hb).1) (k:=k) (s:=s) (by omega) HSO.out (v:= .slice A7 (gV base rows fx (left+1) s).2.2.length c7) (by rw[hleft];exact Kd.cK (Kd.fC j2 (bG (Below.refl _ _))) (fun b h=> .inr h))
    rw[hleft] at ho
    unfold lG gX at ho
    obtain⟨⟨r1,r2,r3⟩,hr⟩:∃r,gV base rows fx (left+1) s=r:=⟨_,rfl⟩
    have HRR:=aa.mk hr
    rw[hr] at ho j1 j2
    simp only at ho j1 j2
    obtain⟨n7,hn7⟩:∃n,r3.length=n:=⟨_,rfl⟩
    rw[hn7] at ho j1 j2
    have HDM:=aa.mk uW
    have HDE:=aa.mk hD
    have HMO:=aa.mk hMo
    have CP:=aa.mk i2
    have J1:=aa.mk j1
    have J2:=aa.mk j2
    clear uW hD hMo i2 i3 j1 j2 hacc hr hn7 hup adS hxs
    have h20:=CP.out.b2.cell 0
    have kQ:=CP.out.b3.cell 0
    have h31:=CP.out.b3.cell 1
    have h32:=CP.out.b3.cell 2
    have CB:=CP.out.b3.cell 3
    have h34:=CP.out.b3.cell 4
    have hk3:=CP.out.wk.k.cell 3
    have M5:=J1.out.cell 0
    have Qi:=J1.out.cell 1
    have h72:=J1.out.cell 2
    simp only[List.getElem?_cons_zero,List.getElem?_cons_succ] at h20 kQ h31 h32 CB h34 hk3 M5 Qi h72
    dsimp only
    go_wp2_with (with_reducible refine wpIn_wide.2 ?_)
    go_region
    clear h20 kQ h31 h32 CB h34 hk3 M5 Qi h72 ho
    have hne:=CP.out.wk.ne
    have hsz:=CP.out.wk.m.lt
    have j1:=J1.out.move (w':=W.drew.putObj mb o) (bL _ _ (by omega))
    have j2:(Kd.int .i64).R 3 (W.drew.putObj mb o) 0 (fun b=>B<=b) (.slice A7 n7 c7) r3:=Kd.fJ J2.out (fun b hb _=>bL _ _ (by omega))
    have b4:=CP.out.b4.move (w':=W.drew.putObj mb o) (bL _ _ (by omega))
    have kp:=(CP.out.kp.drew).put (l:=mb) (.inl rfl) o
    have wk:fT w0 gk mb base rows fx Ar cr Af cf (fun b=>Ok b\/B<=b) (W.drew.putObj mb o):=⟨CP.out.wk.k.move (bL _ _ hne),(bG CP.out.wk.b).grown (grownBy_putObj' W.drew mb o) CP.out.wk.b.size (fun k e=>by cases e;exact ajs),HMO.out,CP.out.wk.Uw,hne,CP.out.wk.ok⟩
    have hdm:(W.drew.putObj mb o).heap[D]?=some (.deferred (some [])):=(bL W.drew o (by have:=HDE.out;omega)).trans HDM.out
    clear J1 J2 CP HMO HDM
    have J1:=aa.mk j1
    have J2:=aa.mk j2
    have B4:=aa.mk b4
    have KP:=aa.mk kp
    have WK:=aa.mk wk
    have HDM:=aa.mk hdm
    clear j1 j2 b4 kp wk hdm
    generalize W.drew.putObj mb o=wu at J1 J2 B4 KP WK HDM ⊢
    have M5:=J1.out.cell 0
    have Qi:=J1.out.cell 1
    have h72:=J1.out.cell 2
    have pW:=B4.out.cell 0
    have pV:=B4.out.cell 1
    have BU:=B4.out.cell 2
    have f40:=B4.out.frozen 0
    have f41:=B4.out.frozen 1
    have f42:=B4.out.frozen 2
    simp only[List.getElem?_cons_zero,List.getElem?_cons_succ] at M5 Qi h72 pW pV BU
    go_wp2_with (with_reducible refine wpIn_wide.2 ?_)
    have hDl:=HDE.out
    refine o9 (CO:=fun b=>Ok b\/B<=b) (g4:=w.heap.size+2) (v:= .slice A7 n7 c7) (ds:=[{target:= .collected D,args:=#[]}]) ⟨⟨D,rfl,by omega,?_,fun d' hd'=>by cases hd'⟩,trivial⟩ (by rfl) (by rw[HRR.out];exact B4.out.Pt _ _ _) ?_ ?_ ?_ (fun b h=>h.imp id (fun h=>by omega)) QK.out hs0
    .exact((Below.heap_setCell _ _ _ _ (by simp only;omega)).trans ((Below.heap_setCell _ _ _ _ (by simp only;omega)).trans (Below.heap_setCell _ _ _ _ (by simp only;omega)))).trans HDM.out
    .rw[HRR.out]
     exact Kd.cK (lM (lM (lM J2.out B4.out 0 _) (B4.out.setAt 0 _) 1 _) ((B4.out.setAt 0 _).setAt 1 _) 2 _) (fun b h=> .inr h)
    .exact((WK.out.typed B4.out (by omega) 0 _).typed (B4.out.setAt 0 _) (by omega) 1 _).typed ((B4.out.setAt 0 _).setAt 1 _) (by omega) 2 _
    .exact((KP.out.setCell (p:=⟨w.heap.size+2,0,none⟩) (.inr (by simp only;omega)) _).setCell (p:=⟨w.heap.size+2,1,none⟩) (.inr (by simp only;omega)) _).setCell (p:=⟨w.heap.size+2,2,none⟩) (.inr (by simp only;omega)) _
end Go.Proofs.YtkjoilgpmngndaaGreat
