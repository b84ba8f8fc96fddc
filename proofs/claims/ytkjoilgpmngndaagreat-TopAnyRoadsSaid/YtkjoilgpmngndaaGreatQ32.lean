import Derived.Test.YtkjoilgpmngndaaGreatQ31
set_option linter.all false
namespace Go.Proofs.YtkjoilgpmngndaaGreat
open Go.RowKit Go.Shelf au YtkjoilgpmngndaaGreatW.aj YtkjoilgpmngndaaGreatW.aJ
attribute [local go_sem] Oper.semAt_some
def qM.T2:Bool×List (List Nat×List Nat):=(true,[([],[]),([0],[0]),([1],[1]),([2],[2]),([],[]),([4],[4]),([3,5],[3,5])])
def qM.B2:List Nat:=[0,1,3,7,0,16,63]
theorem qM.NQ:dW .any (opsOf Tryz.f83 2)=qM.T2:=by kernel_rfl
theorem qM.Ep:bJ qM.T2.2 qM.B2=true:=by kernel_rfl
def qM.T5:Bool×List (List Nat×List Nat):=(true,[([],[]),([0],[0]),([1],[1]),([2],[2]),([],[]),([3,4],[3,4]),([5],[5]),([6],[6]),([6],[6]),([],[]),([9,7,0,1,2,3,4,5,6,7,9],[7,9]),([8,10,0,1,2,3,4,5,6,7,8,9,10],[8])])
def qM.B5:List Nat:=[0,1,3,7,0,31,63,127,127,0,767,2047]
theorem qM.Gt:dW .any (opsOf Tryz.f83 5)=qM.T5:=by kernel_rfl
theorem qM.zC:bJ qM.T5.2 qM.B5=true:=by kernel_rfl
def qM.Sd:Bool×List (List Nat×List Nat):=(true,[([],[]),([],[]),([1],[1]),([2],[2]),([],[]),([4],[4]),([],[]),([5,6],[5,6]),([3,7],[3,7]),([0,8,7],[0,8]),([],[]),([10,9,9,0,1,2,3,4,5,6,7,8,9,10],[9,10])])
def qM.B11:List Nat:=[0,0,2,6,0,16,0,112,254,511,0,2047]
theorem qM.vE:dW .any (opsOf Tryz.f83 11)=qM.Sd:=by kernel_rfl
theorem qM.qH:bJ qM.Sd.2 qM.B11=true:=by kernel_rfl
def qM.T13:Bool×List (List Nat×List Nat):=(true,[([],[]),([0],[0]),([],[]),([],[]),([3],[3]),([],[]),([2,4,5],[2,4,5]),([1,6],[1,6]),([7,6,0,1,2,3,4,5,6,7],[7])])
def qM.TI:List Nat:=[0,1,0,0,8,0,60,127,255]
theorem qM.Mj:dW .any (opsOf Tryz.f83 13)=qM.T13:=by kernel_rfl
theorem qM.FR:bJ qM.T13.2 qM.TI=true:=by kernel_rfl
def qM.T17:Bool×List (List Nat×List Nat):=(true,[([],[]),([0],[0]),([1],[1]),([2],[2]),([],[]),([],[]),([3,4,5,0,1,2,3,4,5],[3,4,5])])
def qM.B17:List Nat:=[0,1,3,7,0,0,63]
theorem qM.V4:dW .any (opsOf Tryz.f83 17)=qM.T17:=by kernel_rfl
theorem qM.RP:bJ qM.T17.2 qM.B17=true:=by kernel_rfl
theorem uj{F:(Nat->Int)->Gh}{row:List Int}{s:Nat->Int}{B C:Int}(hB:0<=B)(hC:0<=C)(hF:∀s,0<=(F s).1/\(F s).1<=B/\0<=(F s).2.1/\(F s).2.1<=C):∀(ls:List (List Int)) (acc:Gh) (X:Int),(∀l ∈ ls,0<=vK row l/\vK row l<=400)->0<=acc.1/\acc.1<=X->0<=acc.2.1/\acc.2.1<=C+400 ->
  0<=(ls.foldl (nH F row s) acc).1/\(ls.foldl (nH F row s) acc).1<=X+B*ls.length/\0<=(ls.foldl (nH F row s) acc).2.1/\(ls.foldl (nH F row s) acc).2.1<=C+400
 |[],acc,X,_,h1,h2=>by simp;omega
 |l::ls,acc,X,hl,h1,h2=>by
  have hf:=hF (pX s l)
  have hc:=hl l List.mem_cons_self
  rw[List.foldl_cons,List.length_cons]
  have hst:(0<=(nH F row s acc l).1/\(nH F row s acc l).1<=X+B)/\0<=(nH F row s acc l).2.1/\(nH F row s acc l).2.1<=C+400:=by
   unfold nH
   split
   .omega
   .simp only
    split
    .simp only;omega
    .omega
  have:=uj (s:=s) hB hC hF ls (nH F row s acc l) (X+B) (λx hx=>hl x (List.mem_cons_of_mem _ hx)) hst.1 hst.2
  have e:B*((ls.length+1:Nat):Int)=B*ls.length+B:=by push_cast;rw[Int.mul_add,Int.mul_one]
  rw[e]
  omega
structure IA(base:Int)(rows:List (List Int))(fx:List dN):Prop where
 b0:2<=base
 b1:base<=100
 n:rows.length<=5
 l:∀r ∈ rows,r.length=(rows.getD 0 []).length
 l4:(rows.getD 0 []).length<=4
 x:∀r ∈ rows,∀x ∈ r,0<=x/\x<=10100
theorem yl.in_{w:World}{A:Option Addr}{c:Nat}{base:Int}{rows:List (List Int)}{Af:Option Addr}{cf:Nat}{fx:List dN}(h:yl w A c base rows Af cf fx):IA base rows fx:=⟨h.b0,h.b1,h.n,h.l,h.l4,h.x⟩
theorem oQ{rows:List (List Int)}{k:Nat}(h:k<rows.length):rows.getD k [] ∈ rows:=by
 rw[List.getD_eq_getElem?_getD,List.getElem?_eq_getElem h]
 exact List.getElem_mem h
theorem El{xs:List Int}{k:Nat}(h:k<xs.length):xs.getD k 0 ∈ xs:=by
 rw[List.getD_eq_getElem?_getD,List.getElem?_eq_getElem h]
 exact List.getElem_mem h
structure aiT(row l:List Int):Prop where
 len:l.length=row.length
 b:∀c,c<l.length->0<=l.getD c 0/\l.getD c 0<=10200
 a:∀c,c<l.length->pE (l.getD c 0) (row.getD c 0)<=100
 c:0<=vK row l/\vK row l<=400
theorem IA.leaf{base:Int}{rows:List (List Int)}{fx:List dN}(h:IA base rows fx){k:Nat}(hk:k<rows.length){ok:List Int->Bool}{l:List Int}(hl:l ∈ dZ base ok (rows.getD k []) []):aiT (rows.getD k []) l:=by
 obtain⟨_,t,h1,h2,h3⟩:=zz h.b0 hl
 rw[List.nil_append] at h1
 subst h1
 have hm:=oQ hk
 have hx:=h.x _ hm
 have hb:=h.b1
 have hlen:=h.l _ hm
 have h4:=h.l4
 have ha:∀c,c<l.length->pE (l.getD c 0) ((rows.getD k []).getD c 0)<=100:=λc hc=>by
  have:=h3 c (by omega)
  unfold pE
  omega
 have hc:=sK (rows.getD k []) l l.length ha
 refine⟨h2,λc hc=>?_,ha,hc.1,?_⟩
 .have h5:=h3 c (by omega)
  have h6:=hx _ (El (show c<(rows.getD k []).length by omega))
  omega
 .have:=hc.2
  show pg _ _ _<=400
  omega
theorem IA.jT{base:Int}{rows:List (List Int)}{fx:List dN}(h:IA base rows fx):∀(left:Nat),left<=rows.length->∀s,0<=(iE base rows fx left s).1/\(iE base rows fx left s).1<=(16:Int)^left/\0<=(iE base rows fx left s).2.1/\(iE base rows fx left s).2.1<=400*left
 |0,_,s=>by
  unfold iE
  split<;>simp
 |left+1,hl,s=>by
  have hk:rows.length-(left+1)<rows.length:=by omega
  have ih:=h.jT left (by omega)
  have hp:(0:Int)<=16^left:=Int.pow_nonneg (by omega)
  have hb:=uj (s:=s) hp (show(0:Int)<=400*left by omega) ih (dZ base (Bo base (rows.getD (rows.length-(left+1)) []) fx ((rows.length-(left+1):Nat):Int)) (rows.getD (rows.length-(left+1)) []) []) (0,0,[]) 0 (λl hm=>(h.leaf hk hm).c) (by simp) (by simp;omega)
  have hlen:=pY base (Bo base (rows.getD (rows.length-(left+1)) []) fx ((rows.length-(left+1):Nat):Int)) (rows.getD (rows.length-(left+1)) []) []
  have hr:(rows.getD (rows.length-(left+1)) []).length<=4:=by rw[h.l _ (oQ hk)];exact h.l4
  have aoa:2^(rows.getD (rows.length-(left+1)) []).length<=2^4:=Nat.pow_le_pow_right (by omega) hr
  have h16:((dZ base (Bo base (rows.getD (rows.length-(left+1)) []) fx ((rows.length-(left+1):Nat):Int)) (rows.getD (rows.length-(left+1)) []) []).length:Int)<=16:=by omega
  have hmul:(16:Int)^left*((dZ base (Bo base (rows.getD (rows.length-(left+1)) []) fx ((rows.length-(left+1):Nat):Int)) (rows.getD (rows.length-(left+1)) []) []).length:Int)<=16^left*16:=Int.mul_le_mul_of_nonneg_left h16 hp
  have hex:(16:Int)^(left+1)=16^left*16:=by rw[Int.pow_succ]
  rw[iE]
  rw[hex]
  refine⟨hb.1,by omega,hb.2.2.1,?_⟩
  push_cast
  omega
structure gH(w0:World)(gk mb:Nat)(base:Int)(rows:List (List Int))(fx:List dN)(Ar:Option Addr)(cr:Nat)(Af:Option Addr)(cf:Nat)(Ok:Nat->Prop)(W:World):Prop where
 k:aR W gk [.int .i64 base,.slice Ar rows.length cr,.slice Af fx.length cf,.map (some mb)] 215
 b:Below w0.heap.size w0 W
 m:kI W mb (λk s=>iE base rows fx (rows.length-k) s) Ok
 Tt:w0.heap.size<=mb
 ne:gk≠mb
 ok:∀b,Ok b->b≠mb/\b≠gk
theorem gH.step{w0:World}{gk mb:Nat}{base:Int}{rows:List (List Int)}{fx:List dN}{Ar:Option Addr}{cr:Nat}{Af:Option Addr}{cf:Nat}{Ok:Nat->Prop}{W W':World}(h:gH w0 gk mb base rows fx Ar cr Af cf Ok W)(T:Nat->Prop)(hk:bq W.heap.size T W W')(h0:∀b,T b->w0.heap.size<=b/\¬Ok b/\b≠gk/\b≠mb):gH w0 gk mb base rows fx Ar cr Af cf Ok W':=
 ⟨h.k.move (hk.block _ h.k.lt (λe=>(h0 _ e).2.2.1 rfl)),⟨hk.os.trans h.b.os,hk.tape.trans h.b.tape,hk.output.trans h.b.output,Nat.le_trans h.b.size hk.size,λb hb=>(hk.block b (Nat.lt_of_lt_of_le hb h.b.size) (λe=>by have:=(h0 _ e).1;omega)).trans (h.b.block b hb)⟩,
  h.m.step (hk.block _ h.m.lt (λe=>(h0 _ e).2.2.2 rfl)) (λb hb hlt=>hk.block b hlt (λe=>(h0 _ e).2.1 hb)) (λ_ h=>h),h.Tt,h.ne,h.ok⟩
theorem gH.below{w0:World}{gk mb:Nat}{base:Int}{rows:List (List Int)}{fx:List dN}{Ar:Option Addr}{cr:Nat}{Af:Option Addr}{cf:Nat}{Ok:Nat->Prop}{W W':World}(h:gH w0 gk mb base rows fx Ar cr Af cf Ok W)(hb:Below W.heap.size W W'):gH w0 gk mb base rows fx Ar cr Af cf Ok W':=
 h.step (λ_=>False) (bq.of_below hb (Nat.le_refl _)) (λ_ e=>e.elim)
theorem kI.put{W:World}{mb D:Nat}{F:Nat->(Nat->Int)->Int×Int×List Int}{Ok:Nat->Prop}{x:Option (List Deferred)}(h:kI W mb F Ok)(hD:W.heap[D]?=some (.deferred x))(o:Obj):kI (W.putObj D o) mb F Ok:=by
 obtain⟨es,clock,h0,h1,hnd⟩:=h
 refine⟨es,clock,(World.putObj_heap_other (by rintro rfl;rw[h0] at hD;cases hD)).trans h0,λe he=>?_,hnd⟩
 obtain⟨k,s,v,a,b,c,d,r⟩:=h1 e he
 refine⟨k,s,v,a,b,c,d,Kd.bB (Kd.gQ (Kd.bE r) (λi hi _=>World.putObj_heap_other ?_)) (λ_ h=>h.1)⟩
 rintro rfl
 obtain⟨_,_,_,q,_,cells,hc⟩:=hi
 rw[hc] at hD
 cases hD
theorem Ng{W:World}{D b:Nat}{Ok:Nat->Prop}{v:Value}{xs:List Int}{x:Option (List Deferred)}(h:(Kd.int .i64).R 3 W b Ok v xs)(hD:W.heap[D]?=some (.deferred x))(o:Obj):(Kd.int .i64).R 3 (W.putObj D o) b Ok v xs:=by
 refine Kd.bB (Kd.gQ (Kd.bE h) (λi hi _=>World.putObj_heap_other ?_)) (λ_ h=>h.1)
 rintro rfl
 obtain⟨_,_,_,q,_,cells,hc⟩:=hi
 rw[hc] at hD
 cases hD
theorem gH.put{w0:World}{gk mb D:Nat}{base:Int}{rows:List (List Int)}{fx:List dN}{Ar:Option Addr}{cr:Nat}{Af:Option Addr}{cf:Nat}{Ok:Nat->Prop}{W:World}{x:Option (List Deferred)}(h:gH w0 gk mb base rows fx Ar cr Af cf Ok W)(hD:W.heap[D]?=some (.deferred x))(h0:w0.heap.size<=D)(o:Obj):gH w0 gk mb base rows fx Ar cr Af cf Ok (W.putObj D o):=
 ⟨h.k.move (World.putObj_heap_other (by rintro rfl;rw[h.k] at hD;cases hD)),h.b.grown (grownBy_putObj' W D o) h.b.size (λk e=>by cases e;exact h0),h.m.put hD o,h.Tt,h.ne,h.ok⟩
def yw(w0:World)(gk mb:Nat)(base:Int)(rows:List (List Int))(fx:List dN)(Ar:Option Addr)(cr:Nat)(Af:Option Addr)(cf:Nat)(Ok:Nat->Prop)(w:World)(x:Gh)(e:Ending)(w':World):Prop:=
 ∃v,e= .returned (mr x v)/\(Kd.int .i64).R 3 w' 0 (λb=>Ok b\/w.heap.size<=b) v x.2.2/\gH w0 gk mb base rows fx Ar cr Af cf (λb=>Ok b\/w.heap.size<=b) w'/\bq w.heap.size (λb=>b=mb) w w'
theorem aa7:Tryz.prog.underlying 178=some (.struct (Tryz.prog.fieldsOf 178)):=by kernel_rfl
theorem qj{w0:World}{gk mb:Nat}{base:Int}{rows:List (List Int)}{fx:List dN}{Ar:Option Addr}{cr:Nat}{Af:Option Addr}{cf:Nat}{Ok DR:Nat->Prop}{w W:World}{x:Gh}{v:Value}{g4:Nat}{ds:List Deferred}{tmps:Array Value}{n:Nat}
  (hm:Marks w.heap.size W ds) (h4:tmps.getD 4 undef= .pointer (some ⟨g4,0,none⟩)) (hB:aR W g4 [.int .i64 x.1,.int .i64 x.2.1,v] 178) (hR:(Kd.int .i64).R 3 W 0 DR v x.2.2) (hW:gH w0 gk mb base rows fx Ar cr Af cf DR W) (hK:bq w.heap.size (λb=>b=mb) w W)
  (hO:∀b,DR b->Ok b\/w.heap.size<=b) (hO2:∀b,Ok b\/w.heap.size<=b->b≠mb/\b≠gk) (h0:w0.heap.size<=w.heap.size):
  LeavesInM Fence.wide n Tryz.prog Tryz.f83 tmps (yw w0 gk mb base rows fx Ar cr Af cf Ok w x) ds .returning W:=by
 refine Marks.leaves (lo:=w.heap.size) (Inv:=λW=>aR W g4 [.int .i64 x.1,.int .i64 x.2.1,v] 178/\(Kd.int .i64).R 3 W 0 DR v x.2.2/\gH w0 gk mb base rows fx Ar cr Af cf DR W/\bq w.heap.size (λb=>b=mb) w W) ?_ (λW hi=>?_) ds W hm ⟨hB,hR,hW,hK⟩
 .rintro W D hlo hD ⟨i1,i2,i3,i4⟩
  exact⟨i1.move (World.putObj_heap_other (by rintro rfl;rw[i1] at hD;cases hD)),Ng i2 hD _,i3.put hD (by omega) _,i4.put (.inr hlo) _⟩
 .obtain⟨i1,i2,i3,i4⟩:=hi
  refine⟨_,results_cell_row rfl _ _ g4 178 #[.int .i64 x.1,.int .i64 x.2.1,v] (0,0) _ h4 i1 aa7 rfl (by kernel_rfl),v,rfl,Kd.bB i2 hO,⟨i3.k,i3.b,i3.m.step rfl (λ_ _ _=>rfl) hO,i3.Tt,i3.ne,hO2⟩,i4⟩
structure mM(w0:World)(gk mb:Nat)(base:Int)(rows:List (List Int))(fx:List dN)(Ar:Option Addr)(cr:Nat)(Af:Option Addr)(cf:Nat)(Ok:Nat->Prop)(k:Nat)(s:Nat->Int)(w W:World):Prop where
 b2:aR W w.heap.size [.pointer (some ⟨gk,0,none⟩)] 174
 b3:aR W (w.heap.size+1) [.int .i64 (k:Int),.int .i64 (s 0),.int .i64 (s 1),.int .i64 (s 2),.int .i64 (s 3)] 183
 b4:aR W (w.heap.size+2) [.int .i64 0,.int .i64 0,.slice none 0 0] 178
 wk:gH w0 gk mb base rows fx Ar cr Af cf Ok W
 kp:bq w.heap.size (λb=>b=mb) w W
theorem mM.below{w0:World}{gk mb:Nat}{base:Int}{rows:List (List Int)}{fx:List dN}{Ar:Option Addr}{cr:Nat}{Af:Option Addr}{cf:Nat}{Ok:Nat->Prop}{k:Nat}{s:Nat->Int}{w W W':World}(h:mM w0 gk mb base rows fx Ar cr Af cf Ok k s w W)(hb:Below W.heap.size W W'):mM w0 gk mb base rows fx Ar cr Af cf Ok k s w W':=
 ⟨h.b2.below hb,h.b3.below hb,h.b4.below hb,h.wk.below hb,h.kp.trans (bq.of_below hb h.kp.size)⟩
theorem mM.new{w0:World}{gk mb:Nat}{base:Int}{rows:List (List Int)}{fx:List dN}{Ar:Option Addr}{cr:Nat}{Af:Option Addr}{cf:Nat}{Ok:Nat->Prop}{w:World}(k:Nat)(s:Nat->Int)(h:gH w0 gk mb base rows fx Ar cr Af cf Ok w):
  mM w0 gk mb base rows fx Ar cr Af cf Ok k s w (((w.alloc (.cells #[.pointer (some ⟨gk,0,none⟩)] 174)).alloc (.cells #[.int .i64 (k:Int),.int .i64 (s 0),.int .i64 (s 1),.int .i64 (s 2),.int .i64 (s 3)] 183)).alloc (.cells #[.int .i64 0,.int .i64 0,.slice none 0 0] 178)):=by
 have hb:=ae (ae (ae (Below.refl w.heap.size w) (.cells #[.pointer (some ⟨gk,0,none⟩)] 174)) (.cells #[.int .i64 (k:Int),.int .i64 (s 0),.int .i64 (s 1),.int .i64 (s 2),.int .i64 (s 3)] 183)) (.cells #[.int .i64 0,.int .i64 0,.slice none 0 0] 178)
 have h3:=aR.second w (.cells #[.pointer (some ⟨gk,0,none⟩)] 174) [.int .i64 (k:Int),.int .i64 (s 0),.int .i64 (s 1),.int .i64 (s 2),.int .i64 (s 3)] 183
 have h4:=aR.second (w.alloc (.cells #[.pointer (some ⟨gk,0,none⟩)] 174)) (.cells #[.int .i64 (k:Int),.int .i64 (s 0),.int .i64 (s 1),.int .i64 (s 2),.int .i64 (s 3)] 183) [.int .i64 0,.int .i64 0,.slice none 0 0] 178
 rw[World.size_alloc] at h4
 exact⟨((aR.new w [.pointer (some ⟨gk,0,none⟩)] 174).alloc _).alloc _,h3.alloc _,h4,h.below hb,bq.of_below hb (Nat.le_refl _)⟩
theorem aR.N7{w:World}{g:Nat}{a b c:Value}{t:TypeId}(h:aR w g [a,b,c] t)(u v x:Value):aR (((w.setCell ⟨g,0,none⟩ u).setCell ⟨g,1,none⟩ v).setCell ⟨g,2,none⟩ x) g [u,v,x] t:=((h.setAt 0 u).setAt 1 v).setAt 2 x
theorem gH.far{w0:World}{gk mb:Nat}{base:Int}{rows:List (List Int)}{fx:List dN}{Ar:Option Addr}{cr:Nat}{Af:Option Addr}{cf:Nat}{Ok:Nat->Prop}{W:World}(h:gH w0 gk mb base rows fx Ar cr Af cf Ok W){p:Addr}(h0:w0.heap.size<=p.block/\¬Ok p.block/\p.block≠gk/\p.block≠mb)(u:Value):gH w0 gk mb base rows fx Ar cr Af cf Ok (W.setCell p u):=
 h.step (λb=>b=p.block) ((bq.refl W.heap.size (λb=>b=p.block) W).setCell (p:=p) (.inl rfl) u) (λb e=>by subst e;exact h0)
theorem mM.ain{w0:World}{gk mb:Nat}{base:Int}{rows:List (List Int)}{fx:List dN}{Ar:Option Addr}{cr:Nat}{Af:Option Addr}{cf:Nat}{Ok:Nat->Prop}{k:Nat}{s:Nat->Int}{w W:World}(h:mM w0 gk mb base rows fx Ar cr Af cf Ok k s w W){g:Nat}(hg:w.heap.size+2<g)(hgg:g≠gk/\g≠mb)(hO:∀b,w.heap.size<=b->¬Ok b)(h0:w0.heap.size<=w.heap.size)(a b c:Value):
  mM w0 gk mb base rows fx Ar cr Af cf Ok k s w (((W.setCell ⟨g,0,none⟩ a).setCell ⟨g,1,none⟩ b).setCell ⟨g,2,none⟩ c):=by
 have far:∀{V:World} (p:Addr) (u:Value),p.block=g->mM w0 gk mb base rows fx Ar cr Af cf Ok k s w V->mM w0 gk mb base rows fx Ar cr Af cf Ok k s w (V.setCell p u):=λp u e h=>
  ⟨h.b2.move (Below.heap_setCell _ _ _ _ (by omega)),h.b3.move (Below.heap_setCell _ _ _ _ (by omega)),h.b4.move (Below.heap_setCell _ _ _ _ (by omega)),h.wk.far ⟨by omega,hO _ (by omega),by omega,by omega⟩ u,h.kp.setCell (.inr (by omega)) u⟩
 exact far _ _ rfl (far _ _ rfl (far _ _ rfl h))
theorem Du{W W':World}{row:Option Nat}(hg:W.grownBy W' row):bq W.heap.size (λb=>row=some b) W W':=⟨hg.os,hg.tape,hg.output,hg.size,λk hk hs=>hg.block k hk (λe=>hs e.symm)⟩
theorem mM.grown{w0:World}{gk mb:Nat}{base:Int}{rows:List (List Int)}{fx:List dN}{Ar:Option Addr}{cr:Nat}{Af:Option Addr}{cf:Nat}{Ok:Nat->Prop}{k:Nat}{s:Nat->Int}{w W W':World}(h:mM w0 gk mb base rows fx Ar cr Af cf Ok k s w W){row:Option Nat}(hg:W.grownBy W' row)(h0:w0.heap.size<=w.heap.size)(hr:∀r,row=some r->w.heap.size+2<r/\¬Ok r/\r≠gk/\r≠mb):mM w0 gk mb base rows fx Ar cr Af cf Ok k s w W':=
 have hk:=Du hg
 ⟨h.b2.move (hk.block _ h.b2.lt (λe=>by have:=(hr _ e).1;omega)),h.b3.move (hk.block _ h.b3.lt (λe=>by have:=(hr _ e).1;omega)),h.b4.move (hk.block _ h.b4.lt (λe=>by have:=(hr _ e).1;omega)),h.wk.step _ hk (λb e=>⟨by have:=(hr _ e).1;omega,(hr _ e).2⟩),h.kp.trans (hk.mono h.kp.size (λb hb e=>by have:=(hr _ e).1;omega))⟩
theorem mM.ok{w0:World}{gk mb:Nat}{base:Int}{rows:List (List Int)}{fx:List dN}{Ar:Option Addr}{cr:Nat}{Af:Option Addr}{cf:Nat}{Ok DR:Nat->Prop}{k:Nat}{s:Nat->Int}{w W:World}(h:mM w0 gk mb base rows fx Ar cr Af cf Ok k s w W)(hi:∀b,Ok b->DR b)(hn:∀b,DR b->b≠mb/\b≠gk):mM w0 gk mb base rows fx Ar cr Af cf DR k s w W:=
 ⟨h.b2,h.b3,h.b4,⟨h.wk.k,h.wk.b,h.wk.m.step rfl (λ_ _ _=>rfl) hi,h.wk.Tt,h.wk.ne,hn⟩,h.kp⟩
def Ct(base:Int)(rows:List (List Int))(fx:List dN)(left:Nat)(cells:List Int)(s:Nat->Int)(pre:List E3):Gh:=(pre.map (·.1)).foldl (nH (iE base rows fx left) cells s) (0,0,[])
theorem mM.call{w0:World}{gk mb:Nat}{base:Int}{rows:List (List Int)}{fx:List dN}{Ar:Option Addr}{cr:Nat}{Af:Option Addr}{cf:Nat}{Ok:Nat->Prop}{k:Nat}{s:Nat->Int}{w W W':World}(h:mM w0 gk mb base rows fx Ar cr Af cf Ok k s w W)(hO:∀b,W.heap.size<=b->Ok b)
  (hw:gH w0 gk mb base rows fx Ar cr Af cf (λb=>Ok b\/W.heap.size<=b) W') (hk:bq W.heap.size (λb=>b=mb) W W') (hmb:mb<w.heap.size):mM w0 gk mb base rows fx Ar cr Af cf Ok k s w W':=
 ⟨h.b2.move (hk.block _ h.b2.lt (by omega)),h.b3.move (hk.block _ h.b3.lt (by omega)),h.b4.move (hk.block _ h.b4.lt (by omega)),⟨hw.k,hw.b,hw.m.step rfl (λ_ _ _=>rfl) (λb hb=>hb.elim id (hO b)),hw.Tt,hw.ne,λb hb=>hw.ok b (.inl hb)⟩,h.kp.trans (hk.mono h.kp.size (λ_ _ h=>h))⟩
structure je(w0:World)(gk mb:Nat)(base:Int)(rows:List (List Int))(fx:List dN)(Ar:Option Addr)(cr:Nat)(Af:Option Addr)(cf:Nat)(Ok:Nat->Prop)(k:Nat)(s:Nat->Int)(w:World)(B g7:Nat)(acc:Gh)(v7:Value)(x:E3)(Wr W:World):Prop where
 fr:mM w0 gk mb base rows fx Ar cr Af cf (λb=>Ok b\/B<=b) k s w W
 b7:aR W g7 [.int .i64 acc.1,.int .i64 acc.2.1,v7] 178
 r7:(Kd.int .i64).R 3 W 0 (λb=>B<=b) v7 acc.2.2
 rx:(Kd.int .i64).R 3 W 0 (λb=>B<=b) (.slice x.2.1 x.1.length x.2.2) x.1
 kb:bq Wr.heap.size (λb=>b=mb) Wr W
 sz:B<=W.heap.size
section
variable {w0:World} {gk mb:Nat} {base:Int} {rows:List (List Int)} {fx:List dN} {Ar:Option Addr} {cr:Nat} {Af:Option Addr} {cf:Nat} {Ok:Nat->Prop} {k:Nat} {s:Nat->Int} {w:World} {B g7:Nat} {acc:Gh} {v7:Value} {x:E3} {Wr W W':World}
theorem je.below(h:je w0 gk mb base rows fx Ar cr Af cf Ok k s w B g7 acc v7 x Wr W)(hb:Below W.heap.size W W'):je w0 gk mb base rows fx Ar cr Af cf Ok k s w B g7 acc v7 x Wr W':=
 ⟨h.fr.below hb,h.b7.below hb,Kd.bV h.r7 hb,Kd.bV h.rx hb,h.kb.trans (bq.of_below hb h.kb.size),Nat.le_trans h.sz hb.size⟩
theorem je.call(h:je w0 gk mb base rows fx Ar cr Af cf Ok k s w B g7 acc v7 x Wr W)(hw:gH w0 gk mb base rows fx Ar cr Af cf (λb=>(Ok b\/B<=b)\/W.heap.size<=b) W')(hk:bq W.heap.size (λb=>b=mb) W W')(hmb:mb<w.heap.size)(h7:g7≠mb)(hB:mb<B):je w0 gk mb base rows fx Ar cr Af cf Ok k s w B g7 acc v7 x Wr W':=
 ⟨h.fr.call (λb hb=> .inr (Nat.le_trans h.sz hb)) hw hk hmb,h.b7.move (hk.block _ h.b7.lt h7),Kd.gQ h.r7 (λb hb hlt=>hk.block b hlt (by omega)),Kd.gQ h.rx (λb hb hlt=>hk.block b hlt (by omega)),h.kb.trans (hk.mono h.kb.size (λ_ _ h=>h)),Nat.le_trans h.sz hk.size⟩
end
theorem lI{W:World}{b g:Nat}{Ok:Nat->Prop}{v:Value}{xs:List Int}{cs:List Value}(h:(Kd.int .i64).R 3 W b Ok v xs)(hb:aR W g cs 178)(j:Nat)(u:Value):(Kd.int .i64).R 3 (W.setCell ⟨g,j,none⟩ u) b Ok v xs:=
 Kd.adq h (g:=g) (t:=178) (cells:=cs.toArray) hb (λq hq=>by rcases List.mem_cons.1 hq with rfl|hq<;>first|decide|cases hq) j u
theorem kI.typed{W:World}{mb g:Nat}{F:Nat->(Nat->Int)->Int×Int×List Int}{Ok:Nat->Prop}{cs:List Value}(h:kI W mb F Ok)(hb:aR W g cs 178)(j:Nat)(u:Value):kI (W.setCell ⟨g,j,none⟩ u) mb F Ok:=by
 obtain⟨es,clock,h0,h1,hnd⟩:=h
 refine⟨es,clock,(Below.heap_setCell _ _ _ _ (by rintro rfl;have:=h0.symm.trans hb;cases this)).trans h0,λe he=>?_,hnd⟩
 obtain⟨k,s,v,a,b,c,d,r⟩:=h1 e he
 exact⟨k,s,v,a,b,c,d,lI r hb j u⟩
theorem gH.typed{w0:World}{gk mb g:Nat}{base:Int}{rows:List (List Int)}{fx:List dN}{Ar:Option Addr}{cr:Nat}{Af:Option Addr}{cf:Nat}{Ok:Nat->Prop}{W:World}{cs:List Value}(h:gH w0 gk mb base rows fx Ar cr Af cf Ok W)(hb:aR W g cs 178)(h0:w0.heap.size<=g)(j:Nat)(u:Value):gH w0 gk mb base rows fx Ar cr Af cf Ok (W.setCell ⟨g,j,none⟩ u):=
 have hne:gk≠g:=by
  rintro rfl
  have:=h.k.symm.trans hb
  injection this with this
  injection this with _ h2
  cases h2
 ⟨h.k.move (Below.heap_setCell _ _ _ _ hne),h.b.setCell (p:=⟨g,j,none⟩) h0 u,h.m.typed hb j u,h.Tt,h.ne,h.ok⟩
theorem mM.typed{w0:World}{gk mb g:Nat}{base:Int}{rows:List (List Int)}{fx:List dN}{Ar:Option Addr}{cr:Nat}{Af:Option Addr}{cf:Nat}{Ok:Nat->Prop}{k:Nat}{s:Nat->Int}{w W:World}{cs:List Value}(h:mM w0 gk mb base rows fx Ar cr Af cf Ok k s w W)(hb:aR W g cs 178)(h0:w0.heap.size<=w.heap.size)(hg:w.heap.size+2<g)(j:Nat)(u:Value):mM w0 gk mb base rows fx Ar cr Af cf Ok k s w (W.setCell ⟨g,j,none⟩ u):=
 ⟨h.b2.move (Below.heap_setCell _ _ _ _ (by simp only;omega)),h.b3.move (Below.heap_setCell _ _ _ _ (by simp only;omega)),h.b4.move (Below.heap_setCell _ _ _ _ (by simp only;omega)),h.wk.typed hb (by omega) j u,h.kp.setCell (p:=⟨g,j,none⟩) (.inr (by simp only;omega)) u⟩
theorem gH.bound{w0:World}{gk mb:Nat}{base:Int}{rows:List (List Int)}{fx:List dN}{Ar:Option Addr}{cr:Nat}{Af:Option Addr}{cf:Nat}{Ok:Nat->Prop}{W:World}(h:gH w0 gk mb base rows fx Ar cr Af cf Ok W):gH w0 gk mb base rows fx Ar cr Af cf (λb=>Ok b/\b<W.heap.size) W:=by
 refine⟨h.k,h.b,?_,h.Tt,h.ne,λb hb=>h.ok b hb.1⟩
 obtain⟨es,clock,h0,h1,hnd⟩:=h.m
 refine⟨es,clock,h0,λe he=>?_,hnd⟩
 obtain⟨k,s,v,a,b,c,d,r⟩:=h1 e he
 exact⟨k,s,v,a,b,c,d,Kd.bB (Kd.bE r) (λ_ h=>⟨h.1,h.2.2.1⟩)⟩
theorem je.store{w0:World}{gk mb:Nat}{base:Int}{rows:List (List Int)}{fx:List dN}{Ar:Option Addr}{cr:Nat}{Af:Option Addr}{cf:Nat}{Ok:Nat->Prop}{k:Nat}{s:Nat->Int}{w:World}{B g7 g:Nat}{acc:Gh}{v7:Value}{x:E3}{Wr W:World}{cs:List Value}
  (h:je w0 gk mb base rows fx Ar cr Af cf Ok k s w B g7 acc v7 x Wr W) (hb:aR W g cs 178) (h0:w0.heap.size<=w.heap.size) (hB:w.heap.size+2<B) (hg:B<=g) (h7:g7<B) (hW:Wr.heap.size<=g) (j:Nat) (u:Value):je w0 gk mb base rows fx Ar cr Af cf Ok k s w B g7 acc v7 x Wr (W.setCell ⟨g,j,none⟩ u):=
 ⟨h.fr.typed hb h0 (by omega) j u,h.b7.move (Below.heap_setCell _ _ _ _ (by simp only;omega)),lI h.r7 hb j u,lI h.rx hb j u,h.kb.setCell (p:=⟨g,j,none⟩) (.inr hW) u,by have:=h.sz;simp[World.setCell];omega⟩
theorem je.XH{w0:World}{gk mb:Nat}{base:Int}{rows:List (List Int)}{fx:List dN}{Ar:Option Addr}{cr:Nat}{Af:Option Addr}{cf:Nat}{Ok:Nat->Prop}{k:Nat}{s:Nat->Int}{w:World}{B g7 g:Nat}{acc:Gh}{v7:Value}{x:E3}{Wr W:World}{cs:List Value}
  (h:je w0 gk mb base rows fx Ar cr Af cf Ok k s w B g7 acc v7 x Wr W) (hb:aR W g cs 178) (h0:w0.heap.size<=w.heap.size) (hB:w.heap.size+2<B) (hg:B<=g) (h7:g7<B) (hW:Wr.heap.size<=g) (a b c:Value):je w0 gk mb base rows fx Ar cr Af cf Ok k s w B g7 acc v7 x Wr (((W.setCell ⟨g,0,none⟩ a).setCell ⟨g,1,none⟩ b).setCell ⟨g,2,none⟩ c):=
 ((h.store hb h0 hB hg h7 hW 0 a).store (hb.setAt 0 a) h0 hB hg h7 hW 1 b).store ((hb.setAt 0 a).setAt 1 b) h0 hB hg h7 hW 2 c
def Tc(w0:World)(gk mb:Nat)(base:Int)(rows:List (List Int))(fx:List dN)(Ar:Option Addr)(cr:Nat)(Af:Option Addr)(cf:Nat)(Ok:Nat->Prop)(k:Nat)(s:Nat->Int)(w:World)(B g7 left:Nat)(cells:List Int)(all:List (List Int))(pre:List E3)(W:World):Prop:=
 (∃v7,aR W g7 [.int .i64 (Ct base rows fx left cells s pre).1,.int .i64 (Ct base rows fx left cells s pre).2.1,v7] 178/\(Kd.int .i64).R 3 W 0 (λb=>B<=b) v7 (Ct base rows fx left cells s pre).2.2)/\mM w0 gk mb base rows fx Ar cr Af cf (λb=>Ok b\/B<=b) k s w W/\∀y ∈ pre,y.1 ∈ all
theorem Px(base:Int)(rows:List (List Int))(fx:List dN)(left:Nat)(cells:List Int)(s:Nat->Int)(pre:List E3)(x:E3):Ct base rows fx left cells s (pre++[x])=nH (iE base rows fx left) cells s (Ct base rows fx left cells s pre) x.1:=by
 unfold Ct
 rw[List.map_append,List.foldl_append]
 rfl
theorem sP{W:World}{b:Nat}{Ok:Nat->Prop}{A:Option Addr}{n c:Nat}{xs:List Int}(h:(Kd.int .i64).R 3 W b Ok (.slice A n c) xs):(Kd.int .i64).C W A n xs:=by
 have:=Kd.dL h
 rw[this.1]
 exact this.2.2
def Az(w0:World)(gk mb:Nat)(base:Int)(rows:List (List Int))(fx:List dN)(Ar:Option Addr)(cr:Nat)(Af:Option Addr)(cf:Nat)(Ok:Nat->Prop)(k:Nat)(s:Nat->Int)(w:World)(B g7:Nat)(acc:Gh)(Wr W:World):Prop:=
 bq Wr.heap.size (λb=>b=mb\/b=g7) Wr W/\(∃v7,aR W g7 [.int .i64 acc.1,.int .i64 acc.2.1,v7] 178/\(Kd.int .i64).R 3 W 0 (λb=>B<=b) v7 acc.2.2)/\mM w0 gk mb base rows fx Ar cr Af cf (λb=>Ok b\/B<=b) k s w W
theorem je.same{w0:World}{gk mb:Nat}{base:Int}{rows:List (List Int)}{fx:List dN}{Ar:Option Addr}{cr:Nat}{Af:Option Addr}{cf:Nat}{Ok:Nat->Prop}{k:Nat}{s:Nat->Int}{w:World}{B g7:Nat}{acc:Gh}{v7:Value}{x:E3}{Wr W:World}(h:je w0 gk mb base rows fx Ar cr Af cf Ok k s w B g7 acc v7 x Wr W):Az w0 gk mb base rows fx Ar cr Af cf Ok k s w B g7 acc Wr W:=
 ⟨h.kb.mono (Nat.le_refl _) (λ_ _ h=> .inl h),⟨v7,h.b7,h.r7⟩,h.fr⟩
theorem je.ways{w0:World}{gk mb:Nat}{base:Int}{rows:List (List Int)}{fx:List dN}{Ar:Option Addr}{cr:Nat}{Af:Option Addr}{cf:Nat}{Ok:Nat->Prop}{k:Nat}{s:Nat->Int}{w:World}{B g7:Nat}{acc:Gh}{v7:Value}{x:E3}{Wr W:World}(h:je w0 gk mb base rows fx Ar cr Af cf Ok k s w B g7 acc v7 x Wr W)(h0:w0.heap.size<=w.heap.size)(hg:w.heap.size+2<g7)(a:Int):Az w0 gk mb base rows fx Ar cr Af cf Ok k s w B g7 (a,acc.2) Wr (W.setCell ⟨g7,0,none⟩ (.int .i64 a)):=
 ⟨(h.kb.mono (Nat.le_refl _) (λ_ _ h=> .inl h)).setCell (p:=⟨g7,0,none⟩) (.inl (.inr rfl)) _,⟨v7,h.b7.setAt 0 _,lI h.r7 h.b7 0 _⟩,h.fr.typed h.b7 h0 hg 0 _⟩
theorem je.RS{w0:World}{gk mb:Nat}{base:Int}{rows:List (List Int)}{fx:List dN}{Ar:Option Addr}{cr:Nat}{Af:Option Addr}{cf:Nat}{Ok:Nat->Prop}{k:Nat}{s:Nat->Int}{w:World}{B g7:Nat}{acc:Gh}{v7:Value}{x:E3}{Wr W:World}(h:je w0 gk mb base rows fx Ar cr Af cf Ok k s w B g7 acc v7 x Wr W)(h0:w0.heap.size<=w.heap.size)(hg:w.heap.size+2<g7)(a n:Int):Az w0 gk mb base rows fx Ar cr Af cf Ok k s w B g7 (a,n,x.1) Wr (((W.setCell ⟨g7,1,none⟩ (.int .i64 n)).setCell ⟨g7,2,none⟩ (.slice x.2.1 x.1.length x.2.2)).setCell ⟨g7,0,none⟩ (.int .i64 a)):=
 ⟨(((h.kb.mono (Nat.le_refl _) (λ_ _ h=> .inl h)).setCell (p:=⟨g7,1,none⟩) (.inl (.inr rfl)) _).setCell (p:=⟨g7,2,none⟩) (.inl (.inr rfl)) _).setCell (p:=⟨g7,0,none⟩) (.inl (.inr rfl)) _,
  ⟨_,((h.b7.setAt 1 _).setAt 2 _).setAt 0 _,lI (lI (lI h.rx h.b7 1 _) (h.b7.setAt 1 _) 2 _) ((h.b7.setAt 1 _).setAt 2 _) 0 _⟩,((h.fr.typed h.b7 h0 hg 1 _).typed (h.b7.setAt 1 _) h0 hg 2 _).typed ((h.b7.setAt 1 _).setAt 2 _) h0 hg 0 _⟩
set_option maxRecDepth 100000 in
set_option maxHeartbeats 40000000 in
theorem KD{w0:World}{gk mb:Nat}{base:Int}{rows:List (List Int)}{fx:List dN}{Ar:Option Addr}{cr:Nat}{Af:Option Addr}{cf:Nat}(hT:yl w0 Ar cr base rows Af cf fx)(hfx:∀f ∈ fx,0<=f.f1/\f.f1<(rows.getD 0 []).length)(hf:fx.length<=1000):
  ∀(left k:Nat),k+left=rows.length->∀(s:Nat->Int),(∀i,0<=s i/\s i<=10200*(k:Int))->(∀i,4<=i->s i=0)->∀(Ok:Nat->Prop) (w:World),gH w0 gk mb base rows fx Ar cr Af cf Ok w->(∀b,Ok b->b<w.heap.size) ->
  Calls Tryz.prog 83 #[.pointer (some ⟨gk,0,none⟩),iG k s] w (yw w0 gk mb base rows fx Ar cr Af cf Ok w (iE base rows fx left s)):=by
 have HT:=aa.mk hT
 have HFX:=aa.mk hfx
 have hn5:=hT.n
 clear hT hfx
 intro left
 induction left with
 |zero=>
  intro k hk s hs hs4 Ok w hW WJ
  have HS:=aa.mk hs
  have zT:=aa.mk hs4
  obtain rfl:k=rows.length:=by omega
  clear hs hs4 hk
  unfold iG
  refine(callsIn_wide (n:=9)).1 (dS Tryz.func83 rfl trivial ?_ rfl)
  simp only[Tryz.ntmps83,List.size_toArray,List.length_cons,List.length_nil,Nat.reduceAdd,Nat.reduceSub,Array.replicate_succ,Array.replicate_zero,List.push_toArray,List.append_toArray,List.nil_append,List.cons_append]
  refine wpIn_wide.2 ?_
  have HF:=aa.mk (mM.new rows.length s hW)
  have Vy:=aa.mk (show ∀b,Ok b\/w.heap.size<=b->b≠mb/\b≠gk from λb hb=>hb.elim (hW.ok b) (λh=>by have h1:=hW.m.lt;have h2:=hW.k.lt;omega))
  have SC:=aa.mk (show ∀i,¬Ok (w.heap.size+i) from λi h=>by have:=WJ _ h;omega)
  have HNE:=aa.mk (show w.heap.size+2≠gk/\w.heap.size+2≠mb from by have h1:=hW.m.lt;have h2:=hW.k.lt;omega)
  have hs0:=hW.b.size
  clear hW WJ
  go_wp2_with (with_reducible refine wpIn_wide.2 ?_)
  rw[show w.heap.size+1+1=w.heap.size+2 from rfl]
  generalize((w.alloc (.cells #[.pointer (some ⟨gk,0,none⟩)] 174)).alloc (.cells #[.int .i64 (rows.length:Int),.int .i64 (s 0),.int .i64 (s 1),.int .i64 (s 2),.int .i64 (s 3)] 183)).alloc (.cells #[.int .i64 0,.int .i64 0,.slice none 0 0] 178)=w3 at HF ⊢
  have h2:=HF.out.b2.cell 0
  have h3:=HF.out.b3.cell 0
  have h1:=HF.out.wk.k.cell 1
  simp only[eP,eO] at h1 h2 h3
  go_region
  clear h1 h2 h3
  go_wp2_with (with_reducible refine wpIn_wide.2 ?_)
  replace HF:=aa.mk (HF.out.below (aM (Below.refl _ _)))
  generalize w3.drew=w4 at HF ⊢
  obtain⟨b,hb⟩:∃b,sM base rows s=b:=⟨_,rfl⟩
  have HB:=aa.mk hb
  have hV:iE base rows fx 0 s=(if b then 1 else 0,0,[]):=by rw[<- hb];rfl
  have HV:=aa.mk hV
  clear hb hV
  refine dB (n:=7) (S:=λw'=>w'.cell? ⟨w.heap.size,0,none⟩=some (.pointer (some ⟨gk,0,none⟩))/\w'.cell? ⟨gk,0,none⟩=some (.int .i64 base)/\w'.cell? ⟨gk,1,none⟩=some (.slice Ar rows.length cr)/\w'.cell? ⟨gk,2,none⟩=some (.slice Af fx.length cf)/\w'.cell? ⟨w.heap.size+1,1,none⟩=some (.int .i64 (s 0))/\w'.cell? ⟨w.heap.size+1,2,none⟩=some (.int .i64 (s 1))/\w'.cell? ⟨w.heap.size+1,3,none⟩=some (.int .i64 (s 2))/\w'.cell? ⟨w.heap.size+1,4,none⟩=some (.int .i64 (s 3))) (ds:=[6]) #[O,O,O,O,O,O,O] (by kernel_rfl) rfl rfl ⟨(by simpa using HF.out.b2.cell 0),(by simpa using HF.out.wk.k.cell 0),(by simpa using HF.out.wk.k.cell 1),(by simpa using HF.out.wk.k.cell 2),(by simpa using HF.out.b3.cell 1),(by simpa using HF.out.b3.cell 2),(by simpa using HF.out.b3.cell 3),(by simpa using HF.out.b3.cell 4)⟩ (λhHeld=>?_);refine bu qM.NQ qM.Ep (λak bN=>?_)
  replace HF:=aa.mk (HF.out.below (aM (Below.refl _ _)))
  generalize w4.drew=wd at HF hHeld ⊢
  refine dG 0 20 #[I,O,O,O,O,O,O] ak bN hHeld (hy:=by(rintro w' ⟨s0,s1,s2,s3,s4,s5,s6,s7⟩;go_simp;with_reducible rfl)) (h:=?_)
  refine aZ 1 21 #[I,I,O,O,O,O,O] ak (h:=?_)
  refine aZ 2 22 #[I,I,I,O,O,O,O] ak (h:=?_)
  refine dG 3 23 #[I,I,I,I,O,O,O] ak bN hHeld (hy:=by(rintro w' ⟨s0,s1,s2,s3,s4,s5,s6,s7⟩;go_simp;with_reducible rfl)) (h:=?_)
  refine aZ 4 24 #[I,I,I,I,I,O,O] ak (h:=?_)
  refine dG 5 25 #[I,I,I,I,I,I,O] ak bN hHeld (hy:=by(rintro w' ⟨s0,s1,s2,s3,s4,s5,s6,s7⟩;go_simp;with_reducible rfl)) (h:=?_)
  refine dE (i:=6) (N:=some 26) #[I,I,I,I,I,I,I] rfl rfl (aI ak.out (by kernel_rfl)) (by decide) (λK hK=>?_)
  refine bW Tryz.func115 (by kernel_rfl) rfl #[.agg #[.int .i64 base,.slice Ar rows.length cr,.slice Af fx.length cf],.agg #[.int .i64 (s 0),.int .i64 (s 1),.int .i64 (s 2),.int .i64 (s 3)]] (by rfl) rfl rfl (by(try simp only[List.map_toArray,List.map_cons,List.map_nil]);rfl) ?_
  refine(FM s _ (HT.out.later HF.out.wk.b) (λi=>by have:=HS.out i;omega)).mono ?_
  rintro e_ w_ ⟨rfl,hbx⟩
  refine⟨_,rfl,hK.out _ _ ?_⟩
  clear hK K
  replace HF:=aa.mk (HF.out.below hbx)
  clear hbx
  rw[HB.out]
  refine iY ?_
  refine dK (bG ak.out (by kernel_rfl)) ?_
  have lH:=HF.out.b4.cell 0
  have oI:=HF.out.b4.cell 1
  have h42:=HF.out.b4.cell 2
  have f40:=HF.out.b4.frozen 0
  have f41:=HF.out.b4.frozen 1
  have f42:=HF.out.b4.frozen 2
  simp only[eP,eO] at lH oI h42
  cases b
  .go_wp2_with (with_reducible refine wpIn_wide.2 ?_)
   refine qj (DR:=Ok) (g4:=w.heap.size+2) (v:= .slice none 0 0) (ds:=[]) trivial rfl ?_ (by rw[HV.out];exact Kd.iK _ _ _ _ _) ?_ ?_ (λb h=> .inl h) Vy.out hs0
   .rw[HV.out];exact HF.out.b4.N7 _ _ _
   .exact((HF.out.wk.far ⟨by simp only;omega,SC.out _,HNE.out⟩ _).far ⟨by simp only;omega,SC.out _,HNE.out⟩ _).far ⟨by simp only;omega,SC.out _,HNE.out⟩ _
   .exact((HF.out.kp.setCell (.inr (by simp only;omega)) _).setCell (.inr (by simp only;omega)) _).setCell (.inr (by simp only;omega)) _
  .go_wp2_with (with_reducible refine wpIn_wide.2 ?_)
   refine qj (DR:=Ok) (g4:=w.heap.size+2) (v:= .slice none 0 0) (ds:=[]) trivial rfl ?_ (by rw[HV.out];exact Kd.iK _ _ _ _ _) ?_ ?_ (λb h=> .inl h) Vy.out hs0
   .rw[HV.out];exact HF.out.b4.N7 _ _ _
   .exact((HF.out.wk.far ⟨by simp only;omega,SC.out _,HNE.out⟩ _).far ⟨by simp only;omega,SC.out _,HNE.out⟩ _).far ⟨by simp only;omega,SC.out _,HNE.out⟩ _
   .exact((HF.out.kp.setCell (.inr (by simp only;omega)) _).setCell (.inr (by simp only;omega)) _).setCell (.inr (by simp only;omega)) _
 |succ left ih=>
  intro k hk s hs hs4 Ok w hW WJ
  have HS:=aa.mk hs
  have zT:=aa.mk hs4
  have hkr:((k:Int)==(rows.length:Int))=false:=by simpa using (show(k:Int)≠(rows.length:Int) by omega)
  have hkl:k<rows.length:=by omega
  have hleft:rows.length-k=left+1:=by omega
  have HIH:=aa.mk (λ(s':Nat->Int) (h1:∀i,0<=s' i/\s' i<=10200*((k:Int)+1)) (h2:∀i,4<=i->s' i=0) (DR:Nat->Prop) (W:World) (hw:gH w0 gk mb base rows fx Ar cr Af cf DR W) (ho:∀b,DR b->b<W.heap.size)=>(by
   have:=ih (k+1) (by omega) s' (by push_cast;exact h1) h2 DR W hw ho
   unfold iG at this
   rw[show((k+1:Nat):Int)=(k:Int)+1 from by push_cast;rfl] at this
   exact this:Calls Tryz.prog 83 #[.pointer (some ⟨gk,0,none⟩),.agg #[.int .i64 ((k:Int)+1),.int .i64 (s' 0),.int .i64 (s' 1),.int .i64 (s' 2),.int .i64 (s' 3)]] W (yw w0 gk mb base rows fx Ar cr Af cf DR W (iE base rows fx left s'))))
  have hso:wN s:=⟨λi=>by have:=hs i;omega,hs4⟩
  have HSO:=aa.mk hso
  clear hs hs4 hk ih hso
  unfold iG
  refine(callsIn_wide (n:=9)).1 (dS Tryz.func83 rfl trivial ?_ rfl)
  simp only[Tryz.ntmps83,List.size_toArray,List.length_cons,List.length_nil,Nat.reduceAdd,Nat.reduceSub,Array.replicate_succ,Array.replicate_zero,List.push_toArray,List.append_toArray,List.nil_append,List.cons_append]
  refine wpIn_wide.2 ?_
  have HF:=aa.mk (mM.new k s hW)
  have Vy:=aa.mk (show ∀b,Ok b\/w.heap.size<=b->b≠mb/\b≠gk from λb hb=>hb.elim (hW.ok b) (λh=>by have h1:=hW.m.lt;have h2:=hW.k.lt;omega))
  have SC:=aa.mk (show ∀i,¬Ok (w.heap.size+i) from λi h=>by have:=WJ _ h;omega)
  have DU:=aa.mk WJ
  have hmb:=hW.m.lt
  have hgk:=hW.k.lt
  have hs0:=hW.b.size
  have ahu:=hW.Tt
  clear hW WJ
  go_wp2_with (with_reducible refine wpIn_wide.2 ?_)
  rw[show w.heap.size+1+1=w.heap.size+2 from rfl]
  generalize((w.alloc (.cells #[.pointer (some ⟨gk,0,none⟩)] 174)).alloc (.cells #[.int .i64 (k:Int),.int .i64 (s 0),.int .i64 (s 1),.int .i64 (s 2),.int .i64 (s 3)] 183)).alloc (.cells #[.int .i64 0,.int .i64 0,.slice none 0 0] 178)=w3 at HF ⊢
  have h2:=HF.out.b2.cell 0
  have h3:=HF.out.b3.cell 0
  have h1:=HF.out.wk.k.cell 1
  simp only[eP,eO] at h1 h2 h3
  go_region
  clear h1 h2 h3
  go_wp2_with (with_reducible refine wpIn_wide.2 ?_)
  replace HF:=aa.mk (HF.out.below (aM (Below.refl _ _)))
  generalize w3.drew=w4 at HF ⊢
  obtain⟨x,A5,n5,c5,b,hbt,hlk⟩:=HF.out.wk.m.lookup (k:=k) (s:=s) (by omega) HSO.out
  rw[hleft] at hbt
  obtain⟨x1,x2,x3⟩:=x
  have HBT:=aa.mk hbt
  clear hbt
  unfold mr iG at hlk
  simp only at hlk
  refine dB (n:=12) (S:=λw'=>w'.cell? ⟨w.heap.size,0,none⟩=some (.pointer (some ⟨gk,0,none⟩))/\w'.cell? ⟨gk,3,none⟩=some (.map (some mb))/\w'.cell? ⟨w.heap.size+1,0,none⟩=some (.int .i64 (k:Int))/\w'.cell? ⟨w.heap.size+1,1,none⟩=some (.int .i64 (s 0))/\w'.cell? ⟨w.heap.size+1,2,none⟩=some (.int .i64 (s 1))/\w'.cell? ⟨w.heap.size+1,3,none⟩=some (.int .i64 (s 2))/\w'.cell? ⟨w.heap.size+1,4,none⟩=some (.int .i64 (s 3))/\(Instr.lookup 213 (.map (some mb)) (.agg #[.int .i64 (k:Int),.int .i64 (s 0),.int .i64 (s 1),.int .i64 (s 2),.int .i64 (s 3)]) true).run Tryz.prog w'= .ok (.tuple #[.agg #[.int .i64 x1,.int .i64 x2,.slice A5 n5 c5],.bool b]) w') (ds:=[10]) #[O,O,O,O,O,O,O,O,O,O,O,O] (by kernel_rfl) rfl rfl ⟨(by simpa using (HF.out).b2.cell 0),(by simpa using (HF.out).wk.k.cell 3),(by simpa using (HF.out).b3.cell 0),(by simpa using (HF.out).b3.cell 1),(by simpa using (HF.out).b3.cell 2),(by simpa using (HF.out).b3.cell 3),(by simpa using (HF.out).b3.cell 4),(hlk _ rfl)⟩ (λhHeld=>?_);refine bu qM.Gt qM.zC (λak bN=>?_)
  replace HF:=aa.mk (HF.out.below (aM (Below.refl _ _)))
  have adO:=aa.mk (show ∀b,w.heap.size<=b->¬Ok b from λb h1 h2=>by have:=DU.out b h2;omega)
  replace hlk:∀w':World,w'.heap[mb]?=w4.drew.heap[mb]?->_:=hlk
  have HW4:=aa.mk (show Below w4.heap.size w4 w4.drew from aM (Below.refl _ _))
  generalize w4.drew=wd at HF HW4 hlk hHeld ⊢
  refine dG 0 30 #[I,O,O,O,O,O,O,O,O,O,O,O] ak bN hHeld (hy:=by(rintro w' ⟨s0,s1,s2,s3,s4,s5,s6,s7⟩;go_simp;with_reducible rfl)) (h:=?_)
  refine aZ 1 31 #[I,I,O,O,O,O,O,O,O,O,O,O] ak (h:=?_)
  refine aZ 2 32 #[I,I,I,O,O,O,O,O,O,O,O,O] ak (h:=?_)
  refine dG 3 33 #[I,I,I,I,O,O,O,O,O,O,O,O] ak bN hHeld (hy:=by(rintro w' ⟨s0,s1,s2,s3,s4,s5,s6,s7⟩;go_simp;with_reducible rfl)) (h:=?_)
  refine dG 4 34 #[I,I,I,I,I,O,O,O,O,O,O,O] ak bN hHeld (hy:=by(rintro w' ⟨s0,s1,s2,s3,s4,s5,s6,s7⟩;go_simp;with_reducible rfl)) (h:=?_)
  refine dG 5 35 #[I,I,I,I,I,I,O,O,O,O,O,O] ak bN hHeld (hy:=by(rintro w' ⟨s0,s1,s2,s3,s4,s5,s6,s7⟩;go_simp;with_reducible rfl)) (h:=?_)
  refine aZ 6 29 #[I,I,I,I,I,I,I,O,O,O,O,O] ak (h:=?_)
  refine aZ 7 36 #[I,I,I,I,I,I,I,I,O,O,O,O] ak (h:=?_)
  refine aZ 8 37 #[I,I,I,I,I,I,I,I,I,O,O,O] ak (h:=?_)
  refine dO (i:=9) (N:=some 5) #[I,I,I,I,I,I,I,I,I,I,O,O] rfl rfl (aI ak.out (by kernel_rfl)) (by decide) (λK hK=>?_)
  refine bT (w1:=?_) (v:=?_) (by rfl) rfl ?_ ?_
  rotate_left 2
  .go_simp
   constructor<;>rfl
  have e_:=HF.out.below (ae (Below.refl _ _) (.cells #[.int .i64 0,.int .i64 0,.slice none 0 0] 178))
  refine hK.out _ _ ⟨(by simpa using e_.b2.cell 0),(by simpa using e_.wk.k.cell 3),(by simpa using e_.b3.cell 0),(by simpa using e_.b3.cell 1),(by simpa using e_.b3.cell 2),(by simpa using e_.b3.cell 3),(by simpa using e_.b3.cell 4),(hlk _ (Below.heap_alloc _ _ _ HF.out.wk.m.lt))⟩ (λhHeld=>?_)
  clear hK K
  have B5:=aa.mk (aR.new wd [.int .i64 0,.int .i64 0,.slice none 0 0] 178)
  have HG5:=aa.mk (show w.heap.size+2<wd.heap.size from HF.out.b4.lt)
  have P8:=aa.mk ((bq.refl wd.heap.size (λ_=>False) wd).alloc (Nat.le_refl _) (.cells #[.int .i64 0,.int .i64 0,.slice none 0 0] 178))
  have ZV:=aa.mk (show w.heap.size<=wd.heap.size from HF.out.kp.size)
  replace HF:=aa.mk (HF.out.below (ae (Below.refl _ _) (.cells #[.int .i64 0,.int .i64 0,.slice none 0 0] 178)))
  clear hlk
  generalize hg5:wd.heap.size=g5 at B5 HG5 P8 ZV ⊢
  clear hg5
  generalize wd.alloc (.cells #[.int .i64 0,.int .i64 0,.slice none 0 0] 178)=we at B5 HF P8 hHeld ⊢
  refine iY ?_
  refine dE (i:=10) (N:=none) #[I,I,I,I,I,I,I,I,I,I,I,O] rfl rfl (aI ak.out (by kernel_rfl)) (by decide) (λK hK=>?_)
  have eY:=(show we.cell? ⟨g5,0,none⟩=some (.int .i64 0) by simpa using B5.out.cell 0)
  have ig:=B5.out.frozen 0
  have Q8:we.cell? ⟨g5,1,none⟩=some (.int .i64 0):=by simpa using B5.out.cell 1
  have Rm:=B5.out.frozen 1
  have BI:we.cell? ⟨g5,2,none⟩=some (.slice none 0 0):=by simpa using B5.out.cell 2
  have BP:=B5.out.frozen 2
  refine gW (w1:=?_) (by rfl) rfl ?_ ?_
  rotate_left
  .go_simp
   rfl
  refine hK.out _ _ ?_
  clear hK K eY ig Q8 Rm BI BP
  replace HF:=aa.mk (mM.ain HF.out (by have:=HG5.out;omega) (by have:=HG5.out;omega) adO.out hs0 (.int .i64 x1) (.int .i64 x2) (.slice A5 n5 c5))
  replace P8:=aa.mk (((P8.out.setCell (p:=⟨g5,0,none⟩) (.inr (Nat.le_refl _)) (.int .i64 x1)).setCell (p:=⟨g5,1,none⟩) (.inr (Nat.le_refl _)) (.int .i64 x2)).setCell (p:=⟨g5,2,none⟩) (.inr (Nat.le_refl _)) (.slice A5 n5 c5))
  replace B5:=aa.mk (B5.out.N7 (.int .i64 x1) (.int .i64 x2) (.slice A5 n5 c5))
  generalize((we.setCell ⟨g5,0,none⟩ (.int .i64 x1)).setCell ⟨g5,1,none⟩ (.int .i64 x2)).setCell ⟨g5,2,none⟩ (.slice A5 n5 c5)=wf at B5 HF P8 ⊢
  refine aZ 11 6 #[I,I,I,I,I,I,I,I,I,I,I,I] ak (h:=?_)
  refine dK (bG ak.out (by kernel_rfl)) ?_
  have hz5:w.heap.size+2<g5:=HG5.out
  have h50:=B5.out.cell 0
  have CY:=B5.out.cell 1
  have h52:=B5.out.cell 2
  have lH:=HF.out.b4.cell 0
  have oI:=HF.out.b4.cell 1
  have h42:=HF.out.b4.cell 2
  have f40:=HF.out.b4.frozen 0
  have f41:=HF.out.b4.frozen 1
  have f42:=HF.out.b4.frozen 2
  simp only[eP,eO] at lH oI h42 h50 CY h52
  cases b
  rotate_left
  .obtain⟨hx,hR⟩:=HBT.out rfl
   have HX:=aa.mk hx
   have HR:=aa.mk hR
   clear hx hR
   go_wp2_with (with_reducible refine wpIn_wide.2 ?_)
   refine qj (DR:=Ok) (g4:=w.heap.size+2) (v:= .slice A5 n5 c5) (ds:=[]) trivial rfl ?_ ?_ ?_ ?_ (λb h=> .inl h) Vy.out hs0
   .rw[<- HX.out];exact HF.out.b4.N7 _ _ _
   .rw[<- HX.out]
    exact Kd.gQ (Kd.gQ (Kd.gQ (Kd.gQ (Kd.bV HR.out HW4.out) (λb hb _=>P8.out.block b (by have:=DU.out b hb;have:=ZV.out;omega) (λh=>h))) (λb hb _=>Below.heap_setCell _ _ _ _ (by have:=DU.out b hb;simp only;omega))) (λb hb _=>Below.heap_setCell _ _ _ _ (by have:=DU.out b hb;simp only;omega))) (λb hb _=>Below.heap_setCell _ _ _ _ (by have:=DU.out b hb;simp only;omega))
   .exact((HF.out.wk.far ⟨by simp only;omega,SC.out _,by simp only;omega,by simp only;omega⟩ _).far ⟨by simp only;omega,SC.out _,by simp only;omega,by simp only;omega⟩ _).far ⟨by simp only;omega,SC.out _,by simp only;omega,by simp only;omega⟩ _
   .exact((HF.out.kp.setCell (.inr (by simp only;omega)) _).setCell (.inr (by simp only;omega)) _).setCell (.inr (by simp only;omega)) _
  .clear HBT lH oI h42 f40 f41 f42 h50 CY h52
   have B7:=aa.mk (aR.new wf [.int .i64 0,.int .i64 0,.slice none 0 0] 178)
   have HG7:=aa.mk (show w.heap.size+2<wf.heap.size from HF.out.b4.lt)
   replace HF:=aa.mk (HF.out.below (ae (Below.refl _ _) (.cells #[.int .i64 0,.int .i64 0,.slice none 0 0] 178)))
   have h2:=HF.out.b2.cell 0
   have h3:=HF.out.b3.cell 0
   simp only[eP,eO] at h2 h3
   go_wp2_with (with_reducible refine wpIn_wide.2 ?_)
   have YE:=B7.out.lt
   clear h2 h3 B5 P8 ZV HW4 HG5 hz5
   generalize OU:wf.heap.size=g7 at B7 HG7 YE ⊢
   generalize hw8:wf.alloc (.cells #[.int .i64 0,.int .i64 0,.slice none 0 0] 178)=w8 at HF B7 YE ⊢
   clear OU hw8
   refine(DK gk k w8).mono ?_
   rintro e w9 ⟨rfl,hw9⟩
   have hgw:=(aR.new w8 [.pointer (some ⟨gk,0,none⟩)] 174).alloc (.cells #[.int .i64 (k:Int)] 3)
   have hgr:=aR.second w8 (.cells #[.pointer (some ⟨gk,0,none⟩)] 174) [.int .i64 (k:Int)] 3
   rw[<- hw9] at hgw hgr
   have BW:=aa.mk hgw
   have BR:=aa.mk hgr
   have YT:Below w8.heap.size w8 w9:=by rw[hw9];exact ae (ae (Below.refl _ _) _) _
   have HS9:=aa.mk (show w9.heap.size=w8.heap.size+2 by rw[hw9];simp)
   replace HF:=aa.mk (HF.out.below YT)
   replace B7:=aa.mk (B7.out.below YT)
   have h8:=HG7.out
   have HL:=aa.mk YT.size
   generalize w8.heap.size=g8 at BW BR HS9 YE ⊢
   clear hw9 hgw hgr YT
   go_wp2_with (with_reducible refine wpIn_wide.2 ?_)
   refine(wpIn_wide (n:=9)).1 ?_
   obtain⟨B,hB⟩:∃B,w9.heap.size+6=B:=⟨_,rfl⟩
   have hw9:w9.heap.size<=g8+2/\g8+2<=w9.heap.size:=by have:=HS9.out;omega
   have aot:gk<w.heap.size:=hgk
   have Wn:iE base rows fx (left+1) s=(dZ base (Bo base (rows.getD k []) fx (k:Int)) (rows.getD k []) []).foldl (nH (iE base rows fx left) (rows.getD k []) s) (0,0,[]):=by
    rw[iE,show rows.length-(left+1)=k by omega]
   have HRK:=aa.mk Wn
   have hlf:=λl=>HT.out.in_.leaf (k:=k) hkl (ok:=Bo base (rows.getD k []) fx (k:Int)) (l:=l)
   have ZW:=aa.mk hlf
   have hlN:(dZ base (Bo base (rows.getD k []) fx (k:Int)) (rows.getD k []) []).length<=16:=by
    have h1:=pY base (Bo base (rows.getD k []) fx (k:Int)) (rows.getD k []) []
    have h2:(rows.getD k []).length<=4:=by rw[HT.out.l _ (oQ hkl)];exact HT.out.l4
    have h3:2^(rows.getD k []).length<=2^4:=Nat.pow_le_pow_right (by omega) h2
    omega
   clear Wn hlf
   have hse:=Io (w:=w9) (gw:=g8) (gr:=g8+1) (gk:=gk) (N:=16) (S:=λb=>b=mb\/b=g7\/b=w9.heap.size\/b=w9.heap.size+1) (row:=k) HT.out HFX.out hf hkl ?hE ?hS ?hS0 hlN
   case hE=>
    intro W' hk
    have nS:∀b,(b=g8\/b=g8+1\/b=gk)->¬(b=mb\/b=g7\/b=w9.heap.size\/b=w9.heap.size+1):=λb hb=>by
     have:=HF.out.wk.ne
     omega
    have b1:=BW.out.move (hk.block _ BW.out.lt (nS _ (.inl rfl)))
    have b2:=BR.out.move (hk.block _ BR.out.lt (nS _ (.inr (.inl rfl))))
    have b3:=HF.out.wk.k.move (hk.block _ HF.out.wk.k.lt (nS _ (.inr (.inr rfl))))
    exact⟨b1.cell 0,b3.cell 0,b3.cell 1,b3.cell 2,b2.cell 0,⟨hk.os.trans HF.out.wk.b.os,hk.tape.trans HF.out.wk.b.tape,hk.output.trans HF.out.wk.b.output,Nat.le_trans HF.out.wk.b.size hk.size,λb hb=>(hk.block b (Nat.lt_of_lt_of_le hb HF.out.wk.b.size) (by omega)).trans (HF.out.wk.b.block b hb)⟩⟩
   case hS=>intro b hb;omega
   case hS0=>intro b hb;omega
   rw[hB] at hse
   obtain⟨cells,hcells⟩:∃c,rows.getD k []=c:=⟨_,rfl⟩
   rw[hcells] at hse HRK ZW
   obtain⟨all,hall⟩:∃a,dZ base (Bo base cells fx (k:Int)) cells []=a:=⟨_,rfl⟩
   rw[hall] at hse HRK ZW
   have HCE:=aa.mk hcells
   clear hcells hall hlN
   refine Oe (k:=4) (n:=9) (by decide) rfl (enters Tryz.func150 (by kernel_rfl) rfl) hse (λh k=>h.trans (k.mono h.size (λ_ _ h=>h))) (λW l o' h1 h2 h3=>(bq.refl W.heap.size _ W).put (.inl (by omega)) o') (λx=>rfl) ?hX
    (λt x=>t.setIfInBounds 44 (.slice x.2.1 x.1.length x.2.2)) (λt x=>(t.setIfInBounds 44 (.slice x.2.1 x.1.length x.2.2)).setIfInBounds 8 (.slice x.2.1 x.1.length x.2.2)) (λt x=>by simp[enc3])
    (Tc w0 gk mb base rows fx Ar cr Af cf Ok k s w B g7 left cells all)
    ?hI ⟨⟨_,B7.out,Kd.iK _ _ _ _ _⟩,HF.out.ok (λb h=> .inl h) (λb hb=>hb.elim (λh=>Vy.out b (.inl h)) (λh=>by omega)),λy hy=>by cases hy⟩ ?assign ?body ?done
   case hX=>
    rintro x _ W W' row ⟨h1,h2,h3⟩ hg hr
    exact⟨Kd.bB (Kd.yn (Kd.bE h1) hg (λb hb e=>by have:=hr b e.symm;have:=hb.2.1;omega)) (λ_ h=>trivial),h2,Nat.le_trans h3 hg.size⟩
   case hI=>
    rintro pre W W' row ⟨i1,i2,i3⟩ hg hr
    obtain⟨v7,j1,j2⟩:=i1
    exact⟨⟨v7,j1.move (hg.block g7 j1.lt (λe=>by have:=hr _ e.symm;omega)),Kd.yn j2 hg (λb hb e=>by have:=hr b e.symm;omega)⟩,i2.grown hg hs0 (λr e=>by have h1:=hr r e;have h2:=SC.out;exact⟨by omega,λh=>h.elim (λh=>by have:=DU.out r h;omega) (λh=>by omega),by omega,by omega⟩),i3⟩
   case assign=>
    intro l x W K hK
    simp only[sb0,sb1,dD] at hK ⊢
    gi_wp2_with fail
    exact hK
   case body=>
    rintro l pre ⟨xl,xA,xc⟩ W ⟨i1,i2,i3⟩ ⟨hx1,hx2,hx3⟩ hlen
    obtain⟨v7,j1,j2⟩:=i1
    obtain⟨A7,c7,rfl⟩:=Kd.kP j2
    have Rc:=ZW.out xl hx2
    have hacc:=Px base rows fx left cells s pre (xl,xA,xc)
    have hab:=uj (s:=s) (row:=cells) (show(0:Int)<=16^left from Int.pow_nonneg (by omega)) (show(0:Int)<=400*left by omega) (HT.out.in_.jT left (by omega)) (pre.map (·.1)) (0,0,[]) 0 (λl hl=>by
     obtain⟨y,hy,rfl⟩:=List.mem_map.1 hl
     exact(ZW.out y.1 (i3 y hy)).c) (by simp) (by simp;omega)
    have h16:(16:Int)^left<=65536:=by
     rcases(show left=0\/left=1\/left=2\/left=3\/left=4 by omega) with rfl|rfl|rfl|rfl|rfl<;>decide
    rw[show(pre.map (·.1)).foldl (nH (iE base rows fx left) cells s) (0,0,[])=Ct base rows fx left cells s pre from rfl,List.length_map] at hab
    obtain⟨acc,hac⟩:∃a,Ct base rows fx left cells s pre=a:=⟨_,rfl⟩
    have ah2:acc.1<=16*65536:=by
     rw[hac] at hab
     have h1:(16:Int)^left*(pre.length:Int)<=65536*(pre.length:Int):=Int.mul_le_mul_of_nonneg_right h16 (by omega)
     omega
    rw[hac] at hab hacc j1 j2
    have ah3:=hab.1
    have ah1:=hab.2.2
    have ajn:=aa.mk (λy (hy:y ∈ pre++[(xl,xA,xc)])=>(List.mem_append.1 hy).elim (i3 y) (λh=>by rw[List.mem_singleton.1 h];exact hx2):∀y ∈ pre++[(xl,xA,xc)],y.1 ∈ all)
    have HB:=aa.mk (show je w0 gk mb base rows fx Ar cr Af cf Ok k s w B g7 acc (.slice A7 acc.2.2.length c7) (xl,xA,xc) W W from⟨i2,j1,j2,Kd.ed (Kd.bB (Kd.bE hx1) (λ_ h=>h.2.1)) (Nat.zero_le _),bq.refl _ _ _,hx3⟩)
    obtain⟨vz,Cu,Iz⟩:=acc
    simp only at ah3 ah2 ah1
    obtain⟨n7,hn7⟩:∃n,Iz.length=n:=⟨_,rfl⟩
    simp only[hn7] at HB
    obtain⟨s',hs'⟩:∃s',pX s xl=s':=⟨_,rfl⟩
    have ahy:xl.length<=4:=by rw[Rc.len,<- HCE.out,HT.out.l _ (oQ hkl)];exact HT.out.l4
    have hxb:∀x ∈ xl,0<=x/\x<=10200:=λx hx=>by
     obtain⟨i,hi,rfl⟩:=List.getElem_of_mem hx
     have:=Rc.b i hi
     rwa [List.getD_eq_getElem?_getD,List.getElem?_eq_getElem hi] at this
    have aby:∀i,0<=s' i/\s' i<=10200*((k:Int)+1):=λi=>by
     have:=zy HS.out (d:=10200) (by omega) hxb i
     rw[hs'] at this
     omega
    have abz:∀i,4<=i->s' i=0:=λi hi=>by
     rw[<- hs']
     unfold pX nU
     rw[if_neg (by omega)]
     exact zT.out i hi
    have HPL:=aa.mk (λ(W1:World) (hc:(Kd.int .i64).C W1 xA xl.length xl)=>(by
     have:=Bf s (c:=xc) xl W1 hc ahy (λi=>by have:=HS.out i;omega) (λx hx=>by have:=hxb x hx;omega)
     rw[hs'] at this
     exact this:Calls Tryz.prog 117 #[.agg #[.int .i64 (s 0),.int .i64 (s 1),.int .i64 (s 2),.int .i64 (s 3)],.slice xA xl.length xc] W1 λe w'=>e= .returned (.agg #[.int .i64 (s' 0),.int .i64 (s' 1),.int .i64 (s' 2),.int .i64 (s' 3)])/\Below W1.heap.size W1 w'))
    obtain⟨⟨Hf,ES,nx3⟩,hnx⟩:∃r,iE base rows fx left s'=r:=⟨_,rfl⟩
    have hnb:=HT.out.in_.jT left (by omega) s'
    rw[hnx] at hnb
    simp only at hnb
    have ahs:mb<B:=by omega
    have ajt:=aa.mk (show Hf<=65536 by omega)
    have HFR:=aa.mk (λ(W1:World) (hB1:je w0 gk mb base rows fx Ar cr Af cf Ok k s w B g7 (vz,Cu,Iz) (.slice A7 n7 c7) (xl,xA,xc) W W1)=>(by
     refine(HIH.out s' aby abz _ W1 hB1.fr.wk.bound (λb hb=>hb.2)).mono ?_
     rintro e w' ⟨v,rfl,hR,hW,hK⟩
     rw[hnx] at hR ⊢
     obtain⟨A9,c9,rfl⟩:=Kd.kP hR
     refine⟨A9,_,c9,rfl,Kd.bB hR (λb hb=>hb.elim (λh=>h.1) (λh=> .inr (Nat.le_trans hB1.sz h))),hB1.call ⟨hW.k,hW.b,hW.m.step rfl (λ_ _ _=>rfl) (λb hb=>hb.elim (λh=> .inl h.1) .inr),hW.Tt,hW.ne,λb hb=>hb.elim (λh=>hB1.fr.wk.ok b h) (λh=>by have h1:=hB1.fr.wk.k.lt;have h2:=hB1.fr.wk.m.lt;omega)⟩ hK hmb (by omega) ahs,hK⟩:Calls Tryz.prog 83 #[.pointer (some ⟨gk,0,none⟩),.agg #[.int .i64 ((k:Int)+1),.int .i64 (s' 0),.int .i64 (s' 1),.int .i64 (s' 2),.int .i64 (s' 3)]] W1 λe w'=>∃A9 n9 c9,e= .returned (.agg #[.int .i64 Hf,.int .i64 ES,.slice A9 n9 c9])/\(Kd.int .i64).R 3 w' 0 (λb=>Ok b\/B<=b) (.slice A9 n9 c9) nx3/\(je w0 gk mb base rows fx Ar cr Af cf Ok k s w B g7 (vz,Cu,Iz) (.slice A7 n7 c7) (xl,xA,xc) W w')/\bq W1.heap.size (λb=>b=mb) W1 w'))
    have hst:nH (iE base rows fx left) cells s (vz,Cu,Iz) xl=if Hf=0 then(vz,Cu,Iz) else(vz+Hf,if vz=0\/ES+vK cells xl<Cu then(ES+vK cells xl,xl) else(Cu,Iz)):=by
     unfold nH
     rw[hs',hnx]
    rw[hst] at hacc
    have PN:=aa.mk hacc
    have HLX:=aa.mk Rc
    have hcb:=Rc.c
    have hB9:w.heap.size+2<B:=by omega
    have h7B:g7<B:=by omega
    have hwB:W.heap.size<=W.heap.size:=Nat.le_refl _
    have hk5:(k:Int)+1<=5:=by omega
    have VD:=aa.mk (λ(W1:World) (r:Gh) (hr:Ct base rows fx left cells s (pre++[(xl,xA,xc)])=r) (h:Az w0 gk mb base rows fx Ar cr Af cf Ok k s w B g7 r W W1)=>(⟨⟨h.1.size,λb o hb ho _=>(h.1.block b (Array.getElem?_eq_some_iff.1 ho).1 (by omega)).trans ho⟩,h.1.mono (Nat.le_refl _) (λb _ hb=>by omega),by unfold Tc;rw[hr];exact⟨h.2.1,h.2.2,ajn.out⟩⟩:KeepsFrom w9.heap.size W W1/\bq W.heap.size (λb=>b=mb\/b=g7\/b=w9.heap.size\/b=w9.heap.size+1) W W1/\Tc w0 gk mb base rows fx Ar cr Af cf Ok k s w B g7 left cells all (pre++[(xl,xA,xc)]) W1))
    clear i2 i3 hx1 hx2 hx3 j1 j2 Rc hacc hab hac hs' aby abz hxb hnx hst hn7 h16
    simp only[sb0,sb1,dD]
    gi_wp2_with fail
    refine lG (by rintro⟨_,_,h⟩;exact h) (by kernel_rfl) (n:=12) (S:=λw'=>w'.cell? ⟨w.heap.size,0,none⟩=some (.pointer (some ⟨gk,0,none⟩))/\w'.cell? ⟨w.heap.size+1,0,none⟩=some (.int .i64 (k:Int))/\w'.cell? ⟨w.heap.size+1,1,none⟩=some (.int .i64 (s 0))/\w'.cell? ⟨w.heap.size+1,2,none⟩=some (.int .i64 (s 1))/\w'.cell? ⟨w.heap.size+1,3,none⟩=some (.int .i64 (s 2))/\w'.cell? ⟨w.heap.size+1,4,none⟩=some (.int .i64 (s 3))) (ds:=[11]) #[O,O,O,O,O,O,O,O,O,O,O,O] (by kernel_rfl) rfl rfl ⟨(by simpa using (HB.out.fr).b2.cell 0),(by simpa using (HB.out.fr).b3.cell 0),(by simpa using (HB.out.fr).b3.cell 1),(by simpa using (HB.out.fr).b3.cell 2),(by simpa using (HB.out.fr).b3.cell 3),(by simpa using (HB.out.fr).b3.cell 4)⟩ (λhHeld=>?_);refine bu qM.vE qM.qH (λak bN=>?_)
    replace HB:=aa.mk (HB.out.below (aM (Below.refl _ _)))
    generalize W.drew=wd at HB hHeld ⊢
    have hwk:IntKind.i64.wrap ((k:Int)+1)=(k:Int)+1:=by rw[dI];unfold wrap64;omega
    refine dG 0 45 #[I,O,O,O,O,O,O,O,O,O,O,O] ak bN hHeld (hy:=by(rintro w' ⟨s0,s1,s2,s3,s4,s5⟩;go_simp;with_reducible rfl)) (h:=?_)
    refine aZ 1 46 #[I,I,O,O,O,O,O,O,O,O,O,O] ak (h:=?_)
    refine dG 2 47 #[I,I,I,O,O,O,O,O,O,O,O,O] ak bN hHeld (hy:=by(rintro w' ⟨s0,s1,s2,s3,s4,s5⟩;go_simp;with_reducible rfl)) (h:=?_)
    refine aZ 3 48 #[I,I,I,I,O,O,O,O,O,O,O,O] ak (h:=?_)
    refine aZ 4 49 #[I,I,I,I,I,O,O,O,O,O,O,O] ak (h:=?_)
    refine dG 5 50 #[I,I,I,I,I,I,O,O,O,O,O,O] ak bN hHeld (hy:=by(rintro w' ⟨s0,s1,s2,s3,s4,s5⟩;go_simp;with_reducible rfl)) (h:=?_)
    refine aZ 6 51 #[I,I,I,I,I,I,I,O,O,O,O,O] ak (h:=?_)
    clear hwk
    refine iI (σ:=Nat×Option Addr×Nat×Nat) 1 #[I,I,I,I,I,I,I,I,I,I,I,O] (λx=>[(52,(.agg #[.int .i64 (s' 0),.int .i64 (s' 1),.int .i64 (s' 2),.int .i64 (s' 3)])),(53,.agg #[.int .i64 ((k:Int)+1),.int .i64 (s' 0),.int .i64 (s' 1),.int .i64 (s' 2),.int .i64 (s' 3)]),(54,.agg #[.int .i64 Hf,.int .i64 ES,.slice x.2.1 x.2.2.1 x.2.2.2]),(9,.pointer (some ⟨x.1,0,none⟩))]) (λx w'=>(je w0 gk mb base rows fx Ar cr Af cf Ok k s w B g7 (vz,Cu,Iz) (.slice A7 n7 c7) (xl,xA,xc) W w')/\aR w' x.1 [.int .i64 0,.int .i64 0,.slice none 0 0] 178/\B<=x.1/\W.heap.size<=x.1) ?cont ?orders
    case orders=>
     intro hcont
     refine qO (i:=7) (j:=10) (Ni:=some 52) (Nj:=some 9) #[I,I,I,I,I,I,I,I,O,O,O,O] #[I,I,I,I,I,I,I,O,O,O,I,O] rfl rfl rfl rfl (jG ak.out (by kernel_rfl)) (by decide) (by decide) (λK hK=>?_) (λK hK=>?_)
     .refine bW Tryz.func117 (by kernel_rfl) rfl #[.agg #[.int .i64 (s 0),.int .i64 (s 1),.int .i64 (s 2),.int .i64 (s 3)],.slice xA xl.length xc] (by rfl) rfl rfl (by(try simp only[List.map_toArray,List.map_cons,List.map_nil]);rfl) ?_
      refine(HPL.out _ (sP HB.out.rx)).mono ?_
      rintro e_ w_ ⟨rfl,hbx⟩
      have e_:=(HB.out.below hbx).fr
      refine⟨_,rfl,hK.out _ _ (⟨(by simpa using e_.b2.cell 0),(by simpa using e_.b3.cell 0),(by simpa using e_.b3.cell 1),(by simpa using e_.b3.cell 2),(by simpa using e_.b3.cell 3),(by simpa using e_.b3.cell 4)⟩) (λhHeld=>?_)⟩
      clear hK K
      replace HB:=aa.mk (HB.out.below hbx)
      refine iY ?_
      generalize w_=wp at HB hHeld ⊢
      refine aZ 8 53 #[I,I,I,I,I,I,I,I,I,O,O,O] ak (h:=?_)
      refine qO (i:=9) (j:=10) (Ni:=some 54) (Nj:=some 9) #[I,I,I,I,I,I,I,I,I,I,O,O] #[I,I,I,I,I,I,I,I,I,O,I,O] rfl rfl rfl rfl (jG ak.out (by kernel_rfl)) (by decide) (by decide) (λK hK=>?_) (λK hK=>?_)
      .refine bW Tryz.func83 (by kernel_rfl) rfl #[.pointer (some ⟨gk,0,none⟩),.agg #[.int .i64 ((k:Int)+1),.int .i64 (s' 0),.int .i64 (s' 1),.int .i64 (s' 2),.int .i64 (s' 3)]] (by rfl) rfl rfl (by(try simp only[List.map_toArray,List.map_cons,List.map_nil]);rfl) ?_
       refine(HFR.out _ HB.out).mono ?_
       rintro e_ w_ ⟨A9,n9,c9,rfl,hR9,nN,hK9⟩
       refine⟨_,rfl,hK.out _ _ (⟨(by simpa using (nN.fr).b2.cell 0),(by simpa using (nN.fr).b3.cell 0),(by simpa using (nN.fr).b3.cell 1),(by simpa using (nN.fr).b3.cell 2),(by simpa using (nN.fr).b3.cell 3),(by simpa using (nN.fr).b3.cell 4)⟩) (λhHeld=>?_)⟩
       clear hK K
       replace HB:=aa.mk nN
       clear nN hR9
       refine iY ?_
       generalize w_=wq at HB hHeld ⊢
       refine dO (i:=10) (N:=some 9) #[I,I,I,I,I,I,I,I,I,I,I,O] rfl rfl (aI ak.out (by kernel_rfl)) (by decide) (λK hK=>?_)
       refine bT (w1:=?_) (v:=?_) (by rfl) rfl ?_ ?_
       rotate_left 2
       .go_simp
        constructor<;>rfl
       have e_:=(HB.out.below (ae (Below.refl _ _) (.cells #[.int .i64 0,.int .i64 0,.slice none 0 0] 178))).fr
       refine hK.out _ _ ⟨(by simpa using e_.b2.cell 0),(by simpa using e_.b3.cell 0),(by simpa using e_.b3.cell 1),(by simpa using e_.b3.cell 2),(by simpa using e_.b3.cell 3),(by simpa using e_.b3.cell 4)⟩ (λhHeld=>?_)
       clear hK K
       have Gj:=aa.mk (aR.new wq [.int .i64 0,.int .i64 0,.slice none 0 0] 178)
       have IY:B<=wq.heap.size:=HB.out.sz
       have Dy:W.heap.size<=wq.heap.size:=HB.out.kb.size
       replace HB:=aa.mk (HB.out.below (ae (Below.refl _ _) (.cells #[.int .i64 0,.int .i64 0,.slice none 0 0] 178)))
       refine iY ?_
       have hfin:=hcont (wq.heap.size,A9,n9,c9) _ ⟨HB.out,Gj.out,IY,Dy⟩
       refine bH ?_ hfin
       simp only[bz,Act.put,sb0,sb1,dD]
      .refine bT (w1:=?_) (v:=?_) (by rfl) rfl ?_ ?_
       rotate_left 2
       .go_simp
        constructor<;>rfl
       have e_:=(HB.out.below (ae (Below.refl _ _) (.cells #[.int .i64 0,.int .i64 0,.slice none 0 0] 178))).fr
       refine hK.out _ _ ⟨(by simpa using e_.b2.cell 0),(by simpa using e_.b3.cell 0),(by simpa using e_.b3.cell 1),(by simpa using e_.b3.cell 2),(by simpa using e_.b3.cell 3),(by simpa using e_.b3.cell 4)⟩ (λhHeld=>?_)
       clear hK K
       have Gj:=aa.mk (aR.new wp [.int .i64 0,.int .i64 0,.slice none 0 0] 178)
       have IY:B<=wp.heap.size:=HB.out.sz
       have Dy:W.heap.size<=wp.heap.size:=HB.out.kb.size
       replace HB:=aa.mk (HB.out.below (ae (Below.refl _ _) (.cells #[.int .i64 0,.int .i64 0,.slice none 0 0] 178)))
       generalize hg9:wp.heap.size=g9 at Gj IY Dy ⊢
       clear hg9
       generalize wp.alloc (.cells #[.int .i64 0,.int .i64 0,.slice none 0 0] 178)=wa at Gj HB hHeld ⊢
       refine iY ?_
       refine dO (i:=9) (N:=some 54) #[I,I,I,I,I,I,I,I,I,I,I,O] rfl rfl (aI ak.out (by kernel_rfl)) (by decide) (λK hK=>?_)
       refine bW Tryz.func83 (by kernel_rfl) rfl #[.pointer (some ⟨gk,0,none⟩),.agg #[.int .i64 ((k:Int)+1),.int .i64 (s' 0),.int .i64 (s' 1),.int .i64 (s' 2),.int .i64 (s' 3)]] (by rfl) rfl rfl (by(try simp only[List.map_toArray,List.map_cons,List.map_nil]);rfl) ?_
       refine(HFR.out _ HB.out).mono ?_
       rintro e_ w_ ⟨A9,n9,c9,rfl,hR9,nN,hK9⟩
       refine⟨_,rfl,hK.out _ _ (⟨(by simpa using (nN.fr).b2.cell 0),(by simpa using (nN.fr).b3.cell 0),(by simpa using (nN.fr).b3.cell 1),(by simpa using (nN.fr).b3.cell 2),(by simpa using (nN.fr).b3.cell 3),(by simpa using (nN.fr).b3.cell 4)⟩) (λhHeld=>?_)⟩
       clear hK K
       replace HB:=aa.mk nN
       replace Gj:=aa.mk (Gj.out.move (hK9.block _ Gj.out.lt (by omega)))
       clear nN hR9
       refine iY ?_
       have hfin:=hcont (g9,A9,n9,c9) _ ⟨HB.out,Gj.out,IY,Dy⟩
       refine bH ?_ hfin
       simp only[bz,Act.put,sb0,sb1,dD]
     .refine bT (w1:=?_) (v:=?_) (by rfl) rfl ?_ ?_
      rotate_left 2
      .go_simp
       constructor<;>rfl
      have e_:=(HB.out.below (ae (Below.refl _ _) (.cells #[.int .i64 0,.int .i64 0,.slice none 0 0] 178))).fr
      refine hK.out _ _ ⟨(by simpa using e_.b2.cell 0),(by simpa using e_.b3.cell 0),(by simpa using e_.b3.cell 1),(by simpa using e_.b3.cell 2),(by simpa using e_.b3.cell 3),(by simpa using e_.b3.cell 4)⟩ (λhHeld=>?_)
      clear hK K
      have Gj:=aa.mk (aR.new wd [.int .i64 0,.int .i64 0,.slice none 0 0] 178)
      have IY:B<=wd.heap.size:=HB.out.sz
      have Dy:W.heap.size<=wd.heap.size:=HB.out.kb.size
      replace HB:=aa.mk (HB.out.below (ae (Below.refl _ _) (.cells #[.int .i64 0,.int .i64 0,.slice none 0 0] 178)))
      generalize hg9:wd.heap.size=g9 at Gj IY Dy ⊢
      clear hg9
      generalize wd.alloc (.cells #[.int .i64 0,.int .i64 0,.slice none 0 0] 178)=wa at Gj HB hHeld ⊢
      refine iY ?_
      refine dO (i:=7) (N:=some 52) #[I,I,I,I,I,I,I,I,O,O,I,O] rfl rfl (aI ak.out (by kernel_rfl)) (by decide) (λK hK=>?_)
      refine bW Tryz.func117 (by kernel_rfl) rfl #[.agg #[.int .i64 (s 0),.int .i64 (s 1),.int .i64 (s 2),.int .i64 (s 3)],.slice xA xl.length xc] (by rfl) rfl rfl (by(try simp only[List.map_toArray,List.map_cons,List.map_nil]);rfl) ?_
      refine(HPL.out _ (sP HB.out.rx)).mono ?_
      rintro e_ w_ ⟨rfl,hbx⟩
      have e_:=(HB.out.below hbx).fr
      refine⟨_,rfl,hK.out _ _ (⟨(by simpa using e_.b2.cell 0),(by simpa using e_.b3.cell 0),(by simpa using e_.b3.cell 1),(by simpa using e_.b3.cell 2),(by simpa using e_.b3.cell 3),(by simpa using e_.b3.cell 4)⟩) (λhHeld=>?_)⟩
      clear hK K
      replace HB:=aa.mk (HB.out.below hbx)
      refine iY ?_
      replace Gj:=aa.mk (Gj.out.below hbx)
      clear hbx
      generalize w_=wp at HB hHeld Gj ⊢
      refine aZ 8 53 #[I,I,I,I,I,I,I,I,I,O,I,O] ak (h:=?_)
      refine dO (i:=9) (N:=some 54) #[I,I,I,I,I,I,I,I,I,I,I,O] rfl rfl (aI ak.out (by kernel_rfl)) (by decide) (λK hK=>?_)
      refine bW Tryz.func83 (by kernel_rfl) rfl #[.pointer (some ⟨gk,0,none⟩),.agg #[.int .i64 ((k:Int)+1),.int .i64 (s' 0),.int .i64 (s' 1),.int .i64 (s' 2),.int .i64 (s' 3)]] (by rfl) rfl rfl (by(try simp only[List.map_toArray,List.map_cons,List.map_nil]);rfl) ?_
      refine(HFR.out _ HB.out).mono ?_
      rintro e_ w_ ⟨A9,n9,c9,rfl,hR9,nN,hK9⟩
      refine⟨_,rfl,hK.out _ _ (⟨(by simpa using (nN.fr).b2.cell 0),(by simpa using (nN.fr).b3.cell 0),(by simpa using (nN.fr).b3.cell 1),(by simpa using (nN.fr).b3.cell 2),(by simpa using (nN.fr).b3.cell 3),(by simpa using (nN.fr).b3.cell 4)⟩) (λhHeld=>?_)⟩
      clear hK K
      replace HB:=aa.mk nN
      replace Gj:=aa.mk (Gj.out.move (hK9.block _ Gj.out.lt (by omega)))
      clear nN hR9
      refine iY ?_
      have hfin:=hcont (g9,A9,n9,c9) _ ⟨HB.out,Gj.out,IY,Dy⟩
      refine bH ?_ hfin
      simp only[bz,Act.put,sb0,sb1,dD]
    case cont=>
     rintro⟨x9,A9,n9,c9⟩ we ⟨Rt,YT,IY,Dy⟩
     replace HB:=aa.mk Rt
     have B9:=aa.mk YT
     clear Rt YT hHeld
     simp only at B9 IY Dy
     refine bH (by simp only[bz,Act.put,sb0,sb1,dD];rfl) ?_
     refine dE (i:=11) (N:=none) #[I,I,I,I,I,I,I,I,I,I,I,I] rfl rfl (aI ak.out (by kernel_rfl)) (by decide) (λK hK=>?_)
     have eY:=(show we.cell? ⟨x9,0,none⟩=some (.int .i64 0) by simpa using B9.out.cell 0)
     have ig:=B9.out.frozen 0
     have Q8:we.cell? ⟨x9,1,none⟩=some (.int .i64 0):=by simpa using B9.out.cell 1
     have Rm:=B9.out.frozen 1
     have BI:we.cell? ⟨x9,2,none⟩=some (.slice none 0 0):=by simpa using B9.out.cell 2
     have BP:=B9.out.frozen 2
     refine gW (w1:=?_) (by rfl) rfl ?_ ?_
     rotate_left
     .go_simp
      rfl
     refine hK.out _ _ ?_
     clear hK K eY ig Q8 Rm BI BP
     replace HB:=aa.mk (HB.out.XH B9.out hs0 hB9 IY h7B Dy (.int .i64 Hf) (.int .i64 ES) (.slice A9 n9 c9))
     replace B9:=aa.mk (B9.out.N7 (.int .i64 Hf) (.int .i64 ES) (.slice A9 n9 c9))
     generalize((we.setCell ⟨x9,0,none⟩ (.int .i64 Hf)).setCell ⟨x9,1,none⟩ (.int .i64 ES)).setCell ⟨x9,2,none⟩ (.slice A9 n9 c9)=wf at B9 HB ⊢
     refine dK (bG ak.out (by kernel_rfl)) ?_
     have h90:=B9.out.cell 0
     have h91:=B9.out.cell 1
     simp only[eP,eO] at h90 h91
     by_cases p0:Hf=0
     .have V9:(Hf==0)=true:=by simpa using p0
      have HE:=aa.mk (VD.out wf (vz,Cu,Iz) (by rw[PN.out,if_pos p0]) HB.out.same)
      clear p0
      gi_wp2_with fail
      exact HE.out
     have V9:(Hf==0)=false:=by simpa using p0
     have HP0:=aa.mk p0
     clear p0
     gi_wp2_with fail
     clear h90 h91
     obtain⟨cst,UQ⟩:∃c,vK cells xl=c:=⟨_,rfl⟩
     have aec:=aa.mk (λ(W1:World) (hl:(Kd.int .i64).C W1 xA xl.length xl) (hb:Below w0.heap.size w0 W1) (hg:W1.cell? ⟨gk,1,none⟩=some (.slice Ar rows.length cr))=>(by
      have:=KE (cl:=xc) rows k xl W1 hl (Kd.av HT.out.kr hb) hg hkl (by omega) (by rw[HCE.out];exact HLX.out.len) (by omega) (λc hc=>by have:=HLX.out.b c hc;omega) (λc hc=>by
       have:=HT.out.x _ (oQ hkl) _ (El (show c<(rows.getD k []).length by rw[HCE.out,<- HLX.out.len];exact hc))
       omega) (λc hc=>by rw[HCE.out];exact HLX.out.a c hc)
      rw[HCE.out,UQ] at this
      exact this:Calls Tryz.prog 118 #[.pointer (some ⟨gk,0,none⟩),.int .i64 (k:Int),.slice xA xl.length xc] W1 λe w'=>e= .returned (.int .i64 cst)/\Below W1.heap.size W1 w'))
     rw[UQ] at hcb
     have ahU:=hcb.1
     have YR:=hcb.2
     have hacc:=PN.out
     rw[UQ] at hacc
     replace PN:=aa.mk hacc
     have ahl:0<=ES:=by omega
     have ahk:ES<=400*4:=by omega
     clear UQ hacc hcb
     have HCB:=aa.mk (⟨ahl,ahk,ahU,YR⟩:0<=ES/\ES<=400*4/\0<=cst/\cst<=400)
     refine lG (by rintro⟨_,_,h⟩;exact h) (by kernel_rfl) (n:=9) (S:=λw'=>w'.cell? ⟨x9,1,none⟩=some (.int .i64 ES)/\w'.cell? ⟨w.heap.size,0,none⟩=some (.pointer (some ⟨gk,0,none⟩))/\w'.cell? ⟨w.heap.size+1,0,none⟩=some (.int .i64 (k:Int))) (ds:=[]) #[O,O,O,O,O,O,O,O,O] (by kernel_rfl) rfl rfl ⟨(by simpa using B9.out.cell 1),(by simpa using HB.out.fr.b2.cell 0),(by simpa using HB.out.fr.b3.cell 0)⟩ (λhHeld=>?_);refine bu qM.Mj qM.FR (λak bN=>?_)
     replace HB:=aa.mk (HB.out.below (aM (Below.refl _ _)))
     replace B9:=aa.mk (B9.out.move rfl:aR wf.drew _ _ _)
     generalize wf.drew=wg at HB B9 hHeld ⊢
     refine aZ 0 58 #[I,O,O,O,O,O,O,O,O] ak (h:=?_)
     refine dG 1 59 #[I,I,O,O,O,O,O,O,O] ak bN hHeld (hy:=by(rintro w' ⟨s0,s1,s2⟩;go_simp;with_reducible rfl)) (h:=?_)
     refine dG 2 60 #[I,I,I,O,O,O,O,O,O] ak bN hHeld (hy:=by(rintro w' ⟨s0,s1,s2⟩;go_simp;with_reducible rfl)) (h:=?_)
     refine aZ 3 61 #[I,I,I,I,O,O,O,O,O] ak (h:=?_)
     refine dG 4 62 #[I,I,I,I,I,O,O,O,O] ak bN hHeld (hy:=by(rintro w' ⟨s0,s1,s2⟩;go_simp;with_reducible rfl)) (h:=?_)
     refine aZ 5 63 #[I,I,I,I,I,I,O,O,O] ak (h:=?_)
     refine dO (i:=6) (N:=some 64) #[I,I,I,I,I,I,I,O,O] rfl rfl (aI ak.out (by kernel_rfl)) (by decide) (λK hK=>?_)
     refine bW Tryz.func118 (by kernel_rfl) rfl #[.pointer (some ⟨gk,0,none⟩),.int .i64 (k:Int),.slice xA xl.length xc] (by rfl) rfl rfl (by(try simp only[List.map_toArray,List.map_cons,List.map_nil]);rfl) ?_
     refine(aec.out _ (sP HB.out.rx) HB.out.fr.wk.b (by simpa using HB.out.fr.wk.k.cell 1)).mono ?_
     rintro e_ w_ ⟨rfl,hbx⟩
     refine⟨_,rfl,hK.out _ _ ⟨(by simpa using (B9.out.below hbx).cell 1),(by simpa using (HB.out.below hbx).fr.b2.cell 0),(by simpa using (HB.out.below hbx).fr.b3.cell 0)⟩ (λhHeld=>?_)⟩
     clear hK K
     replace HB:=aa.mk (HB.out.below hbx)
     replace B9:=aa.mk (B9.out.below hbx)
     clear hbx hHeld aec
     generalize w_=wf at HB B9 ⊢
     have hwk:IntKind.i64.wrap (ES+cst)=ES+cst:=by have:=HCB.out;rw[dI];unfold wrap64;omega
     refine iY ?_
     refine aZ 7 65 #[I,I,I,I,I,I,I,I,O] ak (h:=?_)
     refine aZ 8 10 #[I,I,I,I,I,I,I,I,I] ak (h:=?_)
     refine dK (bG ak.out (by kernel_rfl)) ?_
     clear hwk
     have Kz:=HB.out.b7.cell 0
     have Ky:=HB.out.b7.cell 1
     have h72:=HB.out.b7.cell 2
     have f70:=HB.out.b7.frozen 0
     have f71:=HB.out.b7.frozen 1
     have f72:=HB.out.b7.frozen 2
     have h90:=B9.out.cell 0
     simp only[eP,eO] at Kz Ky h72 h90
     have hnx1:Hf<=65536:=by have:=ajt.out;omega
     have hww:wrap64 (vz+Hf)=vz+Hf:=by unfold wrap64;omega
     by_cases p1:vz=0
     .have p1b:(vz==0)=true:=by simpa using p1
      have HE:=aa.mk (VD.out _ _ (by rw[PN.out,if_neg HP0.out,if_pos (.inl p1)]) (HB.out.RS hs0 (by omega) (vz+Hf) (ES+cst)))
      clear p1
      gi_wp2_with fail
      exact HE.out
     have p1b:(vz==0)=false:=by simpa using p1
     by_cases p2:ES+cst<Cu
     .have p2b:decide (ES+cst<Cu)=true:=by simpa using p2
      have HE:=aa.mk (VD.out _ _ (by rw[PN.out,if_neg HP0.out,if_pos (.inr p2)]) (HB.out.RS hs0 (by omega) (vz+Hf) (ES+cst)))
      clear p1 p2
      gi_wp2_with fail
      exact HE.out
     .have p2b:decide (ES+cst<Cu)=false:=by simpa using p2
      have HE:=aa.mk (VD.out _ _ (by rw[PN.out,if_neg HP0.out,if_neg (λh=>h.elim p1 p2)]) (HB.out.ways hs0 (by omega) (vz+Hf)))
      clear p1 p2
      gi_wp2_with fail
      exact HE.out
   case done=>
    rintro D xs W hD hxs ⟨i1,i2,i3⟩ CX
    obtain⟨v7,j1,j2⟩:=i1
    have hacc:Ct base rows fx left cells s xs=iE base rows fx (left+1) s:=by
     rw[HRK.out]
     unfold Ct
     rw[hxs]
    rw[hacc] at j1 j2
    obtain⟨A7,c7,rfl⟩:=Kd.kP j2
    have acn:=i2.wk.ok
    have hup:=i2.wk.m
    obtain⟨o,ho,hMo⟩:=(hup.below (aM (Below.refl _ _))).update (λb hb=>(acn b hb).1) (k:=k) (s:=s) (by omega) HSO.out (v:= .slice A7 (iE base rows fx (left+1) s).2.2.length c7) (by rw[hleft];exact Kd.bB (Kd.bV j2 (aM (Below.refl _ _))) (λb h=> .inr h))
    rw[hleft] at ho
    unfold mr iG at ho
    obtain⟨⟨r1,r2,r3⟩,hr⟩:∃r,iE base rows fx (left+1) s=r:=⟨_,rfl⟩
    have HRR:=aa.mk hr
    rw[hr] at ho j1 j2
    simp only at ho j1 j2
    obtain⟨n7,hn7⟩:∃n,r3.length=n:=⟨_,rfl⟩
    rw[hn7] at ho j1 j2
    have HDM:=aa.mk CX
    have HDE:=aa.mk hD
    have HMO:=aa.mk hMo
    have DV:=aa.mk i2
    have J1:=aa.mk j1
    have J2:=aa.mk j2
    clear CX hD hMo i2 i3 j1 j2 hacc hr hn7 hup acn hxs
    have h20:=DV.out.b2.cell 0
    have jB:=DV.out.b3.cell 0
    have h31:=DV.out.b3.cell 1
    have h32:=DV.out.b3.cell 2
    have Tz:=DV.out.b3.cell 3
    have h34:=DV.out.b3.cell 4
    have hk3:=DV.out.wk.k.cell 3
    have Kz:=J1.out.cell 0
    have Ky:=J1.out.cell 1
    have h72:=J1.out.cell 2
    simp only[eP,eO] at h20 jB h31 h32 Tz h34 hk3 Kz Ky h72
    dsimp only
    go_wp2_with (with_reducible refine wpIn_wide.2 ?_)
    go_region
    clear h20 jB h31 h32 Tz h34 hk3 Kz Ky h72 ho
    have hne:=DV.out.wk.ne
    have hsz:=DV.out.wk.m.lt
    have j1:=J1.out.move (w':=W.drew.putObj mb o) (fK _ _ (by omega))
    have j2:(Kd.int .i64).R 3 (W.drew.putObj mb o) 0 (λb=>B<=b) (.slice A7 n7 c7) r3:=Kd.gQ J2.out (λb hb _=>fK _ _ (by omega))
    have b4:=DV.out.b4.move (w':=W.drew.putObj mb o) (fK _ _ (by omega))
    have kp:=(DV.out.kp.drew).put (l:=mb) (.inl rfl) o
    have wk:gH w0 gk mb base rows fx Ar cr Af cf (λb=>Ok b\/B<=b) (W.drew.putObj mb o):=⟨DV.out.wk.k.move (fK _ _ hne),(aM DV.out.wk.b).grown (grownBy_putObj' W.drew mb o) DV.out.wk.b.size (λk e=>by cases e;exact ahu),HMO.out,DV.out.wk.Tt,hne,DV.out.wk.ok⟩
    have hdm:(W.drew.putObj mb o).heap[D]?=some (.deferred (some [])):=(fK W.drew o (by have:=HDE.out;omega)).trans HDM.out
    clear J1 J2 DV HMO HDM
    have J1:=aa.mk j1
    have J2:=aa.mk j2
    have B4:=aa.mk b4
    have KP:=aa.mk kp
    have WK:=aa.mk wk
    have HDM:=aa.mk hdm
    clear j1 j2 b4 kp wk hdm
    generalize W.drew.putObj mb o=wu at J1 J2 B4 KP WK HDM ⊢
    have Kz:=J1.out.cell 0
    have Ky:=J1.out.cell 1
    have h72:=J1.out.cell 2
    have lH:=B4.out.cell 0
    have oI:=B4.out.cell 1
    have h42:=B4.out.cell 2
    have f40:=B4.out.frozen 0
    have f41:=B4.out.frozen 1
    have f42:=B4.out.frozen 2
    simp only[eP,eO] at Kz Ky h72 lH oI h42
    go_wp2_with (with_reducible refine wpIn_wide.2 ?_)
    have hDl:=HDE.out
    refine qj (DR:=λb=>Ok b\/B<=b) (g4:=w.heap.size+2) (v:= .slice A7 n7 c7) (ds:=[{target:= .collected D,args:=#[]}]) ⟨⟨D,rfl,by omega,?_,λd' hd'=>by cases hd'⟩,trivial⟩ (by rfl) (by rw[HRR.out];exact B4.out.N7 _ _ _) ?_ ?_ ?_ (λb h=>h.imp id (λh=>by omega)) Vy.out hs0
    .exact((Below.heap_setCell _ _ _ _ (by simp only;omega)).trans ((Below.heap_setCell _ _ _ _ (by simp only;omega)).trans (Below.heap_setCell _ _ _ _ (by simp only;omega)))).trans HDM.out
    .rw[HRR.out]
     exact Kd.bB (lI (lI (lI J2.out B4.out 0 _) (B4.out.setAt 0 _) 1 _) ((B4.out.setAt 0 _).setAt 1 _) 2 _) (λb h=> .inr h)
    .exact((WK.out.typed B4.out (by omega) 0 _).typed (B4.out.setAt 0 _) (by omega) 1 _).typed ((B4.out.setAt 0 _).setAt 1 _) (by omega) 2 _
    .exact((KP.out.setCell (p:=⟨w.heap.size+2,0,none⟩) (.inr (by simp only;omega)) _).setCell (p:=⟨w.heap.size+2,1,none⟩) (.inr (by simp only;omega)) _).setCell (p:=⟨w.heap.size+2,2,none⟩) (.inr (by simp only;omega)) _
end Go.Proofs.YtkjoilgpmngndaaGreat
