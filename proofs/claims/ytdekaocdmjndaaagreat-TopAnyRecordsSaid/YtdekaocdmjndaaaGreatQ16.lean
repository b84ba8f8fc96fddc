import Derived.Test.YtdekaocdmjndaaaGreatQ15
set_option linter.all false
namespace Go.Proofs.YtdekaocdmjndaaaGreat
open Go.RowKit Go.Shelf ah YtdekaocdmjndaaaGreatW.aj YtdekaocdmjndaaaGreatW.aH
attribute [local go_sem] Oper.semAt_some
def rG.T2:Bool×List (List Nat×List Nat):=(true,[([],[]),([0],[0]),([1],[1]),([2],[2]),([],[]),([4],[4]),([3,5],[3,5])])
def rG.B2:List Nat:=[0,1,3,7,0,16,63]
theorem rG.DW:eB .any (opsOf Tryz.f60 2)=rG.T2:=by kernel_rfl
theorem rG.xP:bI rG.T2.2 rG.B2=true:=by kernel_rfl
def rG.T5:Bool×List (List Nat×List Nat):=(true,[([],[]),([0],[0]),([1],[1]),([2],[2]),([],[]),([3,4],[3,4]),([5],[5]),([6],[6]),([6],[6]),([],[]),([9,7,0,1,2,3,4,5,6,7,9],[7,9]),([8,10,0,1,2,3,4,5,6,7,8,9,10],[8])])
def rG.B5:List Nat:=[0,1,3,7,0,31,63,127,127,0,767,2047]
theorem rG.yV:eB .any (opsOf Tryz.f60 5)=rG.T5:=by kernel_rfl
theorem rG.rP:bI rG.T5.2 rG.B5=true:=by kernel_rfl
def rG.Wn:Bool×List (List Nat×List Nat):=(true,[([],[]),([],[]),([1],[1]),([2],[2]),([],[]),([4],[4]),([],[]),([5,6],[5,6]),([3,7],[3,7]),([0,8,7],[0,8]),([],[]),([10,9,9,0,1,2,3,4,5,6,7,8,9,10],[9,10])])
def rG.B11:List Nat:=[0,0,2,6,0,16,0,112,254,511,0,2047]
theorem rG.ME:eB .any (opsOf Tryz.f60 11)=rG.Wn:=by kernel_rfl
theorem rG.Dt:bI rG.Wn.2 rG.B11=true:=by kernel_rfl
def rG.T13:Bool×List (List Nat×List Nat):=(true,[([],[]),([0],[0]),([],[]),([],[]),([3],[3]),([],[]),([2,4,5],[2,4,5]),([1,6],[1,6]),([7,6,0,1,2,3,4,5,6,7],[7])])
def rG.Uk:List Nat:=[0,1,0,0,8,0,60,127,255]
theorem rG.XQ:eB .any (opsOf Tryz.f60 13)=rG.T13:=by kernel_rfl
theorem rG.Wl:bI rG.T13.2 rG.Uk=true:=by kernel_rfl
theorem rH{F:(Nat->Int)->DK}{row:List Int}{s:Nat->Int}{B C:Int}(hB:0<=B)(hC:0<=C)(hF:∀s,0<=(F s).1/\(F s).1<=B/\0<=(F s).2.1/\(F s).2.1<=C):∀(ls:List (List Int)) (acc:DK) (X:Int),(∀l ∈ ls,0<=tV row l/\tV row l<=400)->0<=acc.1/\acc.1<=X->0<=acc.2.1/\acc.2.1<=C+400 ->
  0<=(ls.foldl (lX F row s) acc).1/\(ls.foldl (lX F row s) acc).1<=X+B*ls.length/\0<=(ls.foldl (lX F row s) acc).2.1/\(ls.foldl (lX F row s) acc).2.1<=C+400
 |[],acc,X,_,h1,h2=>by simp;omega
 |l::ls,acc,X,hl,h1,h2=>by
  have hf:=hF (ou s l)
  have hc:=hl l List.mem_cons_self
  rw[List.foldl_cons,List.length_cons]
  have hst:(0<=(lX F row s acc l).1/\(lX F row s acc l).1<=X+B)/\0<=(lX F row s acc l).2.1/\(lX F row s acc l).2.1<=C+400:=by
   unfold lX
   split
   .omega
   .simp only
    split
    .simp only;omega
    .omega
  have:=rH (s:=s) hB hC hF ls (lX F row s acc l) (X+B) (λx hx=>hl x (List.mem_cons_of_mem _ hx)) hst.1 hst.2
  have e:B*((ls.length+1:Nat):Int)=B*ls.length+B:=by push_cast;rw[Int.mul_add,Int.mul_one]
  rw[e]
  omega
structure FB(base:Int)(rows:List (List Int))(fx:List dh):Prop where
 b0:2<=base
 b1:base<=100
 n:rows.length<=5
 l:∀r ∈ rows,r.length=(rows.getD 0 []).length
 l4:(rows.getD 0 []).length<=4
 x:∀r ∈ rows,∀x ∈ r,0<=x/\x<=10100
theorem wE.in_{w:World}{A:Option Addr}{c:Nat}{base:Int}{rows:List (List Int)}{Af:Option Addr}{cf:Nat}{fx:List dh}(h:wE w A c base rows Af cf fx):FB base rows fx:=⟨h.b0,h.b1,h.n,h.l,h.l4,h.x⟩
theorem mZ{rows:List (List Int)}{k:Nat}(h:k<rows.length):rows.getD k [] ∈ rows:=by
 rw[List.getD_eq_getElem?_getD,List.getElem?_eq_getElem h]
 exact List.getElem_mem h
theorem BZ{xs:List Int}{k:Nat}(h:k<xs.length):xs.getD k 0 ∈ xs:=by
 rw[List.getD_eq_getElem?_getD,List.getElem?_eq_getElem h]
 exact List.getElem_mem h
structure afX(row l:List Int):Prop where
 len:l.length=row.length
 b:∀c,c<l.length->0<=l.getD c 0/\l.getD c 0<=10200
 a:∀c,c<l.length->nL (l.getD c 0) (row.getD c 0)<=100
 c:0<=tV row l/\tV row l<=400
theorem FB.leaf{base:Int}{rows:List (List Int)}{fx:List dh}(h:FB base rows fx){k:Nat}(hk:k<rows.length){ok:List Int->Bool}{l:List Int}(hl:l ∈ dF base ok (rows.getD k []) []):afX (rows.getD k []) l:=by
 obtain⟨_,t,h1,h2,h3⟩:=xI h.b0 hl
 rw[List.nil_append] at h1
 subst h1
 have hm:=mZ hk
 have hx:=h.x _ hm
 have hb:=h.b1
 have hlen:=h.l _ hm
 have h4:=h.l4
 have ha:∀c,c<l.length->nL (l.getD c 0) ((rows.getD k []).getD c 0)<=100:=λc hc=>by
  have:=h3 c (by omega)
  unfold nL
  omega
 have hc:=qC (rows.getD k []) l l.length ha
 refine⟨h2,λc hc=>?_,ha,hc.1,?_⟩
 .have h5:=h3 c (by omega)
  have h6:=hx _ (BZ (show c<(rows.getD k []).length by omega))
  omega
 .have:=hc.2
  show nJ _ _ _<=400
  omega
theorem FB.jv{base:Int}{rows:List (List Int)}{fx:List dh}(h:FB base rows fx):∀(left:Nat),left<=rows.length->∀s,0<=(fT base rows fx left s).1/\(fT base rows fx left s).1<=(16:Int)^left/\0<=(fT base rows fx left s).2.1/\(fT base rows fx left s).2.1<=400*left
 |0,_,s=>by
  unfold fT
  split<;>simp
 |left+1,hl,s=>by
  have hk:rows.length-(left+1)<rows.length:=by omega
  have ih:=h.jv left (by omega)
  have hp:(0:Int)<=16^left:=Int.pow_nonneg (by omega)
  have hb:=rH (s:=s) hp (show(0:Int)<=400*left by omega) ih (dF base (zl base (rows.getD (rows.length-(left+1)) []) fx ((rows.length-(left+1):Nat):Int)) (rows.getD (rows.length-(left+1)) []) []) (0,0,[]) 0 (λl hm=>(h.leaf hk hm).c) (by simp) (by simp;omega)
  have hlen:=ow base (zl base (rows.getD (rows.length-(left+1)) []) fx ((rows.length-(left+1):Nat):Int)) (rows.getD (rows.length-(left+1)) []) []
  have hr:(rows.getD (rows.length-(left+1)) []).length<=4:=by rw[h.l _ (mZ hk)];exact h.l4
  have akH:2^(rows.getD (rows.length-(left+1)) []).length<=2^4:=Nat.pow_le_pow_right (by omega) hr
  have h16:((dF base (zl base (rows.getD (rows.length-(left+1)) []) fx ((rows.length-(left+1):Nat):Int)) (rows.getD (rows.length-(left+1)) []) []).length:Int)<=16:=by omega
  have hmul:(16:Int)^left*((dF base (zl base (rows.getD (rows.length-(left+1)) []) fx ((rows.length-(left+1):Nat):Int)) (rows.getD (rows.length-(left+1)) []) []).length:Int)<=16^left*16:=Int.mul_le_mul_of_nonneg_left h16 hp
  have hex:(16:Int)^(left+1)=16^left*16:=by rw[Int.pow_succ]
  rw[fT]
  rw[hex]
  refine⟨hb.1,by omega,hb.2.2.1,?_⟩
  push_cast
  omega
structure eX(w0:World)(gk mb:Nat)(base:Int)(rows:List (List Int))(fx:List dh)(Ar:Option Addr)(cr:Nat)(Af:Option Addr)(cf:Nat)(Ok:Nat->Prop)(W:World):Prop where
 k:aV W gk [.int .i64 base,.slice Ar rows.length cr,.slice Af fx.length cf,.map (some mb)] 274
 b:Below w0.heap.size w0 W
 m:jE W mb (λk s=>fT base rows fx (rows.length-k) s) Ok
 PT:w0.heap.size<=mb
 ne:gk≠mb
 ok:∀b,Ok b->b≠mb/\b≠gk
theorem eX.step{w0:World}{gk mb:Nat}{base:Int}{rows:List (List Int)}{fx:List dh}{Ar:Option Addr}{cr:Nat}{Af:Option Addr}{cf:Nat}{Ok:Nat->Prop}{W W':World}(h:eX w0 gk mb base rows fx Ar cr Af cf Ok W)(T:Nat->Prop)(hk:aY W.heap.size T W W')(h0:∀b,T b->w0.heap.size<=b/\¬Ok b/\b≠gk/\b≠mb):eX w0 gk mb base rows fx Ar cr Af cf Ok W':=
 ⟨h.k.move (hk.block _ h.k.lt (λe=>(h0 _ e).2.2.1 rfl)),⟨hk.os.trans h.b.os,hk.tape.trans h.b.tape,hk.output.trans h.b.output,Nat.le_trans h.b.size hk.size,λb hb=>(hk.block b (Nat.lt_of_lt_of_le hb h.b.size) (λe=>by have:=(h0 _ e).1;omega)).trans (h.b.block b hb)⟩,
  h.m.step (hk.block _ h.m.lt (λe=>(h0 _ e).2.2.2 rfl)) (λb hb hlt=>hk.block b hlt (λe=>(h0 _ e).2.1 hb)) (λ_ h=>h),h.PT,h.ne,h.ok⟩
theorem eX.below{w0:World}{gk mb:Nat}{base:Int}{rows:List (List Int)}{fx:List dh}{Ar:Option Addr}{cr:Nat}{Af:Option Addr}{cf:Nat}{Ok:Nat->Prop}{W W':World}(h:eX w0 gk mb base rows fx Ar cr Af cf Ok W)(hb:Below W.heap.size W W'):eX w0 gk mb base rows fx Ar cr Af cf Ok W':=
 h.step (λ_=>False) (aY.of_below hb (Nat.le_refl _)) (λ_ e=>e.elim)
theorem jE.put{W:World}{mb D:Nat}{F:Nat->(Nat->Int)->Int×Int×List Int}{Ok:Nat->Prop}{x:Option (List Deferred)}(h:jE W mb F Ok)(hD:W.heap[D]?=some (.deferred x))(o:Obj):jE (W.putObj D o) mb F Ok:=by
 obtain⟨es,clock,h0,h1,hnd⟩:=h
 refine⟨es,clock,(World.putObj_heap_other (by rintro rfl;rw[h0] at hD;cases hD)).trans h0,λe he=>?_,hnd⟩
 obtain⟨k,s,v,a,b,c,d,r⟩:=h1 e he
 refine⟨k,s,v,a,b,c,d,Kd.bM (Kd.gz (Kd.bL r) (λi hi _=>World.putObj_heap_other ?_)) (λ_ h=>h.1)⟩
 rintro rfl
 obtain⟨_,_,_,q,_,cells,hc⟩:=hi
 rw[hc] at hD
 cases hD
theorem Jw{W:World}{D b:Nat}{Ok:Nat->Prop}{v:Value}{xs:List Int}{x:Option (List Deferred)}(h:(Kd.int .i64).R 3 W b Ok v xs)(hD:W.heap[D]?=some (.deferred x))(o:Obj):(Kd.int .i64).R 3 (W.putObj D o) b Ok v xs:=by
 refine Kd.bM (Kd.gz (Kd.bL h) (λi hi _=>World.putObj_heap_other ?_)) (λ_ h=>h.1)
 rintro rfl
 obtain⟨_,_,_,q,_,cells,hc⟩:=hi
 rw[hc] at hD
 cases hD
theorem eX.put{w0:World}{gk mb D:Nat}{base:Int}{rows:List (List Int)}{fx:List dh}{Ar:Option Addr}{cr:Nat}{Af:Option Addr}{cf:Nat}{Ok:Nat->Prop}{W:World}{x:Option (List Deferred)}(h:eX w0 gk mb base rows fx Ar cr Af cf Ok W)(hD:W.heap[D]?=some (.deferred x))(h0:w0.heap.size<=D)(o:Obj):eX w0 gk mb base rows fx Ar cr Af cf Ok (W.putObj D o):=
 ⟨h.k.move (World.putObj_heap_other (by rintro rfl;rw[h.k] at hD;cases hD)),h.b.grown (grownBy_putObj' W D o) h.b.size (λk e=>by cases e;exact h0),h.m.put hD o,h.PT,h.ne,h.ok⟩
def wI(w0:World)(gk mb:Nat)(base:Int)(rows:List (List Int))(fx:List dh)(Ar:Option Addr)(cr:Nat)(Af:Option Addr)(cf:Nat)(Ok:Nat->Prop)(w:World)(x:DK)(e:Ending)(w':World):Prop:=
 ∃v,e= .returned (kT x v)/\(Kd.int .i64).R 3 w' 0 (λb=>Ok b\/w.heap.size<=b) v x.2.2/\eX w0 gk mb base rows fx Ar cr Af cf (λb=>Ok b\/w.heap.size<=b) w'/\aY w.heap.size (λb=>b=mb) w w'
theorem XU:Tryz.prog.underlying 167=some (.struct (Tryz.prog.fieldsOf 167)):=by kernel_rfl
theorem oD{w0:World}{gk mb:Nat}{base:Int}{rows:List (List Int)}{fx:List dh}{Ar:Option Addr}{cr:Nat}{Af:Option Addr}{cf:Nat}{Ok Bq:Nat->Prop}{w W:World}{x:DK}{v:Value}{g4:Nat}{ds:List Deferred}{tmps:Array Value}{n:Nat}
  (hm:Marks w.heap.size W ds) (h4:tmps.getD 4 undef= .pointer (some ⟨g4,0,none⟩)) (hB:aV W g4 [.int .i64 x.1,.int .i64 x.2.1,v] 167) (hR:(Kd.int .i64).R 3 W 0 Bq v x.2.2) (hW:eX w0 gk mb base rows fx Ar cr Af cf Bq W) (hK:aY w.heap.size (λb=>b=mb) w W)
  (hO:∀b,Bq b->Ok b\/w.heap.size<=b) (hO2:∀b,Ok b\/w.heap.size<=b->b≠mb/\b≠gk) (h0:w0.heap.size<=w.heap.size):
  LeavesInM Fence.wide n Tryz.prog Tryz.f60 tmps (wI w0 gk mb base rows fx Ar cr Af cf Ok w x) ds .returning W:=by
 refine Marks.leaves (lo:=w.heap.size) (Inv:=λW=>aV W g4 [.int .i64 x.1,.int .i64 x.2.1,v] 167/\(Kd.int .i64).R 3 W 0 Bq v x.2.2/\eX w0 gk mb base rows fx Ar cr Af cf Bq W/\aY w.heap.size (λb=>b=mb) w W) ?_ (λW hi=>?_) ds W hm ⟨hB,hR,hW,hK⟩
 .rintro W D hlo hD ⟨i1,i2,i3,i4⟩
  exact⟨i1.move (World.putObj_heap_other (by rintro rfl;rw[i1] at hD;cases hD)),Jw i2 hD _,i3.put hD (by omega) _,i4.put (.inr hlo) _⟩
 .obtain⟨i1,i2,i3,i4⟩:=hi
  refine⟨_,results_cell_row rfl _ _ g4 167 #[.int .i64 x.1,.int .i64 x.2.1,v] (0,0) _ h4 i1 XU rfl (by kernel_rfl),v,rfl,Kd.bM i2 hO,⟨i3.k,i3.b,i3.m.step rfl (λ_ _ _=>rfl) hO,i3.PT,i3.ne,hO2⟩,i4⟩
structure ll(w0:World)(gk mb:Nat)(base:Int)(rows:List (List Int))(fx:List dh)(Ar:Option Addr)(cr:Nat)(Af:Option Addr)(cf:Nat)(Ok:Nat->Prop)(k:Nat)(s:Nat->Int)(w W:World):Prop where
 b2:aV W w.heap.size [.pointer (some ⟨gk,0,none⟩)] 159
 b3:aV W (w.heap.size+1) [.int .i64 (k:Int),.int .i64 (s 0),.int .i64 (s 1),.int .i64 (s 2),.int .i64 (s 3)] 165
 b4:aV W (w.heap.size+2) [.int .i64 0,.int .i64 0,.slice none 0 0] 167
 wk:eX w0 gk mb base rows fx Ar cr Af cf Ok W
 kp:aY w.heap.size (λb=>b=mb) w W
theorem ll.below{w0:World}{gk mb:Nat}{base:Int}{rows:List (List Int)}{fx:List dh}{Ar:Option Addr}{cr:Nat}{Af:Option Addr}{cf:Nat}{Ok:Nat->Prop}{k:Nat}{s:Nat->Int}{w W W':World}(h:ll w0 gk mb base rows fx Ar cr Af cf Ok k s w W)(hb:Below W.heap.size W W'):ll w0 gk mb base rows fx Ar cr Af cf Ok k s w W':=
 ⟨h.b2.below hb,h.b3.below hb,h.b4.below hb,h.wk.below hb,h.kp.trans (aY.of_below hb h.kp.size)⟩
theorem ll.new{w0:World}{gk mb:Nat}{base:Int}{rows:List (List Int)}{fx:List dh}{Ar:Option Addr}{cr:Nat}{Af:Option Addr}{cf:Nat}{Ok:Nat->Prop}{w:World}(k:Nat)(s:Nat->Int)(h:eX w0 gk mb base rows fx Ar cr Af cf Ok w):
  ll w0 gk mb base rows fx Ar cr Af cf Ok k s w (((w.alloc (.cells #[.pointer (some ⟨gk,0,none⟩)] 159)).alloc (.cells #[.int .i64 (k:Int),.int .i64 (s 0),.int .i64 (s 1),.int .i64 (s 2),.int .i64 (s 3)] 165)).alloc (.cells #[.int .i64 0,.int .i64 0,.slice none 0 0] 167)):=by
 have hb:=ae (ae (ae (Below.refl w.heap.size w) (.cells #[.pointer (some ⟨gk,0,none⟩)] 159)) (.cells #[.int .i64 (k:Int),.int .i64 (s 0),.int .i64 (s 1),.int .i64 (s 2),.int .i64 (s 3)] 165)) (.cells #[.int .i64 0,.int .i64 0,.slice none 0 0] 167)
 have h3:=aV.second w (.cells #[.pointer (some ⟨gk,0,none⟩)] 159) [.int .i64 (k:Int),.int .i64 (s 0),.int .i64 (s 1),.int .i64 (s 2),.int .i64 (s 3)] 165
 have h4:=aV.second (w.alloc (.cells #[.pointer (some ⟨gk,0,none⟩)] 159)) (.cells #[.int .i64 (k:Int),.int .i64 (s 0),.int .i64 (s 1),.int .i64 (s 2),.int .i64 (s 3)] 165) [.int .i64 0,.int .i64 0,.slice none 0 0] 167
 rw[World.size_alloc] at h4
 exact⟨((aV.new w [.pointer (some ⟨gk,0,none⟩)] 159).alloc _).alloc _,h3.alloc _,h4,h.below hb,aY.of_below hb (Nat.le_refl _)⟩
theorem aV.J4{w:World}{g:Nat}{a b c:Value}{t:TypeId}(h:aV w g [a,b,c] t)(u v x:Value):aV (((w.setCell ⟨g,0,none⟩ u).setCell ⟨g,1,none⟩ v).setCell ⟨g,2,none⟩ x) g [u,v,x] t:=((h.setAt 0 u).setAt 1 v).setAt 2 x
theorem eX.far{w0:World}{gk mb:Nat}{base:Int}{rows:List (List Int)}{fx:List dh}{Ar:Option Addr}{cr:Nat}{Af:Option Addr}{cf:Nat}{Ok:Nat->Prop}{W:World}(h:eX w0 gk mb base rows fx Ar cr Af cf Ok W){p:Addr}(h0:w0.heap.size<=p.block/\¬Ok p.block/\p.block≠gk/\p.block≠mb)(u:Value):eX w0 gk mb base rows fx Ar cr Af cf Ok (W.setCell p u):=
 h.step (λb=>b=p.block) ((aY.refl W.heap.size (λb=>b=p.block) W).setCell (p:=p) (.inl rfl) u) (λb e=>by subst e;exact h0)
theorem ll.afm{w0:World}{gk mb:Nat}{base:Int}{rows:List (List Int)}{fx:List dh}{Ar:Option Addr}{cr:Nat}{Af:Option Addr}{cf:Nat}{Ok:Nat->Prop}{k:Nat}{s:Nat->Int}{w W:World}(h:ll w0 gk mb base rows fx Ar cr Af cf Ok k s w W){g:Nat}(hg:w.heap.size+2<g)(hgg:g≠gk/\g≠mb)(hO:∀b,w.heap.size<=b->¬Ok b)(h0:w0.heap.size<=w.heap.size)(a b c:Value):
  ll w0 gk mb base rows fx Ar cr Af cf Ok k s w (((W.setCell ⟨g,0,none⟩ a).setCell ⟨g,1,none⟩ b).setCell ⟨g,2,none⟩ c):=by
 have far:∀{V:World} (p:Addr) (u:Value),p.block=g->ll w0 gk mb base rows fx Ar cr Af cf Ok k s w V->ll w0 gk mb base rows fx Ar cr Af cf Ok k s w (V.setCell p u):=λp u e h=>
  ⟨h.b2.move (Below.heap_setCell _ _ _ _ (by omega)),h.b3.move (Below.heap_setCell _ _ _ _ (by omega)),h.b4.move (Below.heap_setCell _ _ _ _ (by omega)),h.wk.far ⟨by omega,hO _ (by omega),by omega,by omega⟩ u,h.kp.setCell (.inr (by omega)) u⟩
 exact far _ _ rfl (far _ _ rfl (far _ _ rfl h))
theorem AV{W W':World}{row:Option Nat}(hg:W.grownBy W' row):aY W.heap.size (λb=>row=some b) W W':=⟨hg.os,hg.tape,hg.output,hg.size,λk hk hs=>hg.block k hk (λe=>hs e.symm)⟩
theorem ll.grown{w0:World}{gk mb:Nat}{base:Int}{rows:List (List Int)}{fx:List dh}{Ar:Option Addr}{cr:Nat}{Af:Option Addr}{cf:Nat}{Ok:Nat->Prop}{k:Nat}{s:Nat->Int}{w W W':World}(h:ll w0 gk mb base rows fx Ar cr Af cf Ok k s w W){row:Option Nat}(hg:W.grownBy W' row)(h0:w0.heap.size<=w.heap.size)(hr:∀r,row=some r->w.heap.size+2<r/\¬Ok r/\r≠gk/\r≠mb):ll w0 gk mb base rows fx Ar cr Af cf Ok k s w W':=
 have hk:=AV hg
 ⟨h.b2.move (hk.block _ h.b2.lt (λe=>by have:=(hr _ e).1;omega)),h.b3.move (hk.block _ h.b3.lt (λe=>by have:=(hr _ e).1;omega)),h.b4.move (hk.block _ h.b4.lt (λe=>by have:=(hr _ e).1;omega)),h.wk.step _ hk (λb e=>⟨by have:=(hr _ e).1;omega,(hr _ e).2⟩),h.kp.trans (hk.mono h.kp.size (λb hb e=>by have:=(hr _ e).1;omega))⟩
theorem ll.ok{w0:World}{gk mb:Nat}{base:Int}{rows:List (List Int)}{fx:List dh}{Ar:Option Addr}{cr:Nat}{Af:Option Addr}{cf:Nat}{Ok Bq:Nat->Prop}{k:Nat}{s:Nat->Int}{w W:World}(h:ll w0 gk mb base rows fx Ar cr Af cf Ok k s w W)(hi:∀b,Ok b->Bq b)(hn:∀b,Bq b->b≠mb/\b≠gk):ll w0 gk mb base rows fx Ar cr Af cf Bq k s w W:=
 ⟨h.b2,h.b3,h.b4,⟨h.wk.k,h.wk.b,h.wk.m.step rfl (λ_ _ _=>rfl) hi,h.wk.PT,h.wk.ne,hn⟩,h.kp⟩
def zT(base:Int)(rows:List (List Int))(fx:List dh)(left:Nat)(cells:List Int)(s:Nat->Int)(pre:List E3):DK:=(pre.map (·.1)).foldl (lX (fT base rows fx left) cells s) (0,0,[])
theorem ll.call{w0:World}{gk mb:Nat}{base:Int}{rows:List (List Int)}{fx:List dh}{Ar:Option Addr}{cr:Nat}{Af:Option Addr}{cf:Nat}{Ok:Nat->Prop}{k:Nat}{s:Nat->Int}{w W W':World}(h:ll w0 gk mb base rows fx Ar cr Af cf Ok k s w W)(hO:∀b,W.heap.size<=b->Ok b)
  (hw:eX w0 gk mb base rows fx Ar cr Af cf (λb=>Ok b\/W.heap.size<=b) W') (hk:aY W.heap.size (λb=>b=mb) W W') (hmb:mb<w.heap.size):ll w0 gk mb base rows fx Ar cr Af cf Ok k s w W':=
 ⟨h.b2.move (hk.block _ h.b2.lt (by omega)),h.b3.move (hk.block _ h.b3.lt (by omega)),h.b4.move (hk.block _ h.b4.lt (by omega)),⟨hw.k,hw.b,hw.m.step rfl (λ_ _ _=>rfl) (λb hb=>hb.elim id (hO b)),hw.PT,hw.ne,λb hb=>hw.ok b (.inl hb)⟩,h.kp.trans (hk.mono h.kp.size (λ_ _ h=>h))⟩
structure il(w0:World)(gk mb:Nat)(base:Int)(rows:List (List Int))(fx:List dh)(Ar:Option Addr)(cr:Nat)(Af:Option Addr)(cf:Nat)(Ok:Nat->Prop)(k:Nat)(s:Nat->Int)(w:World)(B g7:Nat)(acc:DK)(v7:Value)(x:E3)(Wr W:World):Prop where
 fr:ll w0 gk mb base rows fx Ar cr Af cf (λb=>Ok b\/B<=b) k s w W
 b7:aV W g7 [.int .i64 acc.1,.int .i64 acc.2.1,v7] 167
 r7:(Kd.int .i64).R 3 W 0 (λb=>B<=b) v7 acc.2.2
 rx:(Kd.int .i64).R 3 W 0 (λb=>B<=b) (.slice x.2.1 x.1.length x.2.2) x.1
 kb:aY Wr.heap.size (λb=>b=mb) Wr W
 sz:B<=W.heap.size
section
variable {w0:World} {gk mb:Nat} {base:Int} {rows:List (List Int)} {fx:List dh} {Ar:Option Addr} {cr:Nat} {Af:Option Addr} {cf:Nat} {Ok:Nat->Prop} {k:Nat} {s:Nat->Int} {w:World} {B g7:Nat} {acc:DK} {v7:Value} {x:E3} {Wr W W':World}
theorem il.below(h:il w0 gk mb base rows fx Ar cr Af cf Ok k s w B g7 acc v7 x Wr W)(hb:Below W.heap.size W W'):il w0 gk mb base rows fx Ar cr Af cf Ok k s w B g7 acc v7 x Wr W':=
 ⟨h.fr.below hb,h.b7.below hb,Kd.dm h.r7 hb,Kd.dm h.rx hb,h.kb.trans (aY.of_below hb h.kb.size),Nat.le_trans h.sz hb.size⟩
theorem il.call(h:il w0 gk mb base rows fx Ar cr Af cf Ok k s w B g7 acc v7 x Wr W)(hw:eX w0 gk mb base rows fx Ar cr Af cf (λb=>(Ok b\/B<=b)\/W.heap.size<=b) W')(hk:aY W.heap.size (λb=>b=mb) W W')(hmb:mb<w.heap.size)(h7:g7≠mb)(hB:mb<B):il w0 gk mb base rows fx Ar cr Af cf Ok k s w B g7 acc v7 x Wr W':=
 ⟨h.fr.call (λb hb=> .inr (Nat.le_trans h.sz hb)) hw hk hmb,h.b7.move (hk.block _ h.b7.lt h7),Kd.gz h.r7 (λb hb hlt=>hk.block b hlt (by omega)),Kd.gz h.rx (λb hb hlt=>hk.block b hlt (by omega)),h.kb.trans (hk.mono h.kb.size (λ_ _ h=>h)),Nat.le_trans h.sz hk.size⟩
end
theorem jY{W:World}{b g:Nat}{Ok:Nat->Prop}{v:Value}{xs:List Int}{cs:List Value}(h:(Kd.int .i64).R 3 W b Ok v xs)(hb:aV W g cs 167)(j:Nat)(u:Value):(Kd.int .i64).R 3 (W.setCell ⟨g,j,none⟩ u) b Ok v xs:=
 Kd.Ty h (g:=g) (t:=167) (cells:=cs.toArray) hb (λq hq=>by rcases List.mem_cons.1 hq with rfl|hq<;>first|decide|cases hq) j u
theorem jE.typed{W:World}{mb g:Nat}{F:Nat->(Nat->Int)->Int×Int×List Int}{Ok:Nat->Prop}{cs:List Value}(h:jE W mb F Ok)(hb:aV W g cs 167)(j:Nat)(u:Value):jE (W.setCell ⟨g,j,none⟩ u) mb F Ok:=by
 obtain⟨es,clock,h0,h1,hnd⟩:=h
 refine⟨es,clock,(Below.heap_setCell _ _ _ _ (by rintro rfl;have:=h0.symm.trans hb;cases this)).trans h0,λe he=>?_,hnd⟩
 obtain⟨k,s,v,a,b,c,d,r⟩:=h1 e he
 exact⟨k,s,v,a,b,c,d,jY r hb j u⟩
theorem eX.typed{w0:World}{gk mb g:Nat}{base:Int}{rows:List (List Int)}{fx:List dh}{Ar:Option Addr}{cr:Nat}{Af:Option Addr}{cf:Nat}{Ok:Nat->Prop}{W:World}{cs:List Value}(h:eX w0 gk mb base rows fx Ar cr Af cf Ok W)(hb:aV W g cs 167)(h0:w0.heap.size<=g)(j:Nat)(u:Value):eX w0 gk mb base rows fx Ar cr Af cf Ok (W.setCell ⟨g,j,none⟩ u):=
 have hne:gk≠g:=by
  rintro rfl
  have:=h.k.symm.trans hb
  injection this with this
  injection this with _ h2
  cases h2
 ⟨h.k.move (Below.heap_setCell _ _ _ _ hne),h.b.setCell (p:=⟨g,j,none⟩) h0 u,h.m.typed hb j u,h.PT,h.ne,h.ok⟩
theorem ll.typed{w0:World}{gk mb g:Nat}{base:Int}{rows:List (List Int)}{fx:List dh}{Ar:Option Addr}{cr:Nat}{Af:Option Addr}{cf:Nat}{Ok:Nat->Prop}{k:Nat}{s:Nat->Int}{w W:World}{cs:List Value}(h:ll w0 gk mb base rows fx Ar cr Af cf Ok k s w W)(hb:aV W g cs 167)(h0:w0.heap.size<=w.heap.size)(hg:w.heap.size+2<g)(j:Nat)(u:Value):ll w0 gk mb base rows fx Ar cr Af cf Ok k s w (W.setCell ⟨g,j,none⟩ u):=
 ⟨h.b2.move (Below.heap_setCell _ _ _ _ (by simp only;omega)),h.b3.move (Below.heap_setCell _ _ _ _ (by simp only;omega)),h.b4.move (Below.heap_setCell _ _ _ _ (by simp only;omega)),h.wk.typed hb (by omega) j u,h.kp.setCell (p:=⟨g,j,none⟩) (.inr (by simp only;omega)) u⟩
theorem eX.bound{w0:World}{gk mb:Nat}{base:Int}{rows:List (List Int)}{fx:List dh}{Ar:Option Addr}{cr:Nat}{Af:Option Addr}{cf:Nat}{Ok:Nat->Prop}{W:World}(h:eX w0 gk mb base rows fx Ar cr Af cf Ok W):eX w0 gk mb base rows fx Ar cr Af cf (λb=>Ok b/\b<W.heap.size) W:=by
 refine⟨h.k,h.b,?_,h.PT,h.ne,λb hb=>h.ok b hb.1⟩
 obtain⟨es,clock,h0,h1,hnd⟩:=h.m
 refine⟨es,clock,h0,λe he=>?_,hnd⟩
 obtain⟨k,s,v,a,b,c,d,r⟩:=h1 e he
 exact⟨k,s,v,a,b,c,d,Kd.bM (Kd.bL r) (λ_ h=>⟨h.1,h.2.2.1⟩)⟩
theorem il.store{w0:World}{gk mb:Nat}{base:Int}{rows:List (List Int)}{fx:List dh}{Ar:Option Addr}{cr:Nat}{Af:Option Addr}{cf:Nat}{Ok:Nat->Prop}{k:Nat}{s:Nat->Int}{w:World}{B g7 g:Nat}{acc:DK}{v7:Value}{x:E3}{Wr W:World}{cs:List Value}
  (h:il w0 gk mb base rows fx Ar cr Af cf Ok k s w B g7 acc v7 x Wr W) (hb:aV W g cs 167) (h0:w0.heap.size<=w.heap.size) (hB:w.heap.size+2<B) (hg:B<=g) (h7:g7<B) (hW:Wr.heap.size<=g) (j:Nat) (u:Value):il w0 gk mb base rows fx Ar cr Af cf Ok k s w B g7 acc v7 x Wr (W.setCell ⟨g,j,none⟩ u):=
 ⟨h.fr.typed hb h0 (by omega) j u,h.b7.move (Below.heap_setCell _ _ _ _ (by simp only;omega)),jY h.r7 hb j u,jY h.rx hb j u,h.kb.setCell (p:=⟨g,j,none⟩) (.inr hW) u,by have:=h.sz;simp[World.setCell];omega⟩
theorem il.Uu{w0:World}{gk mb:Nat}{base:Int}{rows:List (List Int)}{fx:List dh}{Ar:Option Addr}{cr:Nat}{Af:Option Addr}{cf:Nat}{Ok:Nat->Prop}{k:Nat}{s:Nat->Int}{w:World}{B g7 g:Nat}{acc:DK}{v7:Value}{x:E3}{Wr W:World}{cs:List Value}
  (h:il w0 gk mb base rows fx Ar cr Af cf Ok k s w B g7 acc v7 x Wr W) (hb:aV W g cs 167) (h0:w0.heap.size<=w.heap.size) (hB:w.heap.size+2<B) (hg:B<=g) (h7:g7<B) (hW:Wr.heap.size<=g) (a b c:Value):il w0 gk mb base rows fx Ar cr Af cf Ok k s w B g7 acc v7 x Wr (((W.setCell ⟨g,0,none⟩ a).setCell ⟨g,1,none⟩ b).setCell ⟨g,2,none⟩ c):=
 ((h.store hb h0 hB hg h7 hW 0 a).store (hb.setAt 0 a) h0 hB hg h7 hW 1 b).store ((hb.setAt 0 a).setAt 1 b) h0 hB hg h7 hW 2 c
def PL(w0:World)(gk mb:Nat)(base:Int)(rows:List (List Int))(fx:List dh)(Ar:Option Addr)(cr:Nat)(Af:Option Addr)(cf:Nat)(Ok:Nat->Prop)(k:Nat)(s:Nat->Int)(w:World)(B g7 left:Nat)(cells:List Int)(all:List (List Int))(pre:List E3)(W:World):Prop:=
 (∃v7,aV W g7 [.int .i64 (zT base rows fx left cells s pre).1,.int .i64 (zT base rows fx left cells s pre).2.1,v7] 167/\(Kd.int .i64).R 3 W 0 (λb=>B<=b) v7 (zT base rows fx left cells s pre).2.2)/\ll w0 gk mb base rows fx Ar cr Af cf (λb=>Ok b\/B<=b) k s w W/\∀y ∈ pre,y.1 ∈ all
theorem LA(base:Int)(rows:List (List Int))(fx:List dh)(left:Nat)(cells:List Int)(s:Nat->Int)(pre:List E3)(x:E3):zT base rows fx left cells s (pre++[x])=lX (fT base rows fx left) cells s (zT base rows fx left cells s pre) x.1:=by
 unfold zT
 rw[List.map_append,List.foldl_append]
 rfl
theorem qG{W:World}{b:Nat}{Ok:Nat->Prop}{A:Option Addr}{n c:Nat}{xs:List Int}(h:(Kd.int .i64).R 3 W b Ok (.slice A n c) xs):(Kd.int .i64).C W A n xs:=by
 have:=Kd.eZ h
 rw[this.1]
 exact this.2.2
def yL(w0:World)(gk mb:Nat)(base:Int)(rows:List (List Int))(fx:List dh)(Ar:Option Addr)(cr:Nat)(Af:Option Addr)(cf:Nat)(Ok:Nat->Prop)(k:Nat)(s:Nat->Int)(w:World)(B g7:Nat)(acc:DK)(Wr W:World):Prop:=
 aY Wr.heap.size (λb=>b=mb\/b=g7) Wr W/\(∃v7,aV W g7 [.int .i64 acc.1,.int .i64 acc.2.1,v7] 167/\(Kd.int .i64).R 3 W 0 (λb=>B<=b) v7 acc.2.2)/\ll w0 gk mb base rows fx Ar cr Af cf (λb=>Ok b\/B<=b) k s w W
theorem il.same{w0:World}{gk mb:Nat}{base:Int}{rows:List (List Int)}{fx:List dh}{Ar:Option Addr}{cr:Nat}{Af:Option Addr}{cf:Nat}{Ok:Nat->Prop}{k:Nat}{s:Nat->Int}{w:World}{B g7:Nat}{acc:DK}{v7:Value}{x:E3}{Wr W:World}(h:il w0 gk mb base rows fx Ar cr Af cf Ok k s w B g7 acc v7 x Wr W):yL w0 gk mb base rows fx Ar cr Af cf Ok k s w B g7 acc Wr W:=
 ⟨h.kb.mono (Nat.le_refl _) (λ_ _ h=> .inl h),⟨v7,h.b7,h.r7⟩,h.fr⟩
theorem il.ways{w0:World}{gk mb:Nat}{base:Int}{rows:List (List Int)}{fx:List dh}{Ar:Option Addr}{cr:Nat}{Af:Option Addr}{cf:Nat}{Ok:Nat->Prop}{k:Nat}{s:Nat->Int}{w:World}{B g7:Nat}{acc:DK}{v7:Value}{x:E3}{Wr W:World}(h:il w0 gk mb base rows fx Ar cr Af cf Ok k s w B g7 acc v7 x Wr W)(h0:w0.heap.size<=w.heap.size)(hg:w.heap.size+2<g7)(a:Int):yL w0 gk mb base rows fx Ar cr Af cf Ok k s w B g7 (a,acc.2) Wr (W.setCell ⟨g7,0,none⟩ (.int .i64 a)):=
 ⟨(h.kb.mono (Nat.le_refl _) (λ_ _ h=> .inl h)).setCell (p:=⟨g7,0,none⟩) (.inl (.inr rfl)) _,⟨v7,h.b7.setAt 0 _,jY h.r7 h.b7 0 _⟩,h.fr.typed h.b7 h0 hg 0 _⟩
theorem il.OS{w0:World}{gk mb:Nat}{base:Int}{rows:List (List Int)}{fx:List dh}{Ar:Option Addr}{cr:Nat}{Af:Option Addr}{cf:Nat}{Ok:Nat->Prop}{k:Nat}{s:Nat->Int}{w:World}{B g7:Nat}{acc:DK}{v7:Value}{x:E3}{Wr W:World}(h:il w0 gk mb base rows fx Ar cr Af cf Ok k s w B g7 acc v7 x Wr W)(h0:w0.heap.size<=w.heap.size)(hg:w.heap.size+2<g7)(a n:Int):yL w0 gk mb base rows fx Ar cr Af cf Ok k s w B g7 (a,n,x.1) Wr (((W.setCell ⟨g7,1,none⟩ (.int .i64 n)).setCell ⟨g7,2,none⟩ (.slice x.2.1 x.1.length x.2.2)).setCell ⟨g7,0,none⟩ (.int .i64 a)):=
 ⟨(((h.kb.mono (Nat.le_refl _) (λ_ _ h=> .inl h)).setCell (p:=⟨g7,1,none⟩) (.inl (.inr rfl)) _).setCell (p:=⟨g7,2,none⟩) (.inl (.inr rfl)) _).setCell (p:=⟨g7,0,none⟩) (.inl (.inr rfl)) _,
  ⟨_,((h.b7.setAt 1 _).setAt 2 _).setAt 0 _,jY (jY (jY h.rx h.b7 1 _) (h.b7.setAt 1 _) 2 _) ((h.b7.setAt 1 _).setAt 2 _) 0 _⟩,((h.fr.typed h.b7 h0 hg 1 _).typed (h.b7.setAt 1 _) h0 hg 2 _).typed ((h.b7.setAt 1 _).setAt 2 _) h0 hg 0 _⟩
set_option maxRecDepth 100000 in
set_option maxHeartbeats 40000000 in
theorem Hm{w0:World}{gk mb:Nat}{base:Int}{rows:List (List Int)}{fx:List dh}{Ar:Option Addr}{cr:Nat}{Af:Option Addr}{cf:Nat}(hT:wE w0 Ar cr base rows Af cf fx)(hfx:∀f ∈ fx,0<=f.f1/\f.f1<(rows.getD 0 []).length)(hf:fx.length<=1000):
  ∀(left k:Nat),k+left=rows.length->∀(s:Nat->Int),(∀i,0<=s i/\s i<=10200*(k:Int))->(∀i,4<=i->s i=0)->∀(Ok:Nat->Prop) (w:World),eX w0 gk mb base rows fx Ar cr Af cf Ok w->(∀b,Ok b->b<w.heap.size) ->
  Calls Tryz.prog 60 #[.pointer (some ⟨gk,0,none⟩),fU k s] w (wI w0 gk mb base rows fx Ar cr Af cf Ok w (fT base rows fx left s)):=by
 have HT:=aa.mk hT
 have HFX:=aa.mk hfx
 have hn5:=hT.n
 clear hT hfx
 intro left
 induction left with
 |zero=>
  intro k hk s hs hs4 Ok w hW SX
  have HS:=aa.mk hs
  have yw:=aa.mk hs4
  obtain rfl:k=rows.length:=by omega
  clear hs hs4 hk
  unfold fU
  refine(callsIn_wide (n:=9)).1 (bV Tryz.func60 rfl trivial ?_ rfl)
  simp only[Tryz.ntmps60,List.size_toArray,List.length_cons,List.length_nil,Nat.reduceAdd,Nat.reduceSub,Array.replicate_succ,Array.replicate_zero,List.push_toArray,List.append_toArray,List.nil_append,List.cons_append]
  refine wpIn_wide.2 ?_
  have HF:=aa.mk (ll.new rows.length s hW)
  have LU:=aa.mk (show ∀b,Ok b\/w.heap.size<=b->b≠mb/\b≠gk from λb hb=>hb.elim (hW.ok b) (λh=>by have h1:=hW.m.lt;have h2:=hW.k.lt;omega))
  have Pn:=aa.mk (show ∀i,¬Ok (w.heap.size+i) from λi h=>by have:=SX _ h;omega)
  have Xr:=aa.mk (show w.heap.size+2≠gk/\w.heap.size+2≠mb from by have h1:=hW.m.lt;have h2:=hW.k.lt;omega)
  have hs0:=hW.b.size
  clear hW SX
  go_wp2_with (with_reducible refine wpIn_wide.2 ?_)
  rw[show w.heap.size+1+1=w.heap.size+2 from rfl]
  generalize((w.alloc (.cells #[.pointer (some ⟨gk,0,none⟩)] 159)).alloc (.cells #[.int .i64 (rows.length:Int),.int .i64 (s 0),.int .i64 (s 1),.int .i64 (s 2),.int .i64 (s 3)] 165)).alloc (.cells #[.int .i64 0,.int .i64 0,.slice none 0 0] 167)=w3 at HF ⊢
  have h2:=HF.out.b2.cell 0
  have h3:=HF.out.b3.cell 0
  have h1:=HF.out.wk.k.cell 1
  simp only[dZ,dY] at h1 h2 h3
  go_region
  clear h1 h2 h3
  go_wp2_with (with_reducible refine wpIn_wide.2 ?_)
  replace HF:=aa.mk (HF.out.below (aN (Below.refl _ _)))
  generalize w3.drew=w4 at HF ⊢
  obtain⟨b,hb⟩:∃b,qD base rows s=b:=⟨_,rfl⟩
  have HB:=aa.mk hb
  have hV:fT base rows fx 0 s=(if b then 1 else 0,0,[]):=by rw[<- hb];rfl
  have HV:=aa.mk hV
  clear hb hV
  refine fF (n:=7) (S:=λw'=>w'.cell? ⟨w.heap.size,0,none⟩=some (.pointer (some ⟨gk,0,none⟩))/\w'.cell? ⟨gk,0,none⟩=some (.int .i64 base)/\w'.cell? ⟨gk,1,none⟩=some (.slice Ar rows.length cr)/\w'.cell? ⟨gk,2,none⟩=some (.slice Af fx.length cf)/\w'.cell? ⟨w.heap.size+1,1,none⟩=some (.int .i64 (s 0))/\w'.cell? ⟨w.heap.size+1,2,none⟩=some (.int .i64 (s 1))/\w'.cell? ⟨w.heap.size+1,3,none⟩=some (.int .i64 (s 2))/\w'.cell? ⟨w.heap.size+1,4,none⟩=some (.int .i64 (s 3))) (ds:=[6]) #[O,O,O,O,O,O,O] (by kernel_rfl) rfl rfl ⟨(by simpa using HF.out.b2.cell 0),(by simpa using HF.out.wk.k.cell 0),(by simpa using HF.out.wk.k.cell 1),(by simpa using HF.out.wk.k.cell 2),(by simpa using HF.out.b3.cell 1),(by simpa using HF.out.b3.cell 2),(by simpa using HF.out.b3.cell 3),(by simpa using HF.out.b3.cell 4)⟩ (λhHeld=>?_);refine bG rG.DW rG.xP (λau cz=>?_)
  replace HF:=aa.mk (HF.out.below (aN (Below.refl _ _)))
  generalize w4.drew=wd at HF hHeld ⊢
  refine fJ 0 20 #[I,O,O,O,O,O,O] au cz hHeld (hy:=by(rintro w' ⟨s0,s1,s2,s3,s4,s5,s6,s7⟩;go_simp;with_reducible rfl)) (h:=?_)
  refine bq 1 21 #[I,I,O,O,O,O,O] au (h:=?_)
  refine bq 2 22 #[I,I,I,O,O,O,O] au (h:=?_)
  refine fJ 3 23 #[I,I,I,I,O,O,O] au cz hHeld (hy:=by(rintro w' ⟨s0,s1,s2,s3,s4,s5,s6,s7⟩;go_simp;with_reducible rfl)) (h:=?_)
  refine bq 4 24 #[I,I,I,I,I,O,O] au (h:=?_)
  refine fJ 5 25 #[I,I,I,I,I,I,O] au cz hHeld (hy:=by(rintro w' ⟨s0,s1,s2,s3,s4,s5,s6,s7⟩;go_simp;with_reducible rfl)) (h:=?_)
  refine fB (i:=6) (N:=some 26) #[I,I,I,I,I,I,I] rfl rfl (aM au.out (by kernel_rfl)) (by decide) (λK hK=>?_)
  refine bT Tryz.func74 (by kernel_rfl) rfl #[.agg #[.int .i64 base,.slice Ar rows.length cr,.slice Af fx.length cf],.agg #[.int .i64 (s 0),.int .i64 (s 1),.int .i64 (s 2),.int .i64 (s 3)]] (by rfl) rfl rfl (by(try simp only[List.map_toArray,List.map_cons,List.map_nil]);rfl) ?_
  refine(Dm s _ (HT.out.later HF.out.wk.b) (λi=>by have:=HS.out i;omega)).mono ?_
  rintro e_ w_ ⟨rfl,hbx⟩
  refine⟨_,rfl,hK.out _ _ ?_⟩
  clear hK K
  replace HF:=aa.mk (HF.out.below hbx)
  clear hbx
  rw[HB.out]
  refine j4 ?_
  refine fM (bP au.out (by kernel_rfl)) ?_
  have xm:=HF.out.b4.cell 0
  have xk:=HF.out.b4.cell 1
  have Xh:=HF.out.b4.cell 2
  have f40:=HF.out.b4.frozen 0
  have f41:=HF.out.b4.frozen 1
  have f42:=HF.out.b4.frozen 2
  simp only[dZ,dY] at xm xk Xh
  cases b
  .go_wp2_with (with_reducible refine wpIn_wide.2 ?_)
   refine oD (Bq:=Ok) (g4:=w.heap.size+2) (v:= .slice none 0 0) (ds:=[]) trivial rfl ?_ (by rw[HV.out];exact Kd.iH _ _ _ _ _) ?_ ?_ (λb h=> .inl h) LU.out hs0
   .rw[HV.out];exact HF.out.b4.J4 _ _ _
   .exact((HF.out.wk.far ⟨by simp only;omega,Pn.out _,Xr.out⟩ _).far ⟨by simp only;omega,Pn.out _,Xr.out⟩ _).far ⟨by simp only;omega,Pn.out _,Xr.out⟩ _
   .exact((HF.out.kp.setCell (.inr (by simp only;omega)) _).setCell (.inr (by simp only;omega)) _).setCell (.inr (by simp only;omega)) _
  .go_wp2_with (with_reducible refine wpIn_wide.2 ?_)
   refine oD (Bq:=Ok) (g4:=w.heap.size+2) (v:= .slice none 0 0) (ds:=[]) trivial rfl ?_ (by rw[HV.out];exact Kd.iH _ _ _ _ _) ?_ ?_ (λb h=> .inl h) LU.out hs0
   .rw[HV.out];exact HF.out.b4.J4 _ _ _
   .exact((HF.out.wk.far ⟨by simp only;omega,Pn.out _,Xr.out⟩ _).far ⟨by simp only;omega,Pn.out _,Xr.out⟩ _).far ⟨by simp only;omega,Pn.out _,Xr.out⟩ _
   .exact((HF.out.kp.setCell (.inr (by simp only;omega)) _).setCell (.inr (by simp only;omega)) _).setCell (.inr (by simp only;omega)) _
 |succ left ih=>
  intro k hk s hs hs4 Ok w hW SX
  have HS:=aa.mk hs
  have yw:=aa.mk hs4
  have hkr:((k:Int)==(rows.length:Int))=false:=by simpa using (show(k:Int)≠(rows.length:Int) by omega)
  have hkl:k<rows.length:=by omega
  have hleft:rows.length-k=left+1:=by omega
  have HIH:=aa.mk (λ(s':Nat->Int) (h1:∀i,0<=s' i/\s' i<=10200*((k:Int)+1)) (h2:∀i,4<=i->s' i=0) (Bq:Nat->Prop) (W:World) (hw:eX w0 gk mb base rows fx Ar cr Af cf Bq W) (ho:∀b,Bq b->b<W.heap.size)=>(by
   have:=ih (k+1) (by omega) s' (by push_cast;exact h1) h2 Bq W hw ho
   unfold fU at this
   rw[show((k+1:Nat):Int)=(k:Int)+1 from by push_cast;rfl] at this
   exact this:Calls Tryz.prog 60 #[.pointer (some ⟨gk,0,none⟩),.agg #[.int .i64 ((k:Int)+1),.int .i64 (s' 0),.int .i64 (s' 1),.int .i64 (s' 2),.int .i64 (s' 3)]] W (wI w0 gk mb base rows fx Ar cr Af cf Bq W (fT base rows fx left s'))))
  have hso:uO s:=⟨λi=>by have:=hs i;omega,hs4⟩
  have HSO:=aa.mk hso
  clear hs hs4 hk ih hso
  unfold fU
  refine(callsIn_wide (n:=9)).1 (bV Tryz.func60 rfl trivial ?_ rfl)
  simp only[Tryz.ntmps60,List.size_toArray,List.length_cons,List.length_nil,Nat.reduceAdd,Nat.reduceSub,Array.replicate_succ,Array.replicate_zero,List.push_toArray,List.append_toArray,List.nil_append,List.cons_append]
  refine wpIn_wide.2 ?_
  have HF:=aa.mk (ll.new k s hW)
  have LU:=aa.mk (show ∀b,Ok b\/w.heap.size<=b->b≠mb/\b≠gk from λb hb=>hb.elim (hW.ok b) (λh=>by have h1:=hW.m.lt;have h2:=hW.k.lt;omega))
  have Pn:=aa.mk (show ∀i,¬Ok (w.heap.size+i) from λi h=>by have:=SX _ h;omega)
  have DL:=aa.mk SX
  have hmb:=hW.m.lt
  have hgk:=hW.k.lt
  have hs0:=hW.b.size
  have aeu:=hW.PT
  clear hW SX
  go_wp2_with (with_reducible refine wpIn_wide.2 ?_)
  rw[show w.heap.size+1+1=w.heap.size+2 from rfl]
  generalize((w.alloc (.cells #[.pointer (some ⟨gk,0,none⟩)] 159)).alloc (.cells #[.int .i64 (k:Int),.int .i64 (s 0),.int .i64 (s 1),.int .i64 (s 2),.int .i64 (s 3)] 165)).alloc (.cells #[.int .i64 0,.int .i64 0,.slice none 0 0] 167)=w3 at HF ⊢
  have h2:=HF.out.b2.cell 0
  have h3:=HF.out.b3.cell 0
  have h1:=HF.out.wk.k.cell 1
  simp only[dZ,dY] at h1 h2 h3
  go_region
  clear h1 h2 h3
  go_wp2_with (with_reducible refine wpIn_wide.2 ?_)
  replace HF:=aa.mk (HF.out.below (aN (Below.refl _ _)))
  generalize w3.drew=w4 at HF ⊢
  obtain⟨x,A5,n5,c5,b,hbt,hlk⟩:=HF.out.wk.m.lookup (k:=k) (s:=s) (by omega) HSO.out
  rw[hleft] at hbt
  obtain⟨x1,x2,x3⟩:=x
  have HBT:=aa.mk hbt
  clear hbt
  unfold kT fU at hlk
  simp only at hlk
  refine fF (n:=12) (S:=λw'=>w'.cell? ⟨w.heap.size,0,none⟩=some (.pointer (some ⟨gk,0,none⟩))/\w'.cell? ⟨gk,3,none⟩=some (.map (some mb))/\w'.cell? ⟨w.heap.size+1,0,none⟩=some (.int .i64 (k:Int))/\w'.cell? ⟨w.heap.size+1,1,none⟩=some (.int .i64 (s 0))/\w'.cell? ⟨w.heap.size+1,2,none⟩=some (.int .i64 (s 1))/\w'.cell? ⟨w.heap.size+1,3,none⟩=some (.int .i64 (s 2))/\w'.cell? ⟨w.heap.size+1,4,none⟩=some (.int .i64 (s 3))/\(Instr.lookup 272 (.map (some mb)) (.agg #[.int .i64 (k:Int),.int .i64 (s 0),.int .i64 (s 1),.int .i64 (s 2),.int .i64 (s 3)]) true).run Tryz.prog w'= .ok (.tuple #[.agg #[.int .i64 x1,.int .i64 x2,.slice A5 n5 c5],.bool b]) w') (ds:=[10]) #[O,O,O,O,O,O,O,O,O,O,O,O] (by kernel_rfl) rfl rfl ⟨(by simpa using (HF.out).b2.cell 0),(by simpa using (HF.out).wk.k.cell 3),(by simpa using (HF.out).b3.cell 0),(by simpa using (HF.out).b3.cell 1),(by simpa using (HF.out).b3.cell 2),(by simpa using (HF.out).b3.cell 3),(by simpa using (HF.out).b3.cell 4),(hlk _ rfl)⟩ (λhHeld=>?_);refine bG rG.yV rG.rP (λau cz=>?_)
  replace HF:=aa.mk (HF.out.below (aN (Below.refl _ _)))
  have agt:=aa.mk (show ∀b,w.heap.size<=b->¬Ok b from λb h1 h2=>by have:=DL.out b h2;omega)
  replace hlk:∀w':World,w'.heap[mb]?=w4.drew.heap[mb]?->_:=hlk
  have HW4:=aa.mk (show Below w4.heap.size w4 w4.drew from aN (Below.refl _ _))
  generalize w4.drew=wd at HF HW4 hlk hHeld ⊢
  refine fJ 0 30 #[I,O,O,O,O,O,O,O,O,O,O,O] au cz hHeld (hy:=by(rintro w' ⟨s0,s1,s2,s3,s4,s5,s6,s7⟩;go_simp;with_reducible rfl)) (h:=?_)
  refine bq 1 31 #[I,I,O,O,O,O,O,O,O,O,O,O] au (h:=?_)
  refine bq 2 32 #[I,I,I,O,O,O,O,O,O,O,O,O] au (h:=?_)
  refine fJ 3 33 #[I,I,I,I,O,O,O,O,O,O,O,O] au cz hHeld (hy:=by(rintro w' ⟨s0,s1,s2,s3,s4,s5,s6,s7⟩;go_simp;with_reducible rfl)) (h:=?_)
  refine fJ 4 34 #[I,I,I,I,I,O,O,O,O,O,O,O] au cz hHeld (hy:=by(rintro w' ⟨s0,s1,s2,s3,s4,s5,s6,s7⟩;go_simp;with_reducible rfl)) (h:=?_)
  refine fJ 5 35 #[I,I,I,I,I,I,O,O,O,O,O,O] au cz hHeld (hy:=by(rintro w' ⟨s0,s1,s2,s3,s4,s5,s6,s7⟩;go_simp;with_reducible rfl)) (h:=?_)
  refine bq 6 29 #[I,I,I,I,I,I,I,O,O,O,O,O] au (h:=?_)
  refine bq 7 36 #[I,I,I,I,I,I,I,I,O,O,O,O] au (h:=?_)
  refine bq 8 37 #[I,I,I,I,I,I,I,I,I,O,O,O] au (h:=?_)
  refine gB (i:=9) (N:=some 5) #[I,I,I,I,I,I,I,I,I,I,O,O] rfl rfl (aM au.out (by kernel_rfl)) (by decide) (λK hK=>?_)
  refine bD (w1:=?_) (v:=?_) (by rfl) rfl ?_ ?_
  rotate_left 2
  .go_simp
   constructor<;>rfl
  have e_:=HF.out.below (ae (Below.refl _ _) (.cells #[.int .i64 0,.int .i64 0,.slice none 0 0] 167))
  refine hK.out _ _ ⟨(by simpa using e_.b2.cell 0),(by simpa using e_.wk.k.cell 3),(by simpa using e_.b3.cell 0),(by simpa using e_.b3.cell 1),(by simpa using e_.b3.cell 2),(by simpa using e_.b3.cell 3),(by simpa using e_.b3.cell 4),(hlk _ (Below.heap_alloc _ _ _ HF.out.wk.m.lt))⟩ (λhHeld=>?_)
  clear hK K
  have B5:=aa.mk (aV.new wd [.int .i64 0,.int .i64 0,.slice none 0 0] 167)
  have HG5:=aa.mk (show w.heap.size+2<wd.heap.size from HF.out.b4.lt)
  have R3:=aa.mk ((aY.refl wd.heap.size (λ_=>False) wd).alloc (Nat.le_refl _) (.cells #[.int .i64 0,.int .i64 0,.slice none 0 0] 167))
  have WI:=aa.mk (show w.heap.size<=wd.heap.size from HF.out.kp.size)
  replace HF:=aa.mk (HF.out.below (ae (Below.refl _ _) (.cells #[.int .i64 0,.int .i64 0,.slice none 0 0] 167)))
  clear hlk
  generalize hg5:wd.heap.size=g5 at B5 HG5 R3 WI ⊢
  clear hg5
  generalize wd.alloc (.cells #[.int .i64 0,.int .i64 0,.slice none 0 0] 167)=we at B5 HF R3 hHeld ⊢
  refine j4 ?_
  refine fB (i:=10) (N:=none) #[I,I,I,I,I,I,I,I,I,I,I,O] rfl rfl (aM au.out (by kernel_rfl)) (by decide) (λK hK=>?_)
  have iD:=(show we.cell? ⟨g5,0,none⟩=some (.int .i64 0) by simpa using B5.out.cell 0)
  have lG:=B5.out.frozen 0
  have NL:we.cell? ⟨g5,1,none⟩=some (.int .i64 0):=by simpa using B5.out.cell 1
  have NY:=B5.out.frozen 1
  have EN:we.cell? ⟨g5,2,none⟩=some (.slice none 0 0):=by simpa using B5.out.cell 2
  have ES:=B5.out.frozen 2
  refine kg (w1:=?_) (by rfl) rfl ?_ ?_
  rotate_left
  .go_simp
   rfl
  refine hK.out _ _ ?_
  clear hK K iD lG NL NY EN ES
  replace HF:=aa.mk (ll.afm HF.out (by have:=HG5.out;omega) (by have:=HG5.out;omega) agt.out hs0 (.int .i64 x1) (.int .i64 x2) (.slice A5 n5 c5))
  replace R3:=aa.mk (((R3.out.setCell (p:=⟨g5,0,none⟩) (.inr (Nat.le_refl _)) (.int .i64 x1)).setCell (p:=⟨g5,1,none⟩) (.inr (Nat.le_refl _)) (.int .i64 x2)).setCell (p:=⟨g5,2,none⟩) (.inr (Nat.le_refl _)) (.slice A5 n5 c5))
  replace B5:=aa.mk (B5.out.J4 (.int .i64 x1) (.int .i64 x2) (.slice A5 n5 c5))
  generalize((we.setCell ⟨g5,0,none⟩ (.int .i64 x1)).setCell ⟨g5,1,none⟩ (.int .i64 x2)).setCell ⟨g5,2,none⟩ (.slice A5 n5 c5)=wf at B5 HF R3 ⊢
  refine bq 11 6 #[I,I,I,I,I,I,I,I,I,I,I,I] au (h:=?_)
  refine fM (bP au.out (by kernel_rfl)) ?_
  have hz5:w.heap.size+2<g5:=HG5.out
  have h50:=B5.out.cell 0
  have Tc:=B5.out.cell 1
  have h52:=B5.out.cell 2
  have xm:=HF.out.b4.cell 0
  have xk:=HF.out.b4.cell 1
  have Xh:=HF.out.b4.cell 2
  have f40:=HF.out.b4.frozen 0
  have f41:=HF.out.b4.frozen 1
  have f42:=HF.out.b4.frozen 2
  simp only[dZ,dY] at xm xk Xh h50 Tc h52
  cases b
  rotate_left
  .obtain⟨hx,hR⟩:=HBT.out rfl
   have HX:=aa.mk hx
   have HR:=aa.mk hR
   clear hx hR
   go_wp2_with (with_reducible refine wpIn_wide.2 ?_)
   refine oD (Bq:=Ok) (g4:=w.heap.size+2) (v:= .slice A5 n5 c5) (ds:=[]) trivial rfl ?_ ?_ ?_ ?_ (λb h=> .inl h) LU.out hs0
   .rw[<- HX.out];exact HF.out.b4.J4 _ _ _
   .rw[<- HX.out]
    exact Kd.gz (Kd.gz (Kd.gz (Kd.gz (Kd.dm HR.out HW4.out) (λb hb _=>R3.out.block b (by have:=DL.out b hb;have:=WI.out;omega) (λh=>h))) (λb hb _=>Below.heap_setCell _ _ _ _ (by have:=DL.out b hb;simp only;omega))) (λb hb _=>Below.heap_setCell _ _ _ _ (by have:=DL.out b hb;simp only;omega))) (λb hb _=>Below.heap_setCell _ _ _ _ (by have:=DL.out b hb;simp only;omega))
   .exact((HF.out.wk.far ⟨by simp only;omega,Pn.out _,by simp only;omega,by simp only;omega⟩ _).far ⟨by simp only;omega,Pn.out _,by simp only;omega,by simp only;omega⟩ _).far ⟨by simp only;omega,Pn.out _,by simp only;omega,by simp only;omega⟩ _
   .exact((HF.out.kp.setCell (.inr (by simp only;omega)) _).setCell (.inr (by simp only;omega)) _).setCell (.inr (by simp only;omega)) _
  .clear HBT xm xk Xh f40 f41 f42 h50 Tc h52
   have B7:=aa.mk (aV.new wf [.int .i64 0,.int .i64 0,.slice none 0 0] 167)
   have HG7:=aa.mk (show w.heap.size+2<wf.heap.size from HF.out.b4.lt)
   replace HF:=aa.mk (HF.out.below (ae (Below.refl _ _) (.cells #[.int .i64 0,.int .i64 0,.slice none 0 0] 167)))
   have h2:=HF.out.b2.cell 0
   have h3:=HF.out.b3.cell 0
   simp only[dZ,dY] at h2 h3
   go_wp2_with (with_reducible refine wpIn_wide.2 ?_)
   have U7:=B7.out.lt
   clear h2 h3 B5 R3 WI HW4 HG5 hz5
   generalize hg7:wf.heap.size=g7 at B7 HG7 U7 ⊢
   generalize hw8:wf.alloc (.cells #[.int .i64 0,.int .i64 0,.slice none 0 0] 167)=w8 at HF B7 U7 ⊢
   clear hg7 hw8
   refine(Bl gk k w8).mono ?_
   rintro e w9 ⟨rfl,Yh⟩
   have hgw:=(aV.new w8 [.pointer (some ⟨gk,0,none⟩)] 159).alloc (.cells #[.int .i64 (k:Int)] 3)
   have hgr:=aV.second w8 (.cells #[.pointer (some ⟨gk,0,none⟩)] 159) [.int .i64 (k:Int)] 3
   rw[<- Yh] at hgw hgr
   have BW:=aa.mk hgw
   have BR:=aa.mk hgr
   have Vo:Below w8.heap.size w8 w9:=by rw[Yh];exact ae (ae (Below.refl _ _) _) _
   have FI:=aa.mk (show w9.heap.size=w8.heap.size+2 by rw[Yh];simp)
   replace HF:=aa.mk (HF.out.below Vo)
   replace B7:=aa.mk (B7.out.below Vo)
   have h8:=HG7.out
   have HL:=aa.mk Vo.size
   generalize w8.heap.size=g8 at BW BR FI U7 ⊢
   clear Yh hgw hgr Vo
   go_wp2_with (with_reducible refine wpIn_wide.2 ?_)
   refine(wpIn_wide (n:=9)).1 ?_
   obtain⟨B,hB⟩:∃B,w9.heap.size+6=B:=⟨_,rfl⟩
   have Yh:w9.heap.size<=g8+2/\g8+2<=w9.heap.size:=by have:=FI.out;omega
   have ak0:gk<w.heap.size:=hgk
   have hrk:fT base rows fx (left+1) s=(dF base (zl base (rows.getD k []) fx (k:Int)) (rows.getD k []) []).foldl (lX (fT base rows fx left) (rows.getD k []) s) (0,0,[]):=by
    rw[fT,show rows.length-(left+1)=k by omega]
   have HRK:=aa.mk hrk
   have hlf:=λl=>HT.out.in_.leaf (k:=k) hkl (ok:=zl base (rows.getD k []) fx (k:Int)) (l:=l)
   have HLF:=aa.mk hlf
   have hlN:(dF base (zl base (rows.getD k []) fx (k:Int)) (rows.getD k []) []).length<=16:=by
    have h1:=ow base (zl base (rows.getD k []) fx (k:Int)) (rows.getD k []) []
    have h2:(rows.getD k []).length<=4:=by rw[HT.out.l _ (mZ hkl)];exact HT.out.l4
    have h3:2^(rows.getD k []).length<=2^4:=Nat.pow_le_pow_right (by omega) h2
    omega
   clear hrk hlf
   have hse:=Fh (w:=w9) (gw:=g8) (gr:=g8+1) (gk:=gk) (N:=16) (S:=λb=>b=mb\/b=g7\/b=w9.heap.size\/b=w9.heap.size+1) (row:=k) HT.out HFX.out hf hkl ?hE ?hS ?hS0 hlN
   case hE=>
    intro W' hk
    have nS:∀b,(b=g8\/b=g8+1\/b=gk)->¬(b=mb\/b=g7\/b=w9.heap.size\/b=w9.heap.size+1):=λb hb=>by
     have:=HF.out.wk.ne
     omega
    have b1:=BW.out.move (hk.block _ BW.out.lt (nS _ (.inl rfl)))
    have b2:=BR.out.move (hk.block _ BR.out.lt (nS _ (.inr (.inl rfl))))
    have b3:=HF.out.wk.k.move (hk.block _ HF.out.wk.k.lt (nS _ (.inr (.inr rfl))))
    exact⟨b1.cell 0,b3.cell 0,b3.cell 1,b3.cell 2,b2.cell 0,⟨hk.os.trans HF.out.wk.b.os,hk.tape.trans HF.out.wk.b.tape,hk.output.trans HF.out.wk.b.output,Nat.le_trans HF.out.wk.b.size hk.size,λb hb=>(hk.block b (Nat.lt_of_lt_of_le hb HF.out.wk.b.size) (by omega)).trans (HF.out.wk.b.block b hb)⟩⟩
   case hS=>intro b hb;omega
   case hS0=>intro b hb;omega
   rw[hB] at hse
   obtain⟨cells,hcells⟩:∃c,rows.getD k []=c:=⟨_,rfl⟩
   rw[hcells] at hse HRK HLF
   obtain⟨all,hall⟩:∃a,dF base (zl base cells fx (k:Int)) cells []=a:=⟨_,rfl⟩
   rw[hall] at hse HRK HLF
   have HCE:=aa.mk hcells
   clear hcells hall hlN
   refine Ke (k:=4) (n:=9) (by decide) rfl (enters Tryz.func144 (by kernel_rfl) rfl) hse (λh k=>h.trans (k.mono h.size (λ_ _ h=>h))) (λW l o' h1 h2 h3=>(aY.refl W.heap.size _ W).put (.inl (by omega)) o') (λx=>rfl) ?hX
    (λt x=>t.setIfInBounds 44 (.slice x.2.1 x.1.length x.2.2)) (λt x=>(t.setIfInBounds 44 (.slice x.2.1 x.1.length x.2.2)).setIfInBounds 8 (.slice x.2.1 x.1.length x.2.2)) (λt x=>by simp[enc3])
    (PL w0 gk mb base rows fx Ar cr Af cf Ok k s w B g7 left cells all)
    ?hI ⟨⟨_,B7.out,Kd.iH _ _ _ _ _⟩,HF.out.ok (λb h=> .inl h) (λb hb=>hb.elim (λh=>LU.out b (.inl h)) (λh=>by omega)),λy hy=>by cases hy⟩ ?assign ?body ?done
   case hX=>
    rintro x _ W W' row ⟨h1,h2,h3⟩ hg hr
    exact⟨Kd.bM (Kd.qH (Kd.bL h1) hg (λb hb e=>by have:=hr b e.symm;have:=hb.2.1;omega)) (λ_ h=>trivial),h2,Nat.le_trans h3 hg.size⟩
   case hI=>
    rintro pre W W' row ⟨i1,i2,i3⟩ hg hr
    obtain⟨v7,j1,j2⟩:=i1
    exact⟨⟨v7,j1.move (hg.block g7 j1.lt (λe=>by have:=hr _ e.symm;omega)),Kd.qH j2 hg (λb hb e=>by have:=hr b e.symm;omega)⟩,i2.grown hg hs0 (λr e=>by have h1:=hr r e;have h2:=Pn.out;exact⟨by omega,λh=>h.elim (λh=>by have:=DL.out r h;omega) (λh=>by omega),by omega,by omega⟩),i3⟩
   case assign=>
    intro l x W K hK
    simp only[sb0,sb1,bR] at hK ⊢
    gi_wp2_with fail
    exact hK
   case body=>
    rintro l pre ⟨xl,xA,xc⟩ W ⟨i1,i2,i3⟩ ⟨hx1,hx2,hx3⟩ hlen
    obtain⟨v7,j1,j2⟩:=i1
    obtain⟨A7,c7,rfl⟩:=Kd.di j2
    have NM:=HLF.out xl hx2
    have hacc:=LA base rows fx left cells s pre (xl,xA,xc)
    have hab:=rH (s:=s) (row:=cells) (show(0:Int)<=16^left from Int.pow_nonneg (by omega)) (show(0:Int)<=400*left by omega) (HT.out.in_.jv left (by omega)) (pre.map (·.1)) (0,0,[]) 0 (λl hl=>by
     obtain⟨y,hy,rfl⟩:=List.mem_map.1 hl
     exact(HLF.out y.1 (i3 y hy)).c) (by simp) (by simp;omega)
    have h16:(16:Int)^left<=65536:=by
     rcases(show left=0\/left=1\/left=2\/left=3\/left=4 by omega) with rfl|rfl|rfl|rfl|rfl<;>decide
    rw[show(pre.map (·.1)).foldl (lX (fT base rows fx left) cells s) (0,0,[])=zT base rows fx left cells s pre from rfl,List.length_map] at hab
    obtain⟨acc,hac⟩:∃a,zT base rows fx left cells s pre=a:=⟨_,rfl⟩
    have ae3:acc.1<=16*65536:=by
     rw[hac] at hab
     have h1:(16:Int)^left*(pre.length:Int)<=65536*(pre.length:Int):=Int.mul_le_mul_of_nonneg_right h16 (by omega)
     omega
    rw[hac] at hab hacc j1 j2
    have ae4:=hab.1
    have ae2:=hab.2.2
    have agn:=aa.mk (λy (hy:y ∈ pre++[(xl,xA,xc)])=>(List.mem_append.1 hy).elim (i3 y) (λh=>by rw[List.mem_singleton.1 h];exact hx2):∀y ∈ pre++[(xl,xA,xc)],y.1 ∈ all)
    have HB:=aa.mk (show il w0 gk mb base rows fx Ar cr Af cf Ok k s w B g7 acc (.slice A7 acc.2.2.length c7) (xl,xA,xc) W W from⟨i2,j1,j2,Kd.dG (Kd.bM (Kd.bL hx1) (λ_ h=>h.2.1)) (Nat.zero_le _),aY.refl _ _ _,hx3⟩)
    obtain⟨tK,zU,Fz⟩:=acc
    simp only at ae4 ae3 ae2
    obtain⟨n7,Yu⟩:∃n,Fz.length=n:=⟨_,rfl⟩
    simp only[Yu] at HB
    obtain⟨s',hs'⟩:∃s',ou s xl=s':=⟨_,rfl⟩
    have aev:xl.length<=4:=by rw[NM.len,<- HCE.out,HT.out.l _ (mZ hkl)];exact HT.out.l4
    have hxb:∀x ∈ xl,0<=x/\x<=10200:=λx hx=>by
     obtain⟨i,hi,rfl⟩:=List.getElem_of_mem hx
     have:=NM.b i hi
     rwa [List.getD_eq_getElem?_getD,List.getElem?_eq_getElem hi] at this
    have Yl:∀i,0<=s' i/\s' i<=10200*((k:Int)+1):=λi=>by
     have:=xE HS.out (d:=10200) (by omega) hxb i
     rw[hs'] at this
     omega
    have Ym:∀i,4<=i->s' i=0:=λi hi=>by
     rw[<- hs']
     unfold ou mi
     rw[if_neg (by omega)]
     exact yw.out i hi
    have HPL:=aa.mk (λ(W1:World) (hc:(Kd.int .i64).C W1 xA xl.length xl)=>(by
     have:=zh s (c:=xc) xl W1 hc aev (λi=>by have:=HS.out i;omega) (λx hx=>by have:=hxb x hx;omega)
     rw[hs'] at this
     exact this:Calls Tryz.prog 62 #[.agg #[.int .i64 (s 0),.int .i64 (s 1),.int .i64 (s 2),.int .i64 (s 3)],.slice xA xl.length xc] W1 λe w'=>e= .returned (.agg #[.int .i64 (s' 0),.int .i64 (s' 1),.int .i64 (s' 2),.int .i64 (s' 3)])/\Below W1.heap.size W1 w'))
    obtain⟨⟨Eo,CG,nx3⟩,hnx⟩:∃r,fT base rows fx left s'=r:=⟨_,rfl⟩
    have hnb:=HT.out.in_.jv left (by omega) s'
    rw[hnx] at hnb
    simp only at hnb
    have aet:mb<B:=by omega
    have agu:=aa.mk (show Eo<=65536 by omega)
    have Xv:=aa.mk (λ(W1:World) (hB1:il w0 gk mb base rows fx Ar cr Af cf Ok k s w B g7 (tK,zU,Fz) (.slice A7 n7 c7) (xl,xA,xc) W W1)=>(by
     refine(HIH.out s' Yl Ym _ W1 hB1.fr.wk.bound (λb hb=>hb.2)).mono ?_
     rintro e w' ⟨v,rfl,hR,hW,hK⟩
     rw[hnx] at hR ⊢
     obtain⟨A9,c9,rfl⟩:=Kd.di hR
     refine⟨A9,_,c9,rfl,Kd.bM hR (λb hb=>hb.elim (λh=>h.1) (λh=> .inr (Nat.le_trans hB1.sz h))),hB1.call ⟨hW.k,hW.b,hW.m.step rfl (λ_ _ _=>rfl) (λb hb=>hb.elim (λh=> .inl h.1) .inr),hW.PT,hW.ne,λb hb=>hb.elim (λh=>hB1.fr.wk.ok b h) (λh=>by have h1:=hB1.fr.wk.k.lt;have h2:=hB1.fr.wk.m.lt;omega)⟩ hK hmb (by omega) aet,hK⟩:Calls Tryz.prog 60 #[.pointer (some ⟨gk,0,none⟩),.agg #[.int .i64 ((k:Int)+1),.int .i64 (s' 0),.int .i64 (s' 1),.int .i64 (s' 2),.int .i64 (s' 3)]] W1 λe w'=>∃A9 n9 c9,e= .returned (.agg #[.int .i64 Eo,.int .i64 CG,.slice A9 n9 c9])/\(Kd.int .i64).R 3 w' 0 (λb=>Ok b\/B<=b) (.slice A9 n9 c9) nx3/\(il w0 gk mb base rows fx Ar cr Af cf Ok k s w B g7 (tK,zU,Fz) (.slice A7 n7 c7) (xl,xA,xc) W w')/\aY W1.heap.size (λb=>b=mb) W1 w'))
    have hst:lX (fT base rows fx left) cells s (tK,zU,Fz) xl=if Eo=0 then(tK,zU,Fz) else(tK+Eo,if tK=0\/CG+tV cells xl<zU then(CG+tV cells xl,xl) else(zU,Fz)):=by
     unfold lX
     rw[hs',hnx]
    rw[hst] at hacc
    have LW:=aa.mk hacc
    have HLX:=aa.mk NM
    have hcb:=NM.c
    have hB9:w.heap.size+2<B:=by omega
    have h7B:g7<B:=by omega
    have hwB:W.heap.size<=W.heap.size:=Nat.le_refl _
    have hk5:(k:Int)+1<=5:=by omega
    have R6:=aa.mk (λ(W1:World) (r:DK) (hr:zT base rows fx left cells s (pre++[(xl,xA,xc)])=r) (h:yL w0 gk mb base rows fx Ar cr Af cf Ok k s w B g7 r W W1)=>(⟨⟨h.1.size,λb o hb ho _=>(h.1.block b (Array.getElem?_eq_some_iff.1 ho).1 (by omega)).trans ho⟩,h.1.mono (Nat.le_refl _) (λb _ hb=>by omega),by unfold PL;rw[hr];exact⟨h.2.1,h.2.2,agn.out⟩⟩:KeepsFrom w9.heap.size W W1/\aY W.heap.size (λb=>b=mb\/b=g7\/b=w9.heap.size\/b=w9.heap.size+1) W W1/\PL w0 gk mb base rows fx Ar cr Af cf Ok k s w B g7 left cells all (pre++[(xl,xA,xc)]) W1))
    clear i2 i3 hx1 hx2 hx3 j1 j2 NM hacc hab hac hs' Yl Ym hxb hnx hst Yu h16
    simp only[sb0,sb1,bR]
    gi_wp2_with fail
    refine mE (by rintro⟨_,_,h⟩;exact h) (by kernel_rfl) (n:=12) (S:=λw'=>w'.cell? ⟨w.heap.size,0,none⟩=some (.pointer (some ⟨gk,0,none⟩))/\w'.cell? ⟨w.heap.size+1,0,none⟩=some (.int .i64 (k:Int))/\w'.cell? ⟨w.heap.size+1,1,none⟩=some (.int .i64 (s 0))/\w'.cell? ⟨w.heap.size+1,2,none⟩=some (.int .i64 (s 1))/\w'.cell? ⟨w.heap.size+1,3,none⟩=some (.int .i64 (s 2))/\w'.cell? ⟨w.heap.size+1,4,none⟩=some (.int .i64 (s 3))) (ds:=[11]) #[O,O,O,O,O,O,O,O,O,O,O,O] (by kernel_rfl) rfl rfl ⟨(by simpa using (HB.out.fr).b2.cell 0),(by simpa using (HB.out.fr).b3.cell 0),(by simpa using (HB.out.fr).b3.cell 1),(by simpa using (HB.out.fr).b3.cell 2),(by simpa using (HB.out.fr).b3.cell 3),(by simpa using (HB.out.fr).b3.cell 4)⟩ (λhHeld=>?_);refine bG rG.ME rG.Dt (λau cz=>?_)
    replace HB:=aa.mk (HB.out.below (aN (Below.refl _ _)))
    generalize W.drew=wd at HB hHeld ⊢
    have hwk:IntKind.i64.wrap ((k:Int)+1)=(k:Int)+1:=by rw[cB];unfold wrap64;omega
    refine fJ 0 45 #[I,O,O,O,O,O,O,O,O,O,O,O] au cz hHeld (hy:=by(rintro w' ⟨s0,s1,s2,s3,s4,s5⟩;go_simp;with_reducible rfl)) (h:=?_)
    refine bq 1 46 #[I,I,O,O,O,O,O,O,O,O,O,O] au (h:=?_)
    refine fJ 2 47 #[I,I,I,O,O,O,O,O,O,O,O,O] au cz hHeld (hy:=by(rintro w' ⟨s0,s1,s2,s3,s4,s5⟩;go_simp;with_reducible rfl)) (h:=?_)
    refine bq 3 48 #[I,I,I,I,O,O,O,O,O,O,O,O] au (h:=?_)
    refine bq 4 49 #[I,I,I,I,I,O,O,O,O,O,O,O] au (h:=?_)
    refine fJ 5 50 #[I,I,I,I,I,I,O,O,O,O,O,O] au cz hHeld (hy:=by(rintro w' ⟨s0,s1,s2,s3,s4,s5⟩;go_simp;with_reducible rfl)) (h:=?_)
    refine bq 6 51 #[I,I,I,I,I,I,I,O,O,O,O,O] au (h:=?_)
    clear hwk
    refine gD (σ:=Nat×Option Addr×Nat×Nat) 1 #[I,I,I,I,I,I,I,I,I,I,I,O] (λx=>[(52,(.agg #[.int .i64 (s' 0),.int .i64 (s' 1),.int .i64 (s' 2),.int .i64 (s' 3)])),(53,.agg #[.int .i64 ((k:Int)+1),.int .i64 (s' 0),.int .i64 (s' 1),.int .i64 (s' 2),.int .i64 (s' 3)]),(54,.agg #[.int .i64 Eo,.int .i64 CG,.slice x.2.1 x.2.2.1 x.2.2.2]),(9,.pointer (some ⟨x.1,0,none⟩))]) (λx w'=>(il w0 gk mb base rows fx Ar cr Af cf Ok k s w B g7 (tK,zU,Fz) (.slice A7 n7 c7) (xl,xA,xc) W w')/\aV w' x.1 [.int .i64 0,.int .i64 0,.slice none 0 0] 167/\B<=x.1/\W.heap.size<=x.1) ?cont ?orders
    case orders=>
     intro hcont
     refine tF (i:=7) (j:=10) (Ni:=some 52) (Nj:=some 9) #[I,I,I,I,I,I,I,I,O,O,O,O] #[I,I,I,I,I,I,I,O,O,O,I,O] rfl rfl rfl rfl (jL au.out (by kernel_rfl)) (by decide) (by decide) (λK hK=>?_) (λK hK=>?_)
     .refine bT Tryz.func62 (by kernel_rfl) rfl #[.agg #[.int .i64 (s 0),.int .i64 (s 1),.int .i64 (s 2),.int .i64 (s 3)],.slice xA xl.length xc] (by rfl) rfl rfl (by(try simp only[List.map_toArray,List.map_cons,List.map_nil]);rfl) ?_
      refine(HPL.out _ (qG HB.out.rx)).mono ?_
      rintro e_ w_ ⟨rfl,hbx⟩
      have e_:=(HB.out.below hbx).fr
      refine⟨_,rfl,hK.out _ _ (⟨(by simpa using e_.b2.cell 0),(by simpa using e_.b3.cell 0),(by simpa using e_.b3.cell 1),(by simpa using e_.b3.cell 2),(by simpa using e_.b3.cell 3),(by simpa using e_.b3.cell 4)⟩) (λhHeld=>?_)⟩
      clear hK K
      replace HB:=aa.mk (HB.out.below hbx)
      refine j4 ?_
      generalize w_=wp at HB hHeld ⊢
      refine bq 8 53 #[I,I,I,I,I,I,I,I,I,O,O,O] au (h:=?_)
      refine tF (i:=9) (j:=10) (Ni:=some 54) (Nj:=some 9) #[I,I,I,I,I,I,I,I,I,I,O,O] #[I,I,I,I,I,I,I,I,I,O,I,O] rfl rfl rfl rfl (jL au.out (by kernel_rfl)) (by decide) (by decide) (λK hK=>?_) (λK hK=>?_)
      .refine bT Tryz.func60 (by kernel_rfl) rfl #[.pointer (some ⟨gk,0,none⟩),.agg #[.int .i64 ((k:Int)+1),.int .i64 (s' 0),.int .i64 (s' 1),.int .i64 (s' 2),.int .i64 (s' 3)]] (by rfl) rfl rfl (by(try simp only[List.map_toArray,List.map_cons,List.map_nil]);rfl) ?_
       refine(Xv.out _ HB.out).mono ?_
       rintro e_ w_ ⟨A9,n9,c9,rfl,YP,lZ,YV⟩
       refine⟨_,rfl,hK.out _ _ (⟨(by simpa using (lZ.fr).b2.cell 0),(by simpa using (lZ.fr).b3.cell 0),(by simpa using (lZ.fr).b3.cell 1),(by simpa using (lZ.fr).b3.cell 2),(by simpa using (lZ.fr).b3.cell 3),(by simpa using (lZ.fr).b3.cell 4)⟩) (λhHeld=>?_)⟩
       clear hK K
       replace HB:=aa.mk lZ
       clear lZ YP
       refine j4 ?_
       generalize w_=wq at HB hHeld ⊢
       refine gB (i:=10) (N:=some 9) #[I,I,I,I,I,I,I,I,I,I,I,O] rfl rfl (aM au.out (by kernel_rfl)) (by decide) (λK hK=>?_)
       refine bD (w1:=?_) (v:=?_) (by rfl) rfl ?_ ?_
       rotate_left 2
       .go_simp
        constructor<;>rfl
       have e_:=(HB.out.below (ae (Below.refl _ _) (.cells #[.int .i64 0,.int .i64 0,.slice none 0 0] 167))).fr
       refine hK.out _ _ ⟨(by simpa using e_.b2.cell 0),(by simpa using e_.b3.cell 0),(by simpa using e_.b3.cell 1),(by simpa using e_.b3.cell 2),(by simpa using e_.b3.cell 3),(by simpa using e_.b3.cell 4)⟩ (λhHeld=>?_)
       clear hK K
       have DN:=aa.mk (aV.new wq [.int .i64 0,.int .i64 0,.slice none 0 0] 167)
       have PU:B<=wq.heap.size:=HB.out.sz
       have Ba:W.heap.size<=wq.heap.size:=HB.out.kb.size
       replace HB:=aa.mk (HB.out.below (ae (Below.refl _ _) (.cells #[.int .i64 0,.int .i64 0,.slice none 0 0] 167)))
       refine j4 ?_
       have hfin:=hcont (wq.heap.size,A9,n9,c9) _ ⟨HB.out,DN.out,PU,Ba⟩
       refine aW ?_ hfin
       simp only[aK,Act.put,sb0,sb1,bR]
      .refine bD (w1:=?_) (v:=?_) (by rfl) rfl ?_ ?_
       rotate_left 2
       .go_simp
        constructor<;>rfl
       have e_:=(HB.out.below (ae (Below.refl _ _) (.cells #[.int .i64 0,.int .i64 0,.slice none 0 0] 167))).fr
       refine hK.out _ _ ⟨(by simpa using e_.b2.cell 0),(by simpa using e_.b3.cell 0),(by simpa using e_.b3.cell 1),(by simpa using e_.b3.cell 2),(by simpa using e_.b3.cell 3),(by simpa using e_.b3.cell 4)⟩ (λhHeld=>?_)
       clear hK K
       have DN:=aa.mk (aV.new wp [.int .i64 0,.int .i64 0,.slice none 0 0] 167)
       have PU:B<=wp.heap.size:=HB.out.sz
       have Ba:W.heap.size<=wp.heap.size:=HB.out.kb.size
       replace HB:=aa.mk (HB.out.below (ae (Below.refl _ _) (.cells #[.int .i64 0,.int .i64 0,.slice none 0 0] 167)))
       generalize hg9:wp.heap.size=g9 at DN PU Ba ⊢
       clear hg9
       generalize wp.alloc (.cells #[.int .i64 0,.int .i64 0,.slice none 0 0] 167)=wa at DN HB hHeld ⊢
       refine j4 ?_
       refine gB (i:=9) (N:=some 54) #[I,I,I,I,I,I,I,I,I,I,I,O] rfl rfl (aM au.out (by kernel_rfl)) (by decide) (λK hK=>?_)
       refine bT Tryz.func60 (by kernel_rfl) rfl #[.pointer (some ⟨gk,0,none⟩),.agg #[.int .i64 ((k:Int)+1),.int .i64 (s' 0),.int .i64 (s' 1),.int .i64 (s' 2),.int .i64 (s' 3)]] (by rfl) rfl rfl (by(try simp only[List.map_toArray,List.map_cons,List.map_nil]);rfl) ?_
       refine(Xv.out _ HB.out).mono ?_
       rintro e_ w_ ⟨A9,n9,c9,rfl,YP,lZ,YV⟩
       refine⟨_,rfl,hK.out _ _ (⟨(by simpa using (lZ.fr).b2.cell 0),(by simpa using (lZ.fr).b3.cell 0),(by simpa using (lZ.fr).b3.cell 1),(by simpa using (lZ.fr).b3.cell 2),(by simpa using (lZ.fr).b3.cell 3),(by simpa using (lZ.fr).b3.cell 4)⟩) (λhHeld=>?_)⟩
       clear hK K
       replace HB:=aa.mk lZ
       replace DN:=aa.mk (DN.out.move (YV.block _ DN.out.lt (by omega)))
       clear lZ YP
       refine j4 ?_
       have hfin:=hcont (g9,A9,n9,c9) _ ⟨HB.out,DN.out,PU,Ba⟩
       refine aW ?_ hfin
       simp only[aK,Act.put,sb0,sb1,bR]
     .refine bD (w1:=?_) (v:=?_) (by rfl) rfl ?_ ?_
      rotate_left 2
      .go_simp
       constructor<;>rfl
      have e_:=(HB.out.below (ae (Below.refl _ _) (.cells #[.int .i64 0,.int .i64 0,.slice none 0 0] 167))).fr
      refine hK.out _ _ ⟨(by simpa using e_.b2.cell 0),(by simpa using e_.b3.cell 0),(by simpa using e_.b3.cell 1),(by simpa using e_.b3.cell 2),(by simpa using e_.b3.cell 3),(by simpa using e_.b3.cell 4)⟩ (λhHeld=>?_)
      clear hK K
      have DN:=aa.mk (aV.new wd [.int .i64 0,.int .i64 0,.slice none 0 0] 167)
      have PU:B<=wd.heap.size:=HB.out.sz
      have Ba:W.heap.size<=wd.heap.size:=HB.out.kb.size
      replace HB:=aa.mk (HB.out.below (ae (Below.refl _ _) (.cells #[.int .i64 0,.int .i64 0,.slice none 0 0] 167)))
      generalize hg9:wd.heap.size=g9 at DN PU Ba ⊢
      clear hg9
      generalize wd.alloc (.cells #[.int .i64 0,.int .i64 0,.slice none 0 0] 167)=wa at DN HB hHeld ⊢
      refine j4 ?_
      refine gB (i:=7) (N:=some 52) #[I,I,I,I,I,I,I,I,O,O,I,O] rfl rfl (aM au.out (by kernel_rfl)) (by decide) (λK hK=>?_)
      refine bT Tryz.func62 (by kernel_rfl) rfl #[.agg #[.int .i64 (s 0),.int .i64 (s 1),.int .i64 (s 2),.int .i64 (s 3)],.slice xA xl.length xc] (by rfl) rfl rfl (by(try simp only[List.map_toArray,List.map_cons,List.map_nil]);rfl) ?_
      refine(HPL.out _ (qG HB.out.rx)).mono ?_
      rintro e_ w_ ⟨rfl,hbx⟩
      have e_:=(HB.out.below hbx).fr
      refine⟨_,rfl,hK.out _ _ (⟨(by simpa using e_.b2.cell 0),(by simpa using e_.b3.cell 0),(by simpa using e_.b3.cell 1),(by simpa using e_.b3.cell 2),(by simpa using e_.b3.cell 3),(by simpa using e_.b3.cell 4)⟩) (λhHeld=>?_)⟩
      clear hK K
      replace HB:=aa.mk (HB.out.below hbx)
      refine j4 ?_
      replace DN:=aa.mk (DN.out.below hbx)
      clear hbx
      generalize w_=wp at HB hHeld DN ⊢
      refine bq 8 53 #[I,I,I,I,I,I,I,I,I,O,I,O] au (h:=?_)
      refine gB (i:=9) (N:=some 54) #[I,I,I,I,I,I,I,I,I,I,I,O] rfl rfl (aM au.out (by kernel_rfl)) (by decide) (λK hK=>?_)
      refine bT Tryz.func60 (by kernel_rfl) rfl #[.pointer (some ⟨gk,0,none⟩),.agg #[.int .i64 ((k:Int)+1),.int .i64 (s' 0),.int .i64 (s' 1),.int .i64 (s' 2),.int .i64 (s' 3)]] (by rfl) rfl rfl (by(try simp only[List.map_toArray,List.map_cons,List.map_nil]);rfl) ?_
      refine(Xv.out _ HB.out).mono ?_
      rintro e_ w_ ⟨A9,n9,c9,rfl,YP,lZ,YV⟩
      refine⟨_,rfl,hK.out _ _ (⟨(by simpa using (lZ.fr).b2.cell 0),(by simpa using (lZ.fr).b3.cell 0),(by simpa using (lZ.fr).b3.cell 1),(by simpa using (lZ.fr).b3.cell 2),(by simpa using (lZ.fr).b3.cell 3),(by simpa using (lZ.fr).b3.cell 4)⟩) (λhHeld=>?_)⟩
      clear hK K
      replace HB:=aa.mk lZ
      replace DN:=aa.mk (DN.out.move (YV.block _ DN.out.lt (by omega)))
      clear lZ YP
      refine j4 ?_
      have hfin:=hcont (g9,A9,n9,c9) _ ⟨HB.out,DN.out,PU,Ba⟩
      refine aW ?_ hfin
      simp only[aK,Act.put,sb0,sb1,bR]
    case cont=>
     rintro⟨x9,A9,n9,c9⟩ we ⟨hB_,Vo,PU,Ba⟩
     replace HB:=aa.mk hB_
     have B9:=aa.mk Vo
     clear hB_ Vo hHeld
     simp only at B9 PU Ba
     refine aW (by simp only[aK,Act.put,sb0,sb1,bR];rfl) ?_
     refine fB (i:=11) (N:=none) #[I,I,I,I,I,I,I,I,I,I,I,I] rfl rfl (aM au.out (by kernel_rfl)) (by decide) (λK hK=>?_)
     have iD:=(show we.cell? ⟨x9,0,none⟩=some (.int .i64 0) by simpa using B9.out.cell 0)
     have lG:=B9.out.frozen 0
     have NL:we.cell? ⟨x9,1,none⟩=some (.int .i64 0):=by simpa using B9.out.cell 1
     have NY:=B9.out.frozen 1
     have EN:we.cell? ⟨x9,2,none⟩=some (.slice none 0 0):=by simpa using B9.out.cell 2
     have ES:=B9.out.frozen 2
     refine kg (w1:=?_) (by rfl) rfl ?_ ?_
     rotate_left
     .go_simp
      rfl
     refine hK.out _ _ ?_
     clear hK K iD lG NL NY EN ES
     replace HB:=aa.mk (HB.out.Uu B9.out hs0 hB9 PU h7B Ba (.int .i64 Eo) (.int .i64 CG) (.slice A9 n9 c9))
     replace B9:=aa.mk (B9.out.J4 (.int .i64 Eo) (.int .i64 CG) (.slice A9 n9 c9))
     generalize((we.setCell ⟨x9,0,none⟩ (.int .i64 Eo)).setCell ⟨x9,1,none⟩ (.int .i64 CG)).setCell ⟨x9,2,none⟩ (.slice A9 n9 c9)=wf at B9 HB ⊢
     refine fM (bP au.out (by kernel_rfl)) ?_
     have h90:=B9.out.cell 0
     have h91:=B9.out.cell 1
     simp only[dZ,dY] at h90 h91
     by_cases p0:Eo=0
     .have Sy:(Eo==0)=true:=by simpa using p0
      have HE:=aa.mk (R6.out wf (tK,zU,Fz) (by rw[LW.out,if_pos p0]) HB.out.same)
      clear p0
      gi_wp2_with fail
      exact HE.out
     have Sy:(Eo==0)=false:=by simpa using p0
     have HP0:=aa.mk p0
     clear p0
     gi_wp2_with fail
     clear h90 h91
     obtain⟨cst,Rl⟩:∃c,tV cells xl=c:=⟨_,rfl⟩
     have aaM:=aa.mk (λ(W1:World) (hl:(Kd.int .i64).C W1 xA xl.length xl) (hb:Below w0.heap.size w0 W1) (hg:W1.cell? ⟨gk,1,none⟩=some (.slice Ar rows.length cr))=>(by
      have:=Hq (cl:=xc) rows k xl W1 hl (Kd.aC HT.out.kr hb) hg hkl (by omega) (by rw[HCE.out];exact HLX.out.len) (by omega) (λc hc=>by have:=HLX.out.b c hc;omega) (λc hc=>by
       have:=HT.out.x _ (mZ hkl) _ (BZ (show c<(rows.getD k []).length by rw[HCE.out,<- HLX.out.len];exact hc))
       omega) (λc hc=>by rw[HCE.out];exact HLX.out.a c hc)
      rw[HCE.out,Rl] at this
      exact this:Calls Tryz.prog 142 #[.pointer (some ⟨gk,0,none⟩),.int .i64 (k:Int),.slice xA xl.length xc] W1 λe w'=>e= .returned (.int .i64 cst)/\Below W1.heap.size W1 w'))
     rw[Rl] at hcb
     have aeV:=hcb.1
     have aeU:=hcb.2
     have hacc:=LW.out
     rw[Rl] at hacc
     replace LW:=aa.mk hacc
     have ael:0<=CG:=by omega
     have aek:CG<=400*4:=by omega
     clear Rl hacc hcb
     have HCB:=aa.mk (⟨ael,aek,aeV,aeU⟩:0<=CG/\CG<=400*4/\0<=cst/\cst<=400)
     refine mE (by rintro⟨_,_,h⟩;exact h) (by kernel_rfl) (n:=9) (S:=λw'=>w'.cell? ⟨x9,1,none⟩=some (.int .i64 CG)/\w'.cell? ⟨w.heap.size,0,none⟩=some (.pointer (some ⟨gk,0,none⟩))/\w'.cell? ⟨w.heap.size+1,0,none⟩=some (.int .i64 (k:Int))) (ds:=[]) #[O,O,O,O,O,O,O,O,O] (by kernel_rfl) rfl rfl ⟨(by simpa using B9.out.cell 1),(by simpa using HB.out.fr.b2.cell 0),(by simpa using HB.out.fr.b3.cell 0)⟩ (λhHeld=>?_);refine bG rG.XQ rG.Wl (λau cz=>?_)
     replace HB:=aa.mk (HB.out.below (aN (Below.refl _ _)))
     replace B9:=aa.mk (B9.out.move rfl:aV wf.drew _ _ _)
     generalize wf.drew=wg at HB B9 hHeld ⊢
     refine bq 0 58 #[I,O,O,O,O,O,O,O,O] au (h:=?_)
     refine fJ 1 59 #[I,I,O,O,O,O,O,O,O] au cz hHeld (hy:=by(rintro w' ⟨s0,s1,s2⟩;go_simp;with_reducible rfl)) (h:=?_)
     refine fJ 2 60 #[I,I,I,O,O,O,O,O,O] au cz hHeld (hy:=by(rintro w' ⟨s0,s1,s2⟩;go_simp;with_reducible rfl)) (h:=?_)
     refine bq 3 61 #[I,I,I,I,O,O,O,O,O] au (h:=?_)
     refine fJ 4 62 #[I,I,I,I,I,O,O,O,O] au cz hHeld (hy:=by(rintro w' ⟨s0,s1,s2⟩;go_simp;with_reducible rfl)) (h:=?_)
     refine bq 5 63 #[I,I,I,I,I,I,O,O,O] au (h:=?_)
     refine gB (i:=6) (N:=some 64) #[I,I,I,I,I,I,I,O,O] rfl rfl (aM au.out (by kernel_rfl)) (by decide) (λK hK=>?_)
     refine bT Tryz.func142 (by kernel_rfl) rfl #[.pointer (some ⟨gk,0,none⟩),.int .i64 (k:Int),.slice xA xl.length xc] (by rfl) rfl rfl (by(try simp only[List.map_toArray,List.map_cons,List.map_nil]);rfl) ?_
     refine(aaM.out _ (qG HB.out.rx) HB.out.fr.wk.b (by simpa using HB.out.fr.wk.k.cell 1)).mono ?_
     rintro e_ w_ ⟨rfl,hbx⟩
     refine⟨_,rfl,hK.out _ _ ⟨(by simpa using (B9.out.below hbx).cell 1),(by simpa using (HB.out.below hbx).fr.b2.cell 0),(by simpa using (HB.out.below hbx).fr.b3.cell 0)⟩ (λhHeld=>?_)⟩
     clear hK K
     replace HB:=aa.mk (HB.out.below hbx)
     replace B9:=aa.mk (B9.out.below hbx)
     clear hbx hHeld aaM
     generalize w_=wf at HB B9 ⊢
     have hwk:IntKind.i64.wrap (CG+cst)=CG+cst:=by have:=HCB.out;rw[cB];unfold wrap64;omega
     refine j4 ?_
     refine bq 7 65 #[I,I,I,I,I,I,I,I,O] au (h:=?_)
     refine bq 8 10 #[I,I,I,I,I,I,I,I,I] au (h:=?_)
     refine fM (bP au.out (by kernel_rfl)) ?_
     clear hwk
     have Am:=HB.out.b7.cell 0
     have KV:=HB.out.b7.cell 1
     have h72:=HB.out.b7.cell 2
     have f70:=HB.out.b7.frozen 0
     have f71:=HB.out.b7.frozen 1
     have f72:=HB.out.b7.frozen 2
     have h90:=B9.out.cell 0
     simp only[dZ,dY] at Am KV h72 h90
     have hnx1:Eo<=65536:=by have:=agu.out;omega
     have hww:wrap64 (tK+Eo)=tK+Eo:=by unfold wrap64;omega
     by_cases p1:tK=0
     .have XV:(tK==0)=true:=by simpa using p1
      have HE:=aa.mk (R6.out _ _ (by rw[LW.out,if_neg HP0.out,if_pos (.inl p1)]) (HB.out.OS hs0 (by omega) (tK+Eo) (CG+cst)))
      clear p1
      gi_wp2_with fail
      exact HE.out
     have XV:(tK==0)=false:=by simpa using p1
     by_cases p2:CG+cst<zU
     .have p2b:decide (CG+cst<zU)=true:=by simpa using p2
      have HE:=aa.mk (R6.out _ _ (by rw[LW.out,if_neg HP0.out,if_pos (.inr p2)]) (HB.out.OS hs0 (by omega) (tK+Eo) (CG+cst)))
      clear p1 p2
      gi_wp2_with fail
      exact HE.out
     .have p2b:decide (CG+cst<zU)=false:=by simpa using p2
      have HE:=aa.mk (R6.out _ _ (by rw[LW.out,if_neg HP0.out,if_neg (λh=>h.elim p1 p2)]) (HB.out.ways hs0 (by omega) (tK+Eo)))
      clear p1 p2
      gi_wp2_with fail
      exact HE.out
   case done=>
    rintro D xs W hD hxs ⟨i1,i2,i3⟩ yh
    obtain⟨v7,j1,j2⟩:=i1
    have hacc:zT base rows fx left cells s xs=fT base rows fx (left+1) s:=by
     rw[HRK.out]
     unfold zT
     rw[hxs]
    rw[hacc] at j1 j2
    obtain⟨A7,c7,rfl⟩:=Kd.di j2
    have YY:=i2.wk.ok
    have hup:=i2.wk.m
    obtain⟨o,ho,YS⟩:=(hup.below (aN (Below.refl _ _))).update (λb hb=>(YY b hb).1) (k:=k) (s:=s) (by omega) HSO.out (v:= .slice A7 (fT base rows fx (left+1) s).2.2.length c7) (by rw[hleft];exact Kd.bM (Kd.dm j2 (aN (Below.refl _ _))) (λb h=> .inr h))
    rw[hleft] at ho
    unfold kT fU at ho
    obtain⟨⟨r1,r2,r3⟩,hr⟩:∃r,fT base rows fx (left+1) s=r:=⟨_,rfl⟩
    have HRR:=aa.mk hr
    rw[hr] at ho j1 j2
    simp only at ho j1 j2
    obtain⟨n7,Yu⟩:∃n,r3.length=n:=⟨_,rfl⟩
    rw[Yu] at ho j1 j2
    have TN:=aa.mk yh
    have HDE:=aa.mk hD
    have HMO:=aa.mk YS
    have qO:=aa.mk i2
    have J1:=aa.mk j1
    have J2:=aa.mk j2
    clear yh hD YS i2 i3 j1 j2 hacc hr Yu hup YY hxs
    have h20:=qO.out.b2.cell 0
    have tJ:=qO.out.b3.cell 0
    have h31:=qO.out.b3.cell 1
    have h32:=qO.out.b3.cell 2
    have h33:=qO.out.b3.cell 3
    have h34:=qO.out.b3.cell 4
    have hk3:=qO.out.wk.k.cell 3
    have Am:=J1.out.cell 0
    have KV:=J1.out.cell 1
    have h72:=J1.out.cell 2
    simp only[dZ,dY] at h20 tJ h31 h32 h33 h34 hk3 Am KV h72
    dsimp only
    go_wp2_with (with_reducible refine wpIn_wide.2 ?_)
    go_region
    clear h20 tJ h31 h32 h33 h34 hk3 Am KV h72 ho
    have hne:=qO.out.wk.ne
    have hsz:=qO.out.wk.m.lt
    have j1:=J1.out.move (w':=W.drew.putObj mb o) (cO _ _ (by omega))
    have j2:(Kd.int .i64).R 3 (W.drew.putObj mb o) 0 (λb=>B<=b) (.slice A7 n7 c7) r3:=Kd.gz J2.out (λb hb _=>cO _ _ (by omega))
    have b4:=qO.out.b4.move (w':=W.drew.putObj mb o) (cO _ _ (by omega))
    have kp:=(qO.out.kp.drew).put (l:=mb) (.inl rfl) o
    have wk:eX w0 gk mb base rows fx Ar cr Af cf (λb=>Ok b\/B<=b) (W.drew.putObj mb o):=⟨qO.out.wk.k.move (cO _ _ hne),(aN qO.out.wk.b).grown (grownBy_putObj' W.drew mb o) qO.out.wk.b.size (λk e=>by cases e;exact aeu),HMO.out,qO.out.wk.PT,hne,qO.out.wk.ok⟩
    have Xg:(W.drew.putObj mb o).heap[D]?=some (.deferred (some [])):=(cO W.drew o (by have:=HDE.out;omega)).trans TN.out
    clear J1 J2 qO HMO TN
    have J1:=aa.mk j1
    have J2:=aa.mk j2
    have B4:=aa.mk b4
    have KP:=aa.mk kp
    have WK:=aa.mk wk
    have TN:=aa.mk Xg
    clear j1 j2 b4 kp wk Xg
    generalize W.drew.putObj mb o=wu at J1 J2 B4 KP WK TN ⊢
    have Am:=J1.out.cell 0
    have KV:=J1.out.cell 1
    have h72:=J1.out.cell 2
    have xm:=B4.out.cell 0
    have xk:=B4.out.cell 1
    have Xh:=B4.out.cell 2
    have f40:=B4.out.frozen 0
    have f41:=B4.out.frozen 1
    have f42:=B4.out.frozen 2
    simp only[dZ,dY] at Am KV h72 xm xk Xh
    go_wp2_with (with_reducible refine wpIn_wide.2 ?_)
    have hDl:=HDE.out
    refine oD (Bq:=λb=>Ok b\/B<=b) (g4:=w.heap.size+2) (v:= .slice A7 n7 c7) (ds:=[{target:= .collected D,args:=#[]}]) ⟨⟨D,rfl,by omega,?_,λd' hd'=>by cases hd'⟩,trivial⟩ (by rfl) (by rw[HRR.out];exact B4.out.J4 _ _ _) ?_ ?_ ?_ (λb h=>h.imp id (λh=>by omega)) LU.out hs0
    .exact((Below.heap_setCell _ _ _ _ (by simp only;omega)).trans ((Below.heap_setCell _ _ _ _ (by simp only;omega)).trans (Below.heap_setCell _ _ _ _ (by simp only;omega)))).trans TN.out
    .rw[HRR.out]
     exact Kd.bM (jY (jY (jY J2.out B4.out 0 _) (B4.out.setAt 0 _) 1 _) ((B4.out.setAt 0 _).setAt 1 _) 2 _) (λb h=> .inr h)
    .exact((WK.out.typed B4.out (by omega) 0 _).typed (B4.out.setAt 0 _) (by omega) 1 _).typed ((B4.out.setAt 0 _).setAt 1 _) (by omega) 2 _
    .exact((KP.out.setCell (p:=⟨w.heap.size+2,0,none⟩) (.inr (by simp only;omega)) _).setCell (p:=⟨w.heap.size+2,1,none⟩) (.inr (by simp only;omega)) _).setCell (p:=⟨w.heap.size+2,2,none⟩) (.inr (by simp only;omega)) _
end Go.Proofs.YtdekaocdmjndaaaGreat
