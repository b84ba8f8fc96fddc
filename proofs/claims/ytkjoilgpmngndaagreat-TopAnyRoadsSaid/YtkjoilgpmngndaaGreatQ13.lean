import Derived.Laws.Cover3
import Derived.Test.YtkjoilgpmngndaaGreatQ12
set_option maxRecDepth 100000
set_option linter.all false
namespace Go.Proofs.YtkjoilgpmngndaaGreat.Wk
open Go.RowKit Go.Shelf au YtkjoilgpmngndaaGreatW.aj YtkjoilgpmngndaaGreatW.aJ
theorem NM:∀n:Fin 9,wrap64 (wrap64 (2^n.1)-1)=((2^n.1-1:Nat):Int):=by decide +kernel
theorem tN{A0:Option Addr}{c0:Nat}{A1:Option Addr}{c1 n1 N:Nat}(hN:N<=8)(w:World):
  Calls Tryz.prog 78 #[.agg #[.slice A0 N c0,.slice A1 n1 c1]] w λe w'=>e= .returned (.int .i64 ((2^N-1:Nat):Int))/\Below w.heap.size w w':=by
 have hw:=NM ⟨N,by omega⟩
 simp only at hw
 go_enter Tryz.func78,Tryz.ntmps78
 go_wp2_with fail
 go_ret
 exact⟨fC hw,ae (Below.refl _ _) _⟩
theorem EK(a:Option Addr)(l c:Nat)(w:World):(binOp .eql 166 (.slice a l c) (.slice none 0 0)).run Tryz.prog w= .ok (.bool a.isNone) w:=by
 simp only[binOp]
 simp[run_equal_slice_nil w 166 160 a l c Tryz.underlying166]
theorem Jm(a:Option Addr)(l c:Nat)(w:World):(binOp .neq 166 (.slice a l c) (.slice none 0 0)).run Tryz.prog w= .ok (.bool (!a.isNone)) w:=run_neq_slice_nil w 166 160 a l c Tryz.underlying166
attribute [local go_sem] EK Jm
theorem xB:(Tryz.prog.info? 160).map (λi=>(i.zero,i.size,i.bytes))=some (some (.int .i64 0),1,8):=by kernel_rfl
set_option maxHeartbeats 4000000 in
theorem Il{ad:Addr}{c:Nat}{xs:List Int}(w:World)(hC:(Kd.int .i64).C w (some ad) xs.length xs)(hx:xs.length<=1000):
  Calls Tryz.prog 112 #[.slice (some ad) xs.length c] w λe w'=>∃v,e= .returned v/\(Kd.int .i64).R 160 w' w.heap.size (λ_=>True) v xs/\Below w.heap.size w w':=by
 have HC:=aa.mk hC
 clear hC
 go_enter Tryz.func112,Tryz.ntmps112
 go_wp2_with (first|((with_reducible refine cZ (N:=5) rfl ?_);refine Kd.IB (Kd.int .i64) w.heap.size 160 ?hg (N:=5) ?hd (xs:=([]:List Int)) (inner:=[]) (ok:=λ_=>True) (okp:=λ_=>True) ?hr ?hp (λ_ hk=>hk) trivial (Below.refl _ _) (Nat.le_refl _) (by simp) ?_;(case hd=>rfl);(case hg=>rfl);(case hr=>first|(go_simp;done)|(go_simp;rfl));(case hp=>exact(eG.none _ _));intro v1 w1 hr1 hb1 hg1 vk;have PK:=aa.mk (Kd.av HC.out hb1);have hsz1:=hb1.size;have HR1:=aa.mk hr1;have HB1:=aa.mk hb1;clear hr1 hb1 hg1 vk)|((with_reducible refine cz (b:= .append) (xs:=#[.tmp 5,.tmp 6]) rfl ?_);refine Kd.lu (Kd.int .i64) (w0:=w) w.heap.size rfl (.tmp 5) (.tmp 6) 166 160 (.int .i64 0) 8 rfl Tryz.underlying166 xB rfl (by decide) (by omega) v1 [] xs _ _ _ (λ_=>True) (λ_=>False) rfl rfl HR1.out PK.out (λx cs h=>h) (λ_ hk=>hk.elim) (λ_ _=>trivial) HB1.out hsz1 ?aL ?_;(case aL=>(simp only[List.length_nil];omega));intro vn wn hon hbn hgn fP;have Ey:=aa.mk hon;have qK:=aa.mk hbn;clear hon hbn hgn fP))
 go_ret
 exact⟨_,rfl,Ey.out,qK.out⟩
set_option maxHeartbeats 4000000 in
theorem Pf(w:World):
  Calls Tryz.prog 112 #[.slice none 0 0] w λe w'=>e= .returned (.slice none 0 0)/\Below w.heap.size w w':=by
 go_enter Tryz.func112,Tryz.ntmps112
 go_wp2_with fail
 go_ret
 exact⟨rfl,Below.refl _ _⟩
end Go.Proofs.YtkjoilgpmngndaaGreat.Wk
namespace Go.Proofs.YtkjoilgpmngndaaGreat.Wk
open Go.RowKit Go.Shelf au YtkjoilgpmngndaaGreatW.aj YtkjoilgpmngndaaGreatW.aJ
def PO(w:World)(no:Nat->Prop)(v:Value):Option Nat->Prop
 |none=>v= .slice none 0 0
 |some k=>∃ad c xs,v= .slice (some ad) k c/\xs.length=k/\(Kd.int .i64).C w (some ad) k xs/\¬no ad.block/\ad.block<w.heap.size
theorem EY{n:Nat}{S:Nat->Prop}{w w':World}(k:bq n S w w')(hn:w.heap.size<=n):Kept w w' S:=⟨k.size,λi hi hs=>k.block i (by omega) hs⟩
theorem PO.keep{w w':World}{no:Nat->Prop}{v:Value}{o:Option Nat}(h:PO w no v o){n:Nat}(k:bq n no w w')(hn:w.heap.size<=n):PO w' no v o:=by
 cases o with
 |none=>exact h
 |some m=>
  obtain⟨ad,c,xs,h1,h2,h3,h4,h5⟩:=h
  exact⟨ad,c,xs,h1,h2,Kd.LH (S:=no) (λh=>h) h3 (λad' e _=>by cases e;exact h4) w' (EY k hn),h4,Nat.lt_of_lt_of_le h5 k.size⟩
theorem PO.ofR{w:World}{base e:Nat}{ok no:Nat->Prop}{v:Value}{xs:List Int}(h:(Kd.int .i64).R e w base ok v xs)(hx:0<xs.length)(hok:∀k,ok k->¬no k):PO w no v (some xs.length):=by
 obtain⟨ad,c,rfl⟩:=Kd.mG h hx
 obtain⟨g,rfl⟩:=Kd.FV h
 obtain⟨_,hc,hC⟩:=Kd.dL h
 have hb:=(Kd.bE h).1 g (by simp[Value.ownBlock])
 exact⟨_,c,xs,rfl,rfl,hC,hok g hb.1,hb.2.2.1⟩
def Wr(mb gt:Nat):Nat->Prop:=λb=>b=mb\/b=gt
def Cx(w:World)(mb gt N:Nat)(E:Nat->Option Nat):Prop:=∃cs:Array Value,w.heap[gt]?=some (.cells cs 166 (0,0))/\cs.size=2^N/\∀t,t<2^N->∃v,cs[t]?=some v/\PO w (Wr mb gt) v (E t)
theorem Cx.lt{w:World}{mb gt N:Nat}{E:Nat->Option Nat}(h:Cx w mb gt N E):gt<w.heap.size:=by
 obtain⟨cs,h0,_⟩:=h
 exact iC h0
theorem Cx.cell{w:World}{mb gt N:Nat}{E:Nat->Option Nat}(h:Cx w mb gt N E){t:Nat}(ht:t<2^N):∃v,w.cell? ⟨gt,t,none⟩=some v/\PO w (Wr mb gt) v (E t):=by
 obtain⟨cs,h0,h1,h2⟩:=h
 obtain⟨v,h3,h4⟩:=h2 t ht
 exact⟨v,by rw[aA h0];exact h3,h4⟩
theorem Cx.frozen{w:World}{mb gt N:Nat}{E:Nat->Option Nat}(h:Cx w mb gt N E)(o:Nat):w.frozen? ⟨gt,o,none⟩=false:=by
 obtain⟨cs,h0,_⟩:=h
 exact aD h0 o
theorem Cx.keep{w w':World}{mb gt N:Nat}{E:Nat->Option Nat}(h:Cx w mb gt N E){n:Nat}{S:Nat->Prop}(k:bq n S w w')(hn:w.heap.size<=n)(hS:∀b,S b->b=mb)(hne:gt≠mb):Cx w' mb gt N E:=by
 obtain⟨cs,h0,h1,h2⟩:=h
 have hlt:=iC h0
 have k':bq n (Wr mb gt) w w':=k.mono (Nat.le_refl _) (λb _ hb=> .inl (hS b hb))
 exact⟨cs,(k.block gt (by omega) (λhs=>hne (hS _ hs))).trans h0,h1,λt ht=>by
  obtain⟨v,h3,h4⟩:=h2 t ht
  exact⟨v,h3,h4.keep k' hn⟩⟩
theorem Cx.drew{w:World}{mb gt N:Nat}{E:Nat->Option Nat}(h:Cx w mb gt N E)(hne:gt≠mb):Cx w.drew mb gt N E:=h.keep (n:=w.heap.size) (S:=λb=>b=mb) (bq.refl _ _ w).drew (Nat.le_refl _) (λ_ h=>h) hne
theorem Cx.drewN{w:World}{mb gt N:Nat}{E:Nat->Option Nat}(h:Cx w mb gt N E)(hne:gt≠mb)(n:Nat):Cx (w.drewN n) mb gt N E:=h.keep (n:=w.heap.size) (S:=λb=>b=mb) ((bq.refl _ _ w).drewN n) (Nat.le_refl _) (λ_ h=>h) hne
theorem Cx.set{w:World}{mb gt N:Nat}{E:Nat->Option Nat}(h:Cx w mb gt N E){s:Nat}(hs:s<2^N){v:Value}{o:Option Nat}(he:PO w (Wr mb gt) v o):Cx (w.setCell ⟨gt,s,none⟩ v) mb gt N (upd E s o):=by
 obtain⟨cs,h0,h1,h2⟩:=h
 have k:bq w.heap.size (Wr mb gt) w (w.setCell ⟨gt,s,none⟩ v):=(bq.refl _ _ w).setCell (.inl (.inr rfl)) v
 refine⟨cs.setIfInBounds s v,df h0 _ _,by simp[h1],λt ht=>?_⟩
 unfold upd
 by_cases e:t=s
 .subst e
  refine⟨v,by rw[Array.getElem?_setIfInBounds_self_of_lt (by omega)],?_⟩
  rw[if_pos rfl]
  exact he.keep k (Nat.le_refl _)
 .obtain⟨u,h3,h4⟩:=h2 t ht
  refine⟨u,by rw[Array.getElem?_setIfInBounds_ne (λx=>e x.symm)];exact h3,?_⟩
  rw[if_neg e]
  exact h4.keep k (Nat.le_refl _)
structure DC(w0 w:World)(A0:Option Addr)(c0:Nat)(Wk:List dP)(A1:Option Addr)(c1:Nat)(R:List aV)(ga mb:Nat)(T F:Nat->Nat->Int)(gt b1 b2 b3 b4:Nat)(limit:Int):Prop where
 eZ:lD w0 w A0 c0 Wk A1 c1 R ga mb T F
 c1:aR w b1 [.slice (some ⟨gt,0,none⟩) (2^Wk.length) (2^Wk.length)] 208
 c2:aR w b2 [.pointer (some ⟨ga,0,none⟩)] 151
 c3:aR w b3 [.int .i64 limit] 3
 c4:aR w b4 [.func (.func 111) #[] #[.pointer (some ⟨b1,0,none⟩),.pointer (some ⟨b2,0,none⟩),.pointer (some ⟨b3,0,none⟩),.pointer (some ⟨b4,0,none⟩)]] 209
 lo:w0.heap.size<=gt
 nt:gt≠mb/\gt≠ga
 n1:b1≠mb/\b1≠gt
 n2:b2≠mb/\b2≠gt
 n3:b3≠mb/\b3≠gt
 n4:b4≠mb/\b4≠gt
section
variable {w0 w w':World} {A0:Option Addr} {c0:Nat} {Wk:List dP} {A1:Option Addr} {c1:Nat} {R:List aV} {ga mb:Nat} {T F:Nat->Nat->Int} {gt b1 b2 b3 b4:Nat} {limit:Int}
theorem DC.keep(h:DC w0 w A0 c0 Wk A1 c1 R ga mb T F gt b1 b2 b3 b4 limit){n:Nat}(hn:w.heap.size<=n)(k:bq n (Wr mb gt) w w')(ha:pM w' ga (.slice A0 Wk.length c0) (.slice A1 R.length c1) T F mb):DC w0 w' A0 c0 Wk A1 c1 R ga mb T F gt b1 b2 b3 b4 limit:=by
 have hm:∀{g:Nat} {cs:List Value} {t:TypeId},aR w g cs t->g≠mb/\g≠gt->aR w' g cs t:=λ{g cs t} hb hne=>hb.move (k.block g (by have:=hb.lt;omega) (λhs=>by rcases hs with e|e;exact hne.1 e;exact hne.2 e))
 have h1:=h.eZ.lo;have h2:=h.lo;have h3:=h.eZ.gt
 exact⟨⟨h.eZ.map,h.eZ.below.trans ⟨k.os,k.tape,k.output,k.size,λi hi=>k.block i (by omega) (λhs=>by rcases hs with e|e<;>omega)⟩,h1,ha⟩,hm h.c1 h.n1,hm h.c2 h.n2,hm h.c3 h.n3,hm h.c4 h.n4,h2,h.nt,h.n1,h.n2,h.n3,h.n4⟩
theorem DC.drew(h:DC w0 w A0 c0 Wk A1 c1 R ga mb T F gt b1 b2 b3 b4 limit):DC w0 w.drew A0 c0 Wk A1 c1 R ga mb T F gt b1 b2 b3 b4 limit:=⟨h.eZ.drew,h.c1,h.c2,h.c3,h.c4,h.lo,h.nt,h.n1,h.n2,h.n3,h.n4⟩
theorem DC.drewN(h:DC w0 w A0 c0 Wk A1 c1 R ga mb T F gt b1 b2 b3 b4 limit)(n:Nat):DC w0 (w.drewN n) A0 c0 Wk A1 c1 R ga mb T F gt b1 b2 b3 b4 limit:=⟨h.eZ.drewN n,h.c1,h.c2,h.c3,h.c4,h.lo,h.nt,h.n1,h.n2,h.n3,h.n4⟩
theorem DC.cells(h:DC w0 w A0 c0 Wk A1 c1 R ga mb T F gt b1 b2 b3 b4 limit):w.cell? ⟨b1,0,none⟩=some (.slice (some ⟨gt,0,none⟩) (2^Wk.length) (2^Wk.length))/\w.cell? ⟨b2,0,none⟩=some (.pointer (some ⟨ga,0,none⟩))/\w.cell? ⟨b3,0,none⟩=some (.int .i64 limit)/\w.cell? ⟨b4,0,none⟩=some (.func (.func 111) #[] #[.pointer (some ⟨b1,0,none⟩),.pointer (some ⟨b2,0,none⟩),.pointer (some ⟨b3,0,none⟩),.pointer (some ⟨b4,0,none⟩)]):=by
 refine⟨?_,?_,?_,?_⟩
 .simpa using h.c1.cell 0
 .simpa using h.c2.cell 0
 .simpa using h.c3.cell 0
 .simpa using h.c4.cell 0
end
end Go.Proofs.YtkjoilgpmngndaaGreat.Wk
