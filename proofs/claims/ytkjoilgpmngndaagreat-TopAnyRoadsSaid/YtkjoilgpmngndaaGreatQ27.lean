import Derived.Test.YtkjoilgpmngndaaGreatQ24
set_option linter.all false
namespace Go.Proofs.YtkjoilgpmngndaaGreat
open Go.RowKit Go.Shelf au YtkjoilgpmngndaaGreatW.aj YtkjoilgpmngndaaGreatW.aJ YtkjoilgpmngndaaGreatW.ek
attribute [local go_sem] Oper.semAt_some
def ca.T9:Bool×List (List Nat×List Nat):=(true,[([],[]),([],[]),([1],[1]),([2],[2]),([0,3],[0,3]),([],[]),([],[]),([6],[6]),([5,7,4],[5,7]),([4,8,0,1,2,3,4],[4]),([8,9,0,1,2,3,4,5,6,7,8,9],[8])])
def ca.B9:List Nat:=[0,0,2,6,15,0,0,64,255,511,1023]
theorem ca.Dk:dW .any (opsOf Tryz.f80 9)=ca.T9:=by kernel_rfl
theorem ca.vO:bJ ca.T9.2 ca.B9=true:=by kernel_rfl
theorem Two.grown{base:Nat}{w w':World}{v1 v2:Value}{l1 l2:List Int}(h:Two base w v1 v2 l1 l2){row:Option Nat}(hg:w.grownBy w' row)(hr:∀r,row=some r->∃o,w.heap[r]?=some o/\o.isCells=false):Two base w' v1 v2 l1 l2:=by
 have key:∀{v:Value} {l:List Int},(Kd.int .i64).R 3 w base (λ_=>True) v l->(Kd.int .i64).R 3 w' base (λ_=>True) v l:=λh1=>
  Kd.bB (Kd.yn (Kd.bE h1) hg (λk hk e=>by
   obtain⟨o,ho,hc⟩:=hr k e.symm
   obtain⟨_,_,_,q,_,cells,hk'⟩:=hk
   rw[hk'] at ho
   cases ho
   cases hc)) (λ_ _=>trivial)
 exact⟨key h.r1,key h.r2,h.ne⟩
theorem Two.step{base:Nat}{w w':World}{v1 v2:Value}{l1 l2:List Int}(h:Two base w v1 v2 l1 l2)(hm:∀k,base<=k->k<w.heap.size->w'.heap[k]?=w.heap[k]?):Two base w' v1 v2 l1 l2:=by
 have key:∀{v:Value} {l:List Int},(Kd.int .i64).R 3 w base (λ_=>True) v l->(Kd.int .i64).R 3 w' base (λ_=>True) v l:=λh1=>
  Kd.bB (Kd.gQ (Kd.bE h1) (λk hk hlt=>hm k hk.2.1 hlt)) (λ_ _=>trivial)
 exact⟨key h.r1,key h.r2,h.ne⟩
theorem Hr{base:Nat}{w w':World}{v:Value}{l:List Int}(h:(Kd.int .i64).R 3 w base (λ_=>True) v l)(hg:w.grownBy w' v.ownBlock):KeepsOthers w w':=
 KeepsOthers.of_grownBy hg (λj o e ho=>by
  obtain⟨_,_,_,q,_,cells,hk⟩:=(Kd.bE h).1 j e
  rw[hk] at ho
  cases ho
  rfl)
structure NB(base:Nat)(wd w:World)(g6 g7 g9:Nat)(v6 v7 u6 u7:Value)(l6 l7:List Int)(cs:List Value):Prop where
 two:Two base w u6 u7 l6 l7
 b:Below base wd w
 ko:KeepsOthers wd w
 b6:aR w g6 [v6] 22
 b7:aR w g7 [v7] 22
 b9:aR w g9 cs 105
 lt6:g6<base
 lt7:g7<base
 hs:base<=w.heap.size
theorem NB.alloc{base:Nat}{wd w:World}{g6 g7 g9:Nat}{v6 v7 u6 u7:Value}{l6 l7:List Int}{cs:List Value}(h:NB base wd w g6 g7 g9 v6 v7 u6 u7 l6 l7 cs)(o:Obj):NB base wd (w.alloc o) g6 g7 g9 v6 v7 u6 u7 l6 l7 cs:=
 ⟨h.two.below (ae (Below.refl _ _) o),h.b.alloc h.hs o,h.ko.trans (KeepsOthers.alloc w o),h.b6.alloc o,h.b7.alloc o,h.b9.alloc o,h.lt6,h.lt7,Nat.le_trans h.hs (Nat.le_of_lt (size_alloc w o))⟩
theorem NB.aa9{base:Nat}{w:World}{g9:Nat}{v:Value}{l:List Int}{cs:List Value}(h:(Kd.int .i64).R 3 w base (λ_=>True) v l)(b9:aR w g9 cs 105):some g9≠v.ownBlock:=λe=>by
 obtain⟨_,_,_,q,hq,cells,hk⟩:=(Kd.bE h).1 g9 e.symm
 rw[show w.heap[g9]?=some (.cells cs.toArray 105 (0,0)) from b9] at hk
 have hq':q=3:=by simpa[show(Kd.int IntKind.i64).E=[] from rfl] using hq
 subst hq'
 cases hk
theorem NB.app1{base:Nat}{wd w w1:World}{g6 g7 g9:Nat}{v6 v7 u6 u7 v:Value}{l6 l7 l:List Int}{cs:List Value}(h:NB base wd w g6 g7 g9 v6 v7 u6 u7 l6 l7 cs)(hon:(Kd.int .i64).R 3 w1 base (λ_=>True) v l)(hbn:Below base w w1)(hgn:w.grownBy w1 u6.ownBlock)(hat:v.ownBlock=u6.ownBlock\/∃b,v.ownBlock=some b/\w.heap.size<=b):NB base wd w1 g6 g7 g9 v6 v7 v u7 l l7 cs:=
 ⟨h.two.app1 hon hgn hat,h.b.trans hbn,h.ko.trans (Hr h.two.r1 hgn),h.b6.move (hbn.block _ h.lt6),h.b7.move (hbn.block _ h.lt7),h.b9.move (hgn.block _ h.b9.lt (NB.aa9 h.two.r1 h.b9)),h.lt6,h.lt7,Nat.le_trans h.hs hbn.size⟩
theorem NB.Po{base:Nat}{wd w w1:World}{g6 g7 g9:Nat}{v6 v7 u6 u7 v:Value}{l6 l7 l:List Int}{cs:List Value}(h:NB base wd w g6 g7 g9 v6 v7 u6 u7 l6 l7 cs)(hon:(Kd.int .i64).R 3 w1 base (λ_=>True) v l)(hbn:Below base w w1)(hgn:w.grownBy w1 u7.ownBlock)(hat:v.ownBlock=u7.ownBlock\/∃b,v.ownBlock=some b/\w.heap.size<=b):NB base wd w1 g6 g7 g9 v6 v7 u6 v l6 l cs:=
 ⟨h.two.Po hon hgn hat,h.b.trans hbn,h.ko.trans (Hr h.two.r2 hgn),h.b6.move (hbn.block _ h.lt6),h.b7.move (hbn.block _ h.lt7),h.b9.move (hgn.block _ h.b9.lt (NB.aa9 h.two.r2 h.b9)),h.lt6,h.lt7,Nat.le_trans h.hs hbn.size⟩
theorem Ho{base:Nat}{w w1:World}{v:Value}{l:List Int}{b:Nat}{x:Value}(h:(Kd.int .i64).R 3 w base (λ_=>True) v l)(hb:aR w b [x] 3)(hg:w.grownBy w1 v.ownBlock)(hne:some b≠v.ownBlock):w1.cell? ⟨b,0,none⟩=some x:=
 (hb.move (hg.block b hb.lt hne):aR w1 b [x] 3).cell 0
theorem kN{w:World}{g:Nat}{x:Int}(h:w.cell? ⟨g,0,none⟩=some (.int .i64 x)):(Kd.int .i64).C w (some ⟨g,0,none⟩) 1 [x]:=by
 refine⟨rfl,by omega,λ_=>⟨_,rfl,λj p hj=>?_⟩⟩
 obtain rfl:j=0:=by
  rcases Nat.eq_zero_or_pos j with e|e
  .exact e
  .rw[List.getElem?_eq_none (by simp only[List.length_cons,List.length_nil];omega)] at hj
   cases hj
 simp only[List.getElem?_cons_zero,Option.some.injEq] at hj
 subst hj
 exact⟨[.int .i64 x],rfl,rfl,λk u hk=>by
  cases k with
  |zero=>simp only[List.getElem?_cons_zero,Option.some.injEq] at hk;subst hk;simpa[Addr.add] using h
  |succ k=>simp at hk⟩
structure VN(w4 W:World)(g6 g7:Nat)(v6 v7:Value)(l6 l7:List Int):Prop where
 b6:aR W g6 [v6] 22
 b7:aR W g7 [v7] 22
 two:Two w4.heap.size W v6 v7 l6 l7
 keep:bq w4.heap.size (λb=>b=g6\/b=g7) w4 W
 mks:gN w4 W
theorem VN.own{w4 W W':World}{g6 g7:Nat}{v6 v7:Value}{l6 l7:List Int}(h:VN w4 W g6 g7 v6 v7 l6 l7)(h6:g6<w4.heap.size)(h7:g7<w4.heap.size){row:Option Nat}(hg:W.grownBy W' row)(hr:∀r,row=some r->w4.heap.size<=r/\∃o:Obj,W.heap[r]?=some o/\o.isCells=false):VN w4 W' g6 g7 v6 v7 l6 l7:=
 have hr':=λr e=>(hr r e).1
 ⟨h.b6.kept (B:=w4.heap.size) h6 hg hr',h.b7.kept (B:=w4.heap.size) h7 hg hr',h.two.grown hg (λr e=>(hr r e).2),⟨hg.os.trans h.keep.os,hg.tape.trans h.keep.tape,hg.output.trans h.keep.output,Nat.le_trans h.keep.size hg.size,λk hk hs=>(hg.block k (by have:=h.keep.size;omega) (λe=>by have:=hr' k e.symm;omega)).trans (h.keep.block k hk hs)⟩,h.mks.kept (Nat.le_refl _) hg hr'⟩
def Nb(old:List Int)(ss:List dQ)(P:Nat->Int×Int):Prop:=∀d:Nat,d<old.length->∃x y:IS,iR ss (d:Int) ss.length=[x,y]/\x.1<ss.length/\y.1<ss.length/\x.1≠y.1/\∃s q0 q1 r0 r1 left,Nz x.2.f2 y.2.f2 (rd old (d:Int)) s q0 q1 r0 r1 left (P d).1 (P d).2
def kG(ss:List dQ)(P:Nat->Int×Int):Nat->List Int
 |0=>List.replicate ss.length 0
 |k+1=>match iR ss (k:Int) ss.length with
  |[x,y]=>((kG ss P k).set x.1 (P k).1).set y.1 (P k).2
  |_=>kG ss P k
theorem zb(ss:List dQ)(P:Nat->Int×Int):∀k,(kG ss P k).length=ss.length
 |0=>by simp[kG]
 |k+1=>by
  unfold kG
  split
  .rw[List.length_set,List.length_set,zb ss P k]
  .exact zb ss P k
set_option maxRecDepth 100000 in
set_option maxHeartbeats 40000000 in
theorem vN{A0:Option Addr}{c0:Nat}{old:List Int}{nw:Int}{A2:Option Addr}{c2:Nat}{ss:List dQ}{A3:Option Addr}{c3:Nat}{js:List jO}{w:World}(h:Nr w A0 c0 old A2 c2 ss A3 c3 js)(hss:ss.length<=8)(hs0:0<ss.length)(Wu:old.length<=4)(hst:∀s ∈ ss,kH old.length nw s)(P:Nat->Int×Int)(hP:Nb old ss P):
  Calls Tryz.prog 80 #[.agg #[.slice A0 old.length c0,.int .i64 nw,.slice A2 ss.length c2,.slice A3 js.length c3]] w λe w'=>(∃v,e= .returned v/\(Kd.int .i64).R 3 w' w.heap.size (λ_=>True) v (kG ss P old.length))/\Below w.heap.size w w':=by
 have H:=aa.mk h
 have HP:=aa.mk hP
 have HST:=aa.mk hst
 have hb2:=h.b2
 clear h hP hst
 refine(callsIn_wide (n:=9)).1 (dS Tryz.func80 rfl trivial ?_ rfl)
 simp only[Tryz.ntmps80,List.size_toArray,List.length_cons,List.length_nil,Nat.reduceAdd,Nat.reduceSub,Array.replicate_succ,Array.replicate_zero,List.push_toArray,List.append_toArray,List.nil_append,List.cons_append]
 refine wpIn_wide.2 ?_
 have HB0:=aa.mk (ae (Below.refl w.heap.size w) (.cells #[.slice A0 old.length c0,.int .i64 nw,.slice A2 ss.length c2,.slice A3 js.length c3] 43))
 have B10:=aa.mk (aR.new w [.slice A0 old.length c0,.int .i64 nw,.slice A2 ss.length c2,.slice A3 js.length c3] 43)
 have hsz0:w.heap.size<(w.alloc (.cells #[.slice A0 old.length c0,.int .i64 nw,.slice A2 ss.length c2,.slice A3 js.length c3] 43)).heap.size:=by simp
 go_wp2_with (first|(with_reducible refine wpIn_wide.2 ?_)|((with_reducible refine cZ (N:=17) rfl ?_);refine Kd.La (Kd.int .i64) (w0:=w) w.heap.size 3 rfl rfl 22 (.tmp 16) (.tmp 16) rfl (ss.length:Int) rfl rfl Tryz.underlying22 (.int .i64 0) 8 info3 rfl (by decide) (by decide) (0:Int) (ok:=λ_=>True) (okp:=λ_=>False) rfl (λ_ h=>h.elim) trivial (by omega) (by simp only[Int.toNat_natCast];omega) HB0.out (by omega) ?_;intro vo w1 hon hbn hgn fP;simp only[Int.toNat_natCast] at hon;have Lp:=aa.mk hon;have HB1:=aa.mk hbn;have B11:=aa.mk (B10.out.move (hgn.block _ (by omega) (λe=>by cases e)));have h10:=B11.out.cell 0;simp only[List.getElem?_cons_zero] at h10;obtain⟨go,co,rfl,_⟩:=qB Lp.out 0 (by simp only[List.length_replicate];omega);clear hon hbn hgn fP))
 have hgo:=(Kd.bE Lp.out).1 go (by simp[Value.ownBlock])
 have abW:w.heap.size<go:=by
  rcases Nat.lt_or_ge w.heap.size go with h|h
  .exact h
  .exfalso
   obtain rfl:go=w.heap.size:=by have:=hgo.2.1;omega
   obtain⟨_,_,_,q,hq,cells,hk⟩:=hgo
   rw[show w1.heap[w.heap.size]?=_ from B11.out] at hk
   have hq':q=3:=by simpa[show(Kd.int IntKind.i64).E=[] from rfl] using hq
   subst hq'
   cases hk
 have OT:=hgo.2.2.1
 have HO:=aa.mk (show(Kd.int .i64).R 3 w1 w.heap.size (λk=>some k=some go) (.slice (some ⟨go,0,none⟩) ss.length co) (kG ss P 0) by
  have hx:=Kd.ym rfl Lp.out
  simp only[List.length_replicate,Value.ownBlock] at hx
  exact hx)
 clear HB0 B10 hsz0 Lp hgo h10
 refine wp_loop (λa' wr=>∃(ds:List Deferred) (d:Nat),d<=old.length/\go<wr.heap.size/\aa ((Kd.int .i64).R 3 wr w.heap.size (λk=>some k=some go) (.slice (some ⟨go,0,none⟩) ss.length co) (kG ss P d))/\aa (Below w.heap.size w wr)/\aa (aR wr w.heap.size [.slice A0 old.length c0,.int .i64 nw,.slice A2 ss.length c2,.slice A3 js.length c3] 43)/\aa (Marks w.heap.size wr ds)/\a'={tmps:=#[.agg #[.slice A0 old.length c0,.int .i64 nw,.slice A2 ss.length c2,.slice A3 js.length c3],.pointer (some ⟨w.heap.size,0,none⟩),.slice none 0 0,.slice (some ⟨go,0,none⟩) ss.length co,a'.tmps.getD 4 undef,a'.tmps.getD 5 undef,a'.tmps.getD 6 undef,a'.tmps.getD 7 undef,a'.tmps.getD 8 undef,a'.tmps.getD 9 undef,a'.tmps.getD 10 undef,a'.tmps.getD 11 undef,a'.tmps.getD 12 undef,a'.tmps.getD 13 undef,.pointer (some ⟨w.heap.size,2,none⟩),.slice A2 ss.length c2,.int .i64 (ss.length:Int),.slice (some ⟨go,0,none⟩) ss.length co,.pointer (some ⟨w.heap.size,0,none⟩),.slice A0 old.length c0,.int .i64 (old.length:Int),.int .i64 (d:Int),a'.tmps.getD 22 undef,a'.tmps.getD 23 undef,a'.tmps.getD 24 undef,a'.tmps.getD 25 undef,a'.tmps.getD 26 undef,a'.tmps.getD 27 undef,a'.tmps.getD 28 undef,a'.tmps.getD 29 undef,a'.tmps.getD 30 undef,a'.tmps.getD 31 undef,a'.tmps.getD 32 undef,a'.tmps.getD 33 undef,a'.tmps.getD 34 undef,a'.tmps.getD 35 undef,a'.tmps.getD 36 undef,a'.tmps.getD 37 undef,a'.tmps.getD 38 undef,a'.tmps.getD 39 undef,a'.tmps.getD 40 undef,a'.tmps.getD 41 undef,a'.tmps.getD 42 undef,a'.tmps.getD 43 undef,a'.tmps.getD 44 undef,a'.tmps.getD 45 undef,a'.tmps.getD 46 undef,a'.tmps.getD 47 undef,a'.tmps.getD 48 undef,a'.tmps.getD 49 undef,a'.tmps.getD 50 undef,a'.tmps.getD 51 undef,a'.tmps.getD 52 undef,a'.tmps.getD 53 undef,a'.tmps.getD 54 undef,a'.tmps.getD 55 undef,a'.tmps.getD 56 undef,a'.tmps.getD 57 undef,a'.tmps.getD 58 undef,a'.tmps.getD 59 undef,a'.tmps.getD 60 undef,a'.tmps.getD 61 undef,a'.tmps.getD 62 undef],defers:=ds}) (λa' _=>old.length-(intOf (a'.tmps.getD 21 undef)).toNat) ?start ?round
 case start=>exact⟨[],0,Nat.zero_le _,OT,HO,HB1,B11,⟨trivial⟩,rfl⟩
 case round=>
  clear HB1 B11 HO OT
  rintro a' wr ⟨ds,d,hd,OT,HO,HB,B1,HM,hfr⟩
  obtain⟨u,hu⟩:∃u:Nat->Value,a'={tmps:=#[.agg #[.slice A0 old.length c0,.int .i64 nw,.slice A2 ss.length c2,.slice A3 js.length c3],.pointer (some ⟨w.heap.size,0,none⟩),.slice none 0 0,.slice (some ⟨go,0,none⟩) ss.length co,(u 4),(u 5),(u 6),(u 7),(u 8),(u 9),(u 10),(u 11),(u 12),(u 13),.pointer (some ⟨w.heap.size,2,none⟩),.slice A2 ss.length c2,.int .i64 (ss.length:Int),.slice (some ⟨go,0,none⟩) ss.length co,.pointer (some ⟨w.heap.size,0,none⟩),.slice A0 old.length c0,.int .i64 (old.length:Int),.int .i64 (d:Int),(u 22),(u 23),(u 24),(u 25),(u 26),(u 27),(u 28),(u 29),(u 30),(u 31),(u 32),(u 33),(u 34),(u 35),(u 36),(u 37),(u 38),(u 39),(u 40),(u 41),(u 42),(u 43),(u 44),(u 45),(u 46),(u 47),(u 48),(u 49),(u 50),(u 51),(u 52),(u 53),(u 54),(u 55),(u 56),(u 57),(u 58),(u 59),(u 60),(u 61),(u 62)],defers:=ds}:=⟨λi=>a'.tmps.getD i undef,hfr⟩
  clear hfr
  subst hu
  dsimp only
  by_cases hlt:d<old.length
  .have hg1:=B1.out.lt
   have h10:=B1.out.cell 0
   have h11:=B1.out.cell 1
   have h12:=B1.out.cell 2
   have sI:=B1.out.cell 3
   simp only[eP,eO] at h10 h11 h12 sI
   obtain⟨ad,e,hx⟩:=Kd.cK (H.out.below HB.out).QR (d:Int) (by omega) (by omega)
   cases e
   simp only[Int.toNat_natCast] at hx
   obtain⟨X,Y,hof,hX,hY,hXY,s_,q0_,q1_,r0_,r1_,lf_,hdiv⟩:=HP.out d hlt
   have HOF:=aa.mk hof
   have HDV:=aa.mk hdiv
   clear hof hdiv
   obtain⟨cnt,hcnt⟩:∃x,rd old (d:Int)=x:=⟨_,rfl⟩
   rw[hcnt] at hx HDV
   clear hcnt
   go_wp2_with (with_reducible refine wpIn_wide.2 ?_)
   have P9:=aa.mk (ae (ae HB.out (.cells #[.slice none 0 0] 22)) (.cells #[.slice none 0 0] 22))
   have B1a:=aa.mk ((B1.out.alloc (.cells #[.slice none 0 0] 22)).alloc (.cells #[.slice none 0 0] 22))
   have B6a:=aa.mk ((aR.new wr [.slice none 0 0] 22).alloc (.cells #[.slice none 0 0] 22))
   have B7a:=aa.mk (aR.second wr (.cells #[.slice none 0 0] 22) [.slice none 0 0] 22)
   have HMa:=aa.mk ((HM.out.alloc (.cells #[.slice none 0 0] 22)).alloc (.cells #[.slice none 0 0] 22))
   have HOa:=aa.mk (Kd.bK (Kd.bK HO.out (.cells #[.slice none 0 0] 22)) (.cells #[.slice none 0 0] 22))
   have hsa:wr.heap.size+1<((wr.alloc (.cells #[.slice none 0 0] 22)).alloc (.cells #[.slice none 0 0] 22)).heap.size:=by simp
   clear HB B1 HM HO h10 h11 h12 sI hx
   generalize(wr.alloc (.cells #[.slice none 0 0] 22)).alloc (.cells #[.slice none 0 0] 22)=wa at P9 B1a B6a B7a HMa HOa hsa ⊢
   generalize wr.heap.size=g6 at B6a B7a hsa hg1 OT ⊢
   refine((callsIn_wide (n:=8)).1 (Mr Fence.wide 8 trivial rfl _ _ _ _ _ rfl rfl rfl rfl wa)).mono ?_
   rintro e w4 ⟨rfl,rfl⟩
   have jd:=aa.mk (ae (ae P9.out (.cells #[.slice (some ad) old.length c0,.int .i64 nw,.slice A2 ss.length c2,.slice A3 js.length c3] 43)) (.cells #[.int .i64 (d:Int)] 3))
   have LW:=aa.mk ((B1a.out.alloc (.cells #[.slice (some ad) old.length c0,.int .i64 nw,.slice A2 ss.length c2,.slice A3 js.length c3] 43)).alloc (.cells #[.int .i64 (d:Int)] 3))
   have Xw:=aa.mk ((B6a.out.alloc (.cells #[.slice (some ad) old.length c0,.int .i64 nw,.slice A2 ss.length c2,.slice A3 js.length c3] 43)).alloc (.cells #[.int .i64 (d:Int)] 3))
   have Xv:=aa.mk ((B7a.out.alloc (.cells #[.slice (some ad) old.length c0,.int .i64 nw,.slice A2 ss.length c2,.slice A3 js.length c3] 43)).alloc (.cells #[.int .i64 (d:Int)] 3))
   have HM4:=aa.mk ((HMa.out.alloc (.cells #[.slice (some ad) old.length c0,.int .i64 nw,.slice A2 ss.length c2,.slice A3 js.length c3] 43)).alloc (.cells #[.int .i64 (d:Int)] 3))
   have HO4:=aa.mk (Kd.bK (Kd.bK HOa.out (.cells #[.slice (some ad) old.length c0,.int .i64 nw,.slice A2 ss.length c2,.slice A3 js.length c3] 43)) (.cells #[.int .i64 (d:Int)] 3))
   have zS:=aa.mk ((aR.new wa [.slice (some ad) old.length c0,.int .i64 nw,.slice A2 ss.length c2,.slice A3 js.length c3] 43).alloc (.cells #[.int .i64 (d:Int)] 3))
   have zI:=aa.mk (aR.second wa (.cells #[.slice (some ad) old.length c0,.int .i64 nw,.slice A2 ss.length c2,.slice A3 js.length c3] 43) [.int .i64 (d:Int)] 3)
   have hsz:((wa.alloc (.cells #[.slice (some ad) old.length c0,.int .i64 nw,.slice A2 ss.length c2,.slice A3 js.length c3] 43)).alloc (.cells #[.int .i64 (d:Int)] 3)).heap.size=wa.heap.size+1+1:=by simp
   clear P9 B1a B6a B7a HMa HOa
   generalize(wa.alloc (.cells #[.slice (some ad) old.length c0,.int .i64 nw,.slice A2 ss.length c2,.slice A3 js.length c3] 43)).alloc (.cells #[.int .i64 (d:Int)] 3)=w4 at jd LW Xw Xv HM4 HO4 zS zI hsz ⊢
   obtain⟨gx,hgx⟩:∃gx,wa.heap.size=gx:=⟨_,rfl⟩
   rw[hgx] at zS zI hsz hsa ⊢
   clear hgx
   have HC:=aa.mk (H.out.below jd.out)
   have hlo:=rQ H.out.PV
   go_wp2_with (with_reducible refine wpIn_wide.2 ?_)
   refine(wpIn_wide (n:=9)).1 ?_
   refine xu (gm:=gx) (gn:=gx+1) (by decide) (by decide) rfl (n₀:=w4.heap.size) (S:=λb=>b=g6\/b=g6+1) (u0:= .slice (some ad) old.length c0) (u1:= .int .i64 nw) (u3:= .slice A3 js.length c3) (A2:=A2) (c2:=c2) (ss:=ss) (old:=(d:Int)) hb2 (Nat.le_refl _) ?reads
    (λt x=>(t.setIfInBounds 29 (.int .i64 (x.1:Int))).setIfInBounds 30 (encS x.2)) (λt x g=>(((t.setIfInBounds 29 (.int .i64 (x.1:Int))).setIfInBounds 30 (encS x.2)).setIfInBounds 8 (.int .i64 (x.1:Int))).setIfInBounds 9 (.pointer (some ⟨g,0,none⟩))) (λt x=>NH t 29 30 _ _)
    (λpre W=>aa (∃v6 v7,VN w4 W g6 (g6+1) v6 v7 (pre.map (λx=>x.2.f2)) (pre.map (λx=>(x.1:Int))))) ?own (λxs W hi=>by obtain⟨_,_,hc⟩:=hi.out;exact hc.keep.size) ⟨⟨_,_,Xw.out,Xv.out,Two.nil _ _,bq.refl _ _ _,gN.refl _⟩⟩ ?assign ?body ?done
   case reads=>exact⟨zS.out,by simpa using zI.out.cell 0,HC.out.PV,⟨by omega,by omega⟩,⟨by omega,by omega⟩,λh0 ad e=>⟨by have:=hlo h0 ad e;omega,by have:=hlo h0 ad e;omega⟩⟩
   case own=>
    rintro xs W W' row ⟨v6,v7,hi⟩ hg hr
    exact⟨⟨v6,v7,hi.own (by omega) (by omega) hg hr⟩⟩
   case assign=>
    intro l x W K hx hK
    clear hx hX hY hXY hg1 abW OT hsz hsa hlt hd hlo jd LW Xw Xv HM4 HO4 zS zI HC
    simp only[sb0,sb1,dD,cellsS,encS] at hK ⊢
    gi_wp2_with fail
    exact hK
   case body=>
    rintro l pre x g W hx hlen ⟨v6,v7,hi⟩ hg hBg
    simp only[sb0,sb1,dD,encS]
    have HI:=aa.mk hi
    have HG:=aa.mk hBg
    have hws:=hi.keep.size
    have ald:(pre.map (λx:IS=>x.2.f2)).length<=8:=by rw[List.length_map];omega
    have alc:(pre.map (λx:IS=>(x.1:Int))).length<=8:=by rw[List.length_map];omega
    clear hi hBg
    gi_wp2_with fail
    refine lG (by rintro⟨_,_,h⟩;exact h) (by kernel_rfl) (n:=11) (S:=λw'=>w'.cell? ⟨g6,0,none⟩=some v6/\w'.cell? ⟨g,2,none⟩=some (.int .i64 x.2.f2)/\w'.cell? ⟨g6+1,0,none⟩=some v7) (ds:=[8,9,10]) #[O,O,O,O,O,O,O,O,O,O,O] (by kernel_rfl) rfl rfl ⟨(by simpa using HI.out.b6.cell 0),(by simpa[cellsS] using HG.out.cell 2),(by simpa using HI.out.b7.cell 0)⟩ (λhHeld=>?_);refine bu ca.Dk ca.vO (λak bN=>?_)
    have HS:=aa.mk (NB.mk (base:=w4.heap.size) (HI.out.two.below (aM (Below.refl _ _))) (aM (Below.refl _ W)) ⟨Nat.le_refl _,λ_ _ h _=>h⟩ (HI.out.b6.move rfl:aR W.drew _ _ _) (HI.out.b7.move rfl:aR W.drew _ _ _) (HG.out.move rfl:aR W.drew _ _ _) (by omega) (by omega) hws)
    generalize W.drew=wd at HS hHeld ⊢
    refine dG 0 31 #[I,O,O,O,O,O,O,O,O,O,O] ak bN hHeld (hy:=by(rintro w' ⟨s0,s1,s2⟩;go_simp;with_reducible rfl)) (h:=?_)
    refine aZ 1 32 #[I,I,O,O,O,O,O,O,O,O,O] ak (h:=?_)
    refine dG 2 33 #[I,I,I,O,O,O,O,O,O,O,O] ak bN hHeld (hy:=by(rintro w' ⟨s0,s1,s2⟩;go_simp;with_reducible rfl)) (h:=?_)
    refine dG 5 36 #[I,I,I,O,O,I,O,O,O,O,O] ak bN hHeld (hy:=by(rintro w' ⟨s0,s1,s2⟩;go_simp;with_reducible rfl)) (h:=?_)
    refine aZ 6 37 #[I,I,I,O,O,I,I,O,O,O,O] ak (h:=?_)
    refine iI (σ:=Value×Nat×Nat) 3 #[I,I,I,I,I,I,I,I,O,O,O] (λs=>[(34,.slice (some ⟨s.2.1,0,none⟩) 1 1),(35,s.1),(38,.slice (some ⟨s.2.2,0,none⟩) 1 1)]) (λs w'=>NB w4.heap.size W w' g6 (g6+1) g v6 v7 s.1 v7 (pre.map (λx:IS=>x.2.f2)++[x.2.f2]) (pre.map (λx:IS=>(x.1:Int))) (cellsS x.2)/\w'.cell? ⟨s.2.2,0,none⟩=some (.int .i64 (x.1:Int))) ?cont ?orders
    case orders=>
     intro hcont
     refine qO (i:=3) (j:=7) (Ni:=some 34) (Nj:=some 38) #[I,I,I,I,O,I,I,O,O,O,O] #[I,I,I,O,O,I,I,I,O,O,O] rfl rfl rfl rfl (jG ak.out (by kernel_rfl)) (by decide) (by decide) (λK hK=>?_) (λK hK=>?_)
     .refine bT (w1:=?_) (v:=?_) (by rfl) rfl ?_ ?_
      rotate_left 2
      .go_simp
       constructor<;>rfl
      refine hK.out _ _ ⟨(by simpa using (HS.out.alloc (.cells #[.int .i64 x.2.f2] 3)).b6.cell 0),(by simpa[cellsS] using (HS.out.alloc (.cells #[.int .i64 x.2.f2] 3)).b9.cell 2),(by simpa using (HS.out.alloc (.cells #[.int .i64 x.2.f2] 3)).b7.cell 0)⟩ (λiW=>?_)
      clear hK K
      have Ai:=aa.mk (HS.out.alloc (.cells #[.int .i64 x.2.f2] 3))
      have B3:=aa.mk (aR.new wd [.int .i64 x.2.f2] 3)
      refine iY ?_
      generalize wd.alloc (.cells #[.int .i64 x.2.f2] 3)=w3 at Ai B3 iW ⊢
      generalize wd.heap.size=b3 at B3 ⊢
      refine qO (i:=4) (j:=7) (Ni:=some 35) (Nj:=some 38) #[I,I,I,I,I,I,I,O,O,O,O] #[I,I,I,I,O,I,I,I,O,O,O] rfl rfl rfl rfl (jG ak.out (by kernel_rfl)) (by decide) (by decide) (λK hK=>?_) (λK hK=>?_)
      .refine Kd.bO (Kd.int .i64) (w0:=w3) w4.heap.size (by rfl) (.tmp 31) (.tmp 34) 22 3 (.int .i64 0) 8 rfl Tryz.underlying22 info3 rfl (by decide) (by omega) v6 (pre.map (λx:IS=>x.2.f2)) [x.2.f2] (some ⟨b3,0,none⟩) 1 1 (λ_=>True) (λ_=>False) rfl rfl Ai.out.two.r1 (kN (by simpa using B3.out.cell 0)) (λx cs h=>h) (λ_ hk=>hk.elim) (λ_ _=>trivial) (Below.refl _ _) Ai.out.hs (by omega) ?_
       intro v w_ hon hbn hgn fP
       have zT:=aa.mk (Ai.out.app1 hon hbn hgn fP)
       refine hK.out _ _ ⟨(by simpa using zT.out.b6.cell 0),(by simpa[cellsS] using zT.out.b9.cell 2),(by simpa using zT.out.b7.cell 0)⟩ (λ_=>?_)
       clear hK K hon hbn hgn fP
       refine iY ?_
       refine dO (i:=7) (N:=some 38) #[I,I,I,I,I,I,I,I,O,O,O] rfl rfl (aI ak.out (by kernel_rfl)) (by decide) (λK hK=>?_)
       refine bT (w1:=?_) (v:=?_) (by rfl) rfl ?_ ?_
       rotate_left 2
       .go_simp
        constructor<;>rfl
       refine hK.out _ _ ⟨(by simpa using (zT.out.alloc (.cells #[.int .i64 (x.1:Int)] 3)).b6.cell 0),(by simpa[cellsS] using (zT.out.alloc (.cells #[.int .i64 (x.1:Int)] 3)).b9.cell 2),(by simpa using (zT.out.alloc (.cells #[.int .i64 (x.1:Int)] 3)).b7.cell 0)⟩ (λ_=>?_)
       clear hK K
       have hfin:=hcont (v,b3,w_.heap.size) _ ⟨zT.out.alloc (.cells #[.int .i64 (x.1:Int)] 3),(by simpa using (aR.new w_ [.int .i64 (x.1:Int)] 3).cell 0)⟩
       refine bH ?_ hfin
       (simp only[bz,Act.put,sb0,sb1,dD])<;>rfl
      .refine bT (w1:=?_) (v:=?_) (by rfl) rfl ?_ ?_
       rotate_left 2
       .go_simp
        constructor<;>rfl
       refine hK.out _ _ ⟨(by simpa using (Ai.out.alloc (.cells #[.int .i64 (x.1:Int)] 3)).b6.cell 0),(by simpa[cellsS] using (Ai.out.alloc (.cells #[.int .i64 (x.1:Int)] 3)).b9.cell 2),(by simpa using (Ai.out.alloc (.cells #[.int .i64 (x.1:Int)] 3)).b7.cell 0)⟩ (λ_=>?_)
       clear hK K
       have zT:=aa.mk (Ai.out.alloc (.cells #[.int .i64 (x.1:Int)] 3))
       replace B3:=aa.mk (B3.out.alloc (.cells #[.int .i64 (x.1:Int)] 3))
       have PR:=aa.mk (aR.new w3 [.int .i64 (x.1:Int)] 3)
       refine iY ?_
       have hx7:some w3.heap.size≠v6.ownBlock:=λe=>by have:=(Kd.bE Ai.out.two.r1).1 _ e.symm;omega
       generalize w3.alloc (.cells #[.int .i64 (x.1:Int)] 3)=w5 at zT B3 PR ⊢
       generalize w3.heap.size=b7 at PR hx7 ⊢
       refine dO (i:=4) (N:=some 35) #[I,I,I,I,I,I,I,I,O,O,O] rfl rfl (aI ak.out (by kernel_rfl)) (by decide) (λK hK=>?_)
       refine Kd.bO (Kd.int .i64) (w0:=w5) w4.heap.size (by rfl) (.tmp 31) (.tmp 34) 22 3 (.int .i64 0) 8 rfl Tryz.underlying22 info3 rfl (by decide) (by omega) v6 (pre.map (λx:IS=>x.2.f2)) [x.2.f2] (some ⟨b3,0,none⟩) 1 1 (λ_=>True) (λ_=>False) rfl rfl zT.out.two.r1 (kN (by simpa using B3.out.cell 0)) (λx cs h=>h) (λ_ hk=>hk.elim) (λ_ _=>trivial) (Below.refl _ _) zT.out.hs (by omega) ?_
       intro v w_ hon hbn hgn fP
       have Vt:=aa.mk (zT.out.app1 hon hbn hgn fP)
       have Gg:=Ho zT.out.two.r1 PR.out hgn hx7
       refine hK.out _ _ ⟨(by simpa using Vt.out.b6.cell 0),(by simpa[cellsS] using Vt.out.b9.cell 2),(by simpa using Vt.out.b7.cell 0)⟩ (λ_=>?_)
       clear hK K hon hbn hgn fP
       have hfin:=hcont (v,b3,b7) _ ⟨Vt.out,Gg⟩
       refine bH ?_ hfin
       (simp only[bz,Act.put,sb0,sb1,dD])<;>rfl
     .refine bT (w1:=?_) (v:=?_) (by rfl) rfl ?_ ?_
      rotate_left 2
      .go_simp
       constructor<;>rfl
      refine hK.out _ _ ⟨(by simpa using (HS.out.alloc (.cells #[.int .i64 (x.1:Int)] 3)).b6.cell 0),(by simpa[cellsS] using (HS.out.alloc (.cells #[.int .i64 (x.1:Int)] 3)).b9.cell 2),(by simpa using (HS.out.alloc (.cells #[.int .i64 (x.1:Int)] 3)).b7.cell 0)⟩ (λiW=>?_)
      clear hK K
      have Ai:=aa.mk (HS.out.alloc (.cells #[.int .i64 (x.1:Int)] 3))
      have PR:=aa.mk (aR.new wd [.int .i64 (x.1:Int)] 3)
      refine iY ?_
      have hx7:some wd.heap.size≠v6.ownBlock:=λe=>by have:=(Kd.bE HS.out.two.r1).1 _ e.symm;omega
      generalize wd.alloc (.cells #[.int .i64 (x.1:Int)] 3)=w3 at Ai PR iW ⊢
      generalize wd.heap.size=b7 at PR hx7 ⊢
      refine dO (i:=3) (N:=some 34) #[I,I,I,I,O,I,I,I,O,O,O] rfl rfl (aI ak.out (by kernel_rfl)) (by decide) (λK hK=>?_)
      refine bT (w1:=?_) (v:=?_) (by rfl) rfl ?_ ?_
      rotate_left 2
      .go_simp
       constructor<;>rfl
      refine hK.out _ _ ⟨(by simpa using (Ai.out.alloc (.cells #[.int .i64 x.2.f2] 3)).b6.cell 0),(by simpa[cellsS] using (Ai.out.alloc (.cells #[.int .i64 x.2.f2] 3)).b9.cell 2),(by simpa using (Ai.out.alloc (.cells #[.int .i64 x.2.f2] 3)).b7.cell 0)⟩ (λ_=>?_)
      clear hK K
      have zT:=aa.mk (Ai.out.alloc (.cells #[.int .i64 x.2.f2] 3))
      replace PR:=aa.mk (PR.out.alloc (.cells #[.int .i64 x.2.f2] 3))
      have B3:=aa.mk (aR.new w3 [.int .i64 x.2.f2] 3)
      refine iY ?_
      generalize w3.alloc (.cells #[.int .i64 x.2.f2] 3)=w5 at zT B3 PR ⊢
      generalize w3.heap.size=b3 at B3 ⊢
      refine dO (i:=4) (N:=some 35) #[I,I,I,I,I,I,I,I,O,O,O] rfl rfl (aI ak.out (by kernel_rfl)) (by decide) (λK hK=>?_)
      refine Kd.bO (Kd.int .i64) (w0:=w5) w4.heap.size (by rfl) (.tmp 31) (.tmp 34) 22 3 (.int .i64 0) 8 rfl Tryz.underlying22 info3 rfl (by decide) (by omega) v6 (pre.map (λx:IS=>x.2.f2)) [x.2.f2] (some ⟨b3,0,none⟩) 1 1 (λ_=>True) (λ_=>False) rfl rfl zT.out.two.r1 (kN (by simpa using B3.out.cell 0)) (λx cs h=>h) (λ_ hk=>hk.elim) (λ_ _=>trivial) (Below.refl _ _) zT.out.hs (by omega) ?_
      intro v w_ hon hbn hgn fP
      have Vt:=aa.mk (zT.out.app1 hon hbn hgn fP)
      have Gg:=Ho zT.out.two.r1 PR.out hgn hx7
      refine hK.out _ _ ⟨(by simpa using Vt.out.b6.cell 0),(by simpa[cellsS] using Vt.out.b9.cell 2),(by simpa using Vt.out.b7.cell 0)⟩ (λ_=>?_)
      clear hK K hon hbn hgn fP
      have hfin:=hcont (v,b3,b7) _ ⟨Vt.out,Gg⟩
      refine bH ?_ hfin
      (simp only[bz,Act.put,sb0,sb1,dD])<;>rfl
    case cont=>
     rintro⟨v,b3,b7⟩ w5 ⟨hc,hl⟩
     refine bH (by simp only[bz,Act.put,sb0,sb1,dD];rfl) ?_
     have I7:=aa.mk hc
     clear hc HS hHeld
     refine dE (i:=8) (N:=some 39) #[I,I,I,I,I,I,I,I,I,O,O] rfl rfl (aI ak.out (by kernel_rfl)) (by decide) (λK hK=>?_)
     refine Kd.bO (Kd.int .i64) (w0:=w5) w4.heap.size (by rfl) (.tmp 36) (.tmp 38) 22 3 (.int .i64 0) 8 rfl Tryz.underlying22 info3 rfl (by decide) (by omega) v7 (pre.map (λx:IS=>(x.1:Int))) [(x.1:Int)] (some ⟨b7,0,none⟩) 1 1 (λ_=>True) (λ_=>False) rfl rfl I7.out.two.r2 (kN hl) (λx cs h=>h) (λ_ hk=>hk.elim) (λ_ _=>trivial) (Below.refl _ _) I7.out.hs (by omega) ?_
     intro v2 w6 hon hbn hgn fP
     have zk:=aa.mk (I7.out.Po hon hbn hgn fP)
     clear hl hon hbn hgn fP I7
     obtain⟨Av,nv,cv,rfl⟩:=iy zk.out.two.r1
     obtain⟨Au,nu,cu,rfl⟩:=iy zk.out.two.r2
     refine hK.out _ _ ?_
     clear hK K
     refine iY ?_
     refine dE (i:=9) (N:=none) #[I,I,I,I,I,I,I,I,I,I,O] rfl rfl (aI ak.out (by kernel_rfl)) (by decide) (λK hK=>?_)
     have eY:=(show w6.cell? ⟨g6,0,none⟩=some v6 by simpa using zk.out.b6.cell 0)
     have ig:=zk.out.b6.frozen 0
     refine gW (w1:=?_) (by rfl) rfl ?_ ?_
     rotate_left
     .go_simp
      rfl
     refine hK.out _ _ ?_
     clear hK K eY ig
     have B6s:=aa.mk (show aR _ g6 [.slice Av nv cv] _ from df zk.out.b6 0 (.slice Av nv cv))
     have B7s:=aa.mk (zk.out.b7.move (Below.heap_setCell w6 ⟨g6,0,none⟩ (.slice Av nv cv) _ (by simp only;omega)))
     have HTs:=aa.mk (zk.out.two.step (w':=w6.setCell ⟨g6,0,none⟩ (.slice Av nv cv)) (λk hk _=>Below.heap_setCell _ _ _ _ (by simp only;omega)))
     have HKs:=aa.mk ((bq.of_below (S:=λb=>b=g6\/b=g6+1) zk.out.b (Nat.le_refl _)).setCell (p:=⟨g6,0,none⟩) (.inl (.inl rfl)) (.slice Av nv cv))
     have HOs:=aa.mk (zk.out.ko.trans (KeepsOthers.setCell w6 ⟨g6,0,none⟩ (.slice Av nv cv)))
     clear zk
     generalize w6.setCell ⟨g6,0,none⟩ (.slice Av nv cv)=w7 at B6s B7s HTs HKs HOs ⊢
     refine dE (i:=10) (N:=none) #[I,I,I,I,I,I,I,I,I,I,I] rfl rfl (aI ak.out (by kernel_rfl)) (by decide) (λK hK=>?_)
     have eY:=(show w7.cell? ⟨g6+1,0,none⟩=some v7 by simpa using B7s.out.cell 0)
     have ig:=B7s.out.frozen 0
     refine gW (w1:=?_) (by rfl) rfl ?_ ?_
     rotate_left
     .go_simp
      rfl
     refine hK.out _ _ ?_
     clear hK K eY ig
     have B7z:=aa.mk (show aR _ (g6+1) [.slice Au nu cu] _ from df B7s.out 0 (.slice Au nu cu))
     have B6z:=aa.mk (B6s.out.move (Below.heap_setCell w7 ⟨g6+1,0,none⟩ (.slice Au nu cu) _ (by simp only;omega)))
     have Ns:=aa.mk (HTs.out.step (w':=w7.setCell ⟨g6+1,0,none⟩ (.slice Au nu cu)) (λk hk _=>Below.heap_setCell _ _ _ _ (by simp only;omega)))
     have HKz:=aa.mk (HKs.out.setCell (p:=⟨g6+1,0,none⟩) (.inl (.inr rfl)) (.slice Au nu cu))
     have HOz:=aa.mk (HOs.out.trans (KeepsOthers.setCell w7 ⟨g6+1,0,none⟩ (.slice Au nu cu)))
     clear B6s B7s HTs HKs HOs
     generalize w7.setCell ⟨g6+1,0,none⟩ (.slice Au nu cu)=w8 at B6z B7z Ns HKz HOz ⊢
     refine dK (bG ak.out (by kernel_rfl)) ?_
     refine⟨HOz.out.from _,HKz.out,⟨_,_,B6z.out,B7z.out,?_,HI.out.keep.trans HKz.out,λD hD=>HOz.out.same D _ (HI.out.mks D hD) rfl⟩⟩
     rw[List.map_append,List.map_append]
     exact Ns.out
   case done=>
    rintro D W hD hi CX
    obtain⟨v6,v7,hI⟩:=hi.out
    rw[HOF.out] at hI
    simp only[List.map_cons,List.map_nil] at hI
    obtain⟨b6,c6,rfl,_⟩:=qB hI.two.r1 0 (by simp)
    obtain⟨b7,c7,rfl,hq0⟩:=qB hI.two.r2 0 (by simp)
    have hq1:=(Kd.jE (0:Int) hI.two.r2 1 (by omega) (by simp)).1
    have hb7:=(Kd.bE hI.two.r2).1 b7 (by simp[Value.ownBlock])
    have aoy:=hb7.2.1
    have acb:=hb7.2.2.1
    obtain⟨_,hc6,hC6⟩:=Kd.dL hI.two.r1
    have zk:=aa.mk (show(Kd.int .i64).C W (some ⟨b6,0,none⟩) 2 [X.2.f2,Y.2.f2] from hC6)
    have ahV:2<=c6:=hc6
    have TE:=aa.mk (Marks.cons HM4.out hI.mks hD (by omega) CX)
    have VH:=aa.mk (show Below w.heap.size w W from⟨hI.keep.os.trans jd.out.os,hI.keep.tape.trans jd.out.tape,hI.keep.output.trans jd.out.output,Nat.le_trans jd.out.size hI.keep.size,λk hk=>(hI.keep.block k (by omega) (by omega)).trans (jd.out.block k hk)⟩)
    have B1W:=aa.mk (LW.out.move (hI.keep.block _ (by omega) (by omega)))
    have HOW:=aa.mk (Kd.gQ HO4.out (λk hk hlt=>hI.keep.block k hlt (by simp only[Option.some.injEq] at hk;omega)))
    have B6W:=aa.mk hI.b6
    have B7W:=aa.mk hI.b7
    have hsW:=hI.keep.size
    have xN:=hI.b6.cell 0
    simp only[List.getElem?_cons_zero] at xN
    clear hi hI hb7 hC6 hc6 CX jd LW HM4 HO4 zS zI HC Xw Xv
    dsimp only
    go_wp2_with (with_reducible refine wpIn_wide.2 ?_)
    refine(Ga zk.out ahV HDV.out).mono ?_
    rintro e W5 ⟨⟨v10,rfl,UT⟩,hb5⟩
    obtain⟨b10,c10,rfl,h100⟩:=qB UT 0 (by simp)
    have h101:=(Kd.jE (0:Int) UT 1 (by omega) (by simp)).1
    have Kv:=((Kd.bE UT).1 b10 (by simp[Value.ownBlock])).2
    have acd:=Kv.1
    have WE:=Kv.2.1
    have H71:=aa.mk ((hb5.cell (p:=⟨b7,0,none⟩) acb).trans hq0)
    have H72:=aa.mk ((hb5.cell (p:=⟨b7,1,none⟩) acb).trans hq1)
    have B75:=aa.mk (B7W.out.below hb5)
    have Tn:=aa.mk (B1W.out.below hb5)
    have P8:=aa.mk (Marks.move (λD hD=>(hb5.block D (Array.getElem?_eq_some_iff.1 hD).1).trans hD) TE.out)
    have HO5:=aa.mk (Kd.bV HOW.out hb5)
    have kv:=aa.mk (VH.out.trans (hb5.mono VH.out.size))
    have hs5:=hb5.size
    have HGC:=aa.mk (show ∃cells,W5.heap[go]?=some (.cells cells 3 (0,0)) by
     obtain⟨_,_,_,q,hq,cells,hk⟩:=(Kd.bE HO5.out).1 go (by simp[Value.ownBlock])
     have hq':q=3:=by simpa[show(Kd.int IntKind.i64).E=[] from rfl] using hq
     exact⟨cells,by rw[<- hq'];exact hk⟩)
    have HCA:=aa.mk (show kG ss P (d+1)=((kG ss P d).set X.1 (P d).1).set Y.1 (P d).2 by
     show(match iR ss (d:Int) ss.length with|[x,y]=>((kG ss P d).set x.1 (P d).1).set y.1 (P d).2|_=>kG ss P d)=_
     rw[HOF.out])
    have SV:=aa.mk h100
    have LG:=aa.mk h101
    clear UT hb5 Kv hq0 hq1 h100 h101 B7W B1W TE HOW VH B6W xN zk
    go_wp2_with (with_reducible refine wpIn_wide.2 ?_)
    go_loopw [48] (λv48 wc=>aa (bq W5.heap.size (λb=>b=go) W5 wc)/\((v48= .int .i64 0/\aa ((Kd.int .i64).R 3 wc w.heap.size (λk=>some k=some go) (.slice (some ⟨go,0,none⟩) ss.length co) (kG ss P d)))\/(v48= .int .i64 1/\aa ((Kd.int .i64).R 3 wc w.heap.size (λk=>some k=some go) (.slice (some ⟨go,0,none⟩) ss.length co) ((kG ss P d).set X.1 (P d).1)))\/(v48= .int .i64 2/\aa ((Kd.int .i64).R 3 wc w.heap.size (λk=>some k=some go) (.slice (some ⟨go,0,none⟩) ss.length co) (((kG ss P d).set X.1 (P d).1).set Y.1 (P d).2))))) (λv48 _=>2-(intOf v48).toNat)
    case atStart=>exact⟨⟨bq.refl _ _ _⟩,.inl ⟨rfl,HO5⟩⟩
    case round=>
     clear HO5
     obtain⟨Lr,h⟩:=hrel
     have h75:=(Lr.out.cell (p:=⟨g6+1,0,none⟩) B75.out.lt (by simp only;omega)).trans (B75.out.cell 0)
     simp only[List.getElem?_cons_zero] at h75
     have ao3:wr.cell? ⟨b7,0,none⟩=some (.int .i64 (X.1:Int)):=(Lr.out.cell (p:=⟨b7,0,none⟩) (by simp only;omega) (by simp only;omega)).trans H71.out
     have ao2:wr.cell? ⟨b7,1,none⟩=some (.int .i64 (Y.1:Int)):=(Lr.out.cell (p:=⟨b7,1,none⟩) (by simp only;omega) (by simp only;omega)).trans H72.out
     have h100:wr.cell? ⟨b10,0,none⟩=some (.int .i64 (P d).1):=(Lr.out.cell (p:=⟨b10,0,none⟩) (by simp only;omega) (by simp only;omega)).trans SV.out
     have h101:wr.cell? ⟨b10,1,none⟩=some (.int .i64 (P d).2):=(Lr.out.cell (p:=⟨b10,1,none⟩) (by simp only;omega) (by simp only;omega)).trans LG.out
     have hXi:(X.1:Int)<ss.length:=by omega
     have hYi:(Y.1:Int)<ss.length:=by omega
     rcases h with⟨rfl,HOr⟩|⟨rfl,HOr⟩|⟨rfl,HOr⟩
     .have WL:=(Kd.jE (0:Int) HOr.out (X.1:Int) (by omega) (by omega))
      simp only[Int.toNat_natCast] at WL
      obtain⟨YX,ach⟩:=WL
      have Xi:=aa.mk (Kd.uy HOr.out (X.1:Int) ((P d).1))
      simp only[Int.toNat_natCast] at Xi
      have HKn:=aa.mk (Lr.out.setCell (p:=⟨go,X.1,none⟩) (.inl rfl) (.int .i64 (P d).1))
      go_wp2_with (with_reducible refine wpIn_wide.2 ?_)
      exact⟨⟨HKn,.inr (.inl ⟨rfl,Xi⟩)⟩,by simp[intOf]⟩
     .have WL:=(Kd.jE (0:Int) HOr.out (Y.1:Int) (by omega) (by omega))
      simp only[Int.toNat_natCast] at WL
      obtain⟨YX,ach⟩:=WL
      have Xi:=aa.mk (Kd.uy HOr.out (Y.1:Int) ((P d).2))
      simp only[Int.toNat_natCast] at Xi
      have HKn:=aa.mk (Lr.out.setCell (p:=⟨go,Y.1,none⟩) (.inl rfl) (.int .i64 (P d).2))
      go_wp2_with (with_reducible refine wpIn_wide.2 ?_)
      exact⟨⟨HKn,.inr (.inr ⟨rfl,Xi⟩)⟩,by simp[intOf]⟩
     .go_wp2_with (with_reducible refine wpIn_wide.2 ?_)
      refine⟨⟨_,d+1,by omega,by have:=Lr.out.size;omega,⟨by rw[HCA.out];exact HOr.out⟩,⟨⟨Lr.out.os.trans kv.out.os,Lr.out.tape.trans kv.out.tape,Lr.out.output.trans kv.out.output,Nat.le_trans kv.out.size Lr.out.size,λk hk=>(Lr.out.block k (by have:=kv.out.size;omega) (by omega)).trans (kv.out.block k hk)⟩⟩,⟨Tn.out.move (Lr.out.block _ (by have:=kv.out.size;omega) (by omega))⟩,⟨Marks.move (λD hD=>(Lr.out.block D (Array.getElem?_eq_some_iff.1 hD).1 (λe=>by
       subst e
       obtain⟨cells,hc⟩:=HGC.out
       rw[hc] at hD
       cases hD)).trans hD) P8.out⟩,rfl⟩,?_⟩
      show old.length-(intOf (.int .i64 ((d:Int)+1))).toNat<old.length-(intOf (.int .i64 (d:Int))).toNat
      simp[intOf]
      omega
  .obtain rfl:d=old.length:=by omega
   go_wp2_with (with_reducible refine wpIn_wide.2 ?_)
   refine Marks.leaves (lo:=w.heap.size) (Inv:=λW=>Below w.heap.size w W/\(Kd.int .i64).R 3 W w.heap.size (λ_=>True) (.slice (some ⟨go,0,none⟩) ss.length co) (kG ss P old.length)) (λW D hlo hD hi=>?_) (λW hi=>?_) ds wr HM.out ⟨HB.out,Kd.bB HO.out (λ_ _=>trivial)⟩
   .refine⟨hi.1.grown (grownBy_putObj' W D _) hi.1.size (λk e=>by cases e;exact hlo),Kd.bB (Kd.yn (Kd.bE hi.2) (grownBy_putObj' W D _) (λk hk e=>?_)) (λ_ _=>trivial)⟩
    obtain⟨_,_,_,q,_,cells,hk'⟩:=hk
    cases e
    rw[hk'] at hD
    cases hD
   .refine⟨_,results_tmp rfl _ _ _,⟨.slice (some ⟨go,0,none⟩) ss.length co,?_,hi.2⟩,hi.1⟩
    rfl
end Go.Proofs.YtkjoilgpmngndaaGreat
