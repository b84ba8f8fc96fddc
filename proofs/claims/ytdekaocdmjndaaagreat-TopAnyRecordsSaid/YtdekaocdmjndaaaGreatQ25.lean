import Derived.Test.YtdekaocdmjndaaaGreatQ12
set_option linter.all false
namespace Go.Proofs.YtdekaocdmjndaaaGreat
open Go.RowKit Go.Shelf ah YtdekaocdmjndaaaGreatW.aj YtdekaocdmjndaaaGreatW.aH YtdekaocdmjndaaaGreatW.eu
attribute [local go_sem] Oper.semAt_some
def ca.T9:Bool×List (List Nat×List Nat):=(true,[([],[]),([],[]),([1],[1]),([2],[2]),([0,3],[0,3]),([],[]),([],[]),([6],[6]),([5,7,4],[5,7]),([4,8,0,1,2,3,4],[4]),([8,9,0,1,2,3,4,5,6,7,8,9],[8])])
def ca.B9:List Nat:=[0,0,2,6,15,0,0,64,255,511,1023]
theorem ca.Cr:eB .any (opsOf Tryz.f132 9)=ca.T9:=by kernel_rfl
theorem ca.uf:bI ca.T9.2 ca.B9=true:=by kernel_rfl
theorem Two.grown{base:Nat}{w w':World}{v1 v2:Value}{l1 l2:List Int}(h:Two base w v1 v2 l1 l2){row:Option Nat}(hg:w.grownBy w' row)(hr:∀r,row=some r->∃o,w.heap[r]?=some o/\o.isCells=false):Two base w' v1 v2 l1 l2:=by
 have key:∀{v:Value} {l:List Int},(Kd.int .i64).R 3 w base (λ_=>True) v l->(Kd.int .i64).R 3 w' base (λ_=>True) v l:=λh1=>
  Kd.bM (Kd.qH (Kd.bL h1) hg (λk hk e=>by
   obtain⟨o,ho,hc⟩:=hr k e.symm
   obtain⟨_,_,_,q,_,cells,hk'⟩:=hk
   rw[hk'] at ho
   cases ho
   cases hc)) (λ_ _=>trivial)
 exact⟨key h.r1,key h.r2,h.ne⟩
theorem Two.step{base:Nat}{w w':World}{v1 v2:Value}{l1 l2:List Int}(h:Two base w v1 v2 l1 l2)(hm:∀k,base<=k->k<w.heap.size->w'.heap[k]?=w.heap[k]?):Two base w' v1 v2 l1 l2:=by
 have key:∀{v:Value} {l:List Int},(Kd.int .i64).R 3 w base (λ_=>True) v l->(Kd.int .i64).R 3 w' base (λ_=>True) v l:=λh1=>
  Kd.bM (Kd.gz (Kd.bL h1) (λk hk hlt=>hm k hk.2.1 hlt)) (λ_ _=>trivial)
 exact⟨key h.r1,key h.r2,h.ne⟩
theorem Eu{base:Nat}{w w':World}{v:Value}{l:List Int}(h:(Kd.int .i64).R 3 w base (λ_=>True) v l)(hg:w.grownBy w' v.ownBlock):KeepsOthers w w':=
 KeepsOthers.of_grownBy hg (λj o e ho=>by
  obtain⟨_,_,_,q,_,cells,hk⟩:=(Kd.bL h).1 j e
  rw[hk] at ho
  cases ho
  rfl)
structure JM(base:Nat)(wd w:World)(g6 g7 g9:Nat)(v6 v7 u6 u7:Value)(l6 l7:List Int)(cs:List Value):Prop where
 two:Two base w u6 u7 l6 l7
 b:Below base wd w
 ko:KeepsOthers wd w
 b6:aV w g6 [v6] 30
 b7:aV w g7 [v7] 30
 b9:aV w g9 cs 142
 Yd:g6<base
 lt7:g7<base
 hs:base<=w.heap.size
theorem JM.alloc{base:Nat}{wd w:World}{g6 g7 g9:Nat}{v6 v7 u6 u7:Value}{l6 l7:List Int}{cs:List Value}(h:JM base wd w g6 g7 g9 v6 v7 u6 u7 l6 l7 cs)(o:Obj):JM base wd (w.alloc o) g6 g7 g9 v6 v7 u6 u7 l6 l7 cs:=
 ⟨h.two.below (ae (Below.refl _ _) o),h.b.alloc h.hs o,h.ko.trans (KeepsOthers.alloc w o),h.b6.alloc o,h.b7.alloc o,h.b9.alloc o,h.Yd,h.lt7,Nat.le_trans h.hs (Nat.le_of_lt (size_alloc w o))⟩
theorem JM.XX{base:Nat}{w:World}{g9:Nat}{v:Value}{l:List Int}{cs:List Value}(h:(Kd.int .i64).R 3 w base (λ_=>True) v l)(b9:aV w g9 cs 142):some g9≠v.ownBlock:=λe=>by
 obtain⟨_,_,_,q,hq,cells,hk⟩:=(Kd.bL h).1 g9 e.symm
 rw[show w.heap[g9]?=some (.cells cs.toArray 142 (0,0)) from b9] at hk
 have hq':q=3:=by simpa[show(Kd.int IntKind.i64).E=[] from rfl] using hq
 subst hq'
 cases hk
theorem JM.app1{base:Nat}{wd w w1:World}{g6 g7 g9:Nat}{v6 v7 u6 u7 v:Value}{l6 l7 l:List Int}{cs:List Value}(h:JM base wd w g6 g7 g9 v6 v7 u6 u7 l6 l7 cs)(hon:(Kd.int .i64).R 3 w1 base (λ_=>True) v l)(hbn:Below base w w1)(hgn:w.grownBy w1 u6.ownBlock)(hat:v.ownBlock=u6.ownBlock\/∃b,v.ownBlock=some b/\w.heap.size<=b):JM base wd w1 g6 g7 g9 v6 v7 v u7 l l7 cs:=
 ⟨h.two.app1 hon hgn hat,h.b.trans hbn,h.ko.trans (Eu h.two.r1 hgn),h.b6.move (hbn.block _ h.Yd),h.b7.move (hbn.block _ h.lt7),h.b9.move (hgn.block _ h.b9.lt (JM.XX h.two.r1 h.b9)),h.Yd,h.lt7,Nat.le_trans h.hs hbn.size⟩
theorem JM.OX{base:Nat}{wd w w1:World}{g6 g7 g9:Nat}{v6 v7 u6 u7 v:Value}{l6 l7 l:List Int}{cs:List Value}(h:JM base wd w g6 g7 g9 v6 v7 u6 u7 l6 l7 cs)(hon:(Kd.int .i64).R 3 w1 base (λ_=>True) v l)(hbn:Below base w w1)(hgn:w.grownBy w1 u7.ownBlock)(hat:v.ownBlock=u7.ownBlock\/∃b,v.ownBlock=some b/\w.heap.size<=b):JM base wd w1 g6 g7 g9 v6 v7 u6 v l6 l cs:=
 ⟨h.two.OX hon hgn hat,h.b.trans hbn,h.ko.trans (Eu h.two.r2 hgn),h.b6.move (hbn.block _ h.Yd),h.b7.move (hbn.block _ h.lt7),h.b9.move (hgn.block _ h.b9.lt (JM.XX h.two.r2 h.b9)),h.Yd,h.lt7,Nat.le_trans h.hs hbn.size⟩
theorem Es{base:Nat}{w w1:World}{v:Value}{l:List Int}{b:Nat}{x:Value}(h:(Kd.int .i64).R 3 w base (λ_=>True) v l)(hb:aV w b [x] 3)(hg:w.grownBy w1 v.ownBlock)(hne:some b≠v.ownBlock):w1.cell? ⟨b,0,none⟩=some x:=
 (hb.move (hg.block b hb.lt hne):aV w1 b [x] 3).cell 0
theorem sK{w:World}{g:Nat}{x:Int}(h:w.cell? ⟨g,0,none⟩=some (.int .i64 x)):(Kd.int .i64).C w (some ⟨g,0,none⟩) 1 [x]:=by
 refine⟨rfl,by omega,λ_=>⟨_,rfl,λj p hj=>?_⟩⟩
 obtain rfl:j=0:=by
  rcases Nat.eq_zero_or_pos j with e|e
  .exact e
  .rw[List.getElem?_eq_none (by simp only[List.length_cons,List.length_nil];omega)] at hj
   cases hj
 simp only[List.getElem?_cons_zero,Option.some.injEq] at hj
 subst hj
 exact⟨[.int .i64 x],rfl,rfl,λk u hk=>by
  cases k with
  |zero=>simp only[List.getElem?_cons_zero,Option.some.injEq] at hk;subst hk;simpa[Addr.add] using h
  |succ k=>simp at hk⟩
structure Si(w4 W:World)(g6 g7:Nat)(v6 v7:Value)(l6 l7:List Int):Prop where
 b6:aV W g6 [v6] 30
 b7:aV W g7 [v7] 30
 two:Two w4.heap.size W v6 v7 l6 l7
 keep:aY w4.heap.size (λb=>b=g6\/b=g7) w4 W
 mks:gQ w4 W
theorem Si.own{w4 W W':World}{g6 g7:Nat}{v6 v7:Value}{l6 l7:List Int}(h:Si w4 W g6 g7 v6 v7 l6 l7)(h6:g6<w4.heap.size)(h7:g7<w4.heap.size){row:Option Nat}(hg:W.grownBy W' row)(hr:∀r,row=some r->w4.heap.size<=r/\∃o:Obj,W.heap[r]?=some o/\o.isCells=false):Si w4 W' g6 g7 v6 v7 l6 l7:=
 have hr':=λr e=>(hr r e).1
 ⟨h.b6.kept (B:=w4.heap.size) h6 hg hr',h.b7.kept (B:=w4.heap.size) h7 hg hr',h.two.grown hg (λr e=>(hr r e).2),⟨hg.os.trans h.keep.os,hg.tape.trans h.keep.tape,hg.output.trans h.keep.output,Nat.le_trans h.keep.size hg.size,λk hk hs=>(hg.block k (by have:=h.keep.size;omega) (λe=>by have:=hr' k e.symm;omega)).trans (h.keep.block k hk hs)⟩,h.mks.kept (Nat.le_refl _) hg hr'⟩
def Jt(old:List Int)(ss:List eY)(P:Nat->Int×Int):Prop:=∀d:Nat,d<old.length->∃x y:IS,nV ss (d:Int) ss.length=[x,y]/\x.1<ss.length/\y.1<ss.length/\x.1≠y.1/\∃s q0 q1 r0 r1 left,JL x.2.f2 y.2.f2 (rd old (d:Int)) s q0 q1 r0 r1 left (P d).1 (P d).2
def jB(ss:List eY)(P:Nat->Int×Int):Nat->List Int
 |0=>List.replicate ss.length 0
 |k+1=>match nV ss (k:Int) ss.length with
  |[x,y]=>((jB ss P k).set x.1 (P k).1).set y.1 (P k).2
  |_=>jB ss P k
theorem xu(ss:List eY)(P:Nat->Int×Int):∀k,(jB ss P k).length=ss.length
 |0=>by simp[jB]
 |k+1=>by
  unfold jB
  split
  .rw[List.length_set,List.length_set,xu ss P k]
  .exact xu ss P k
set_option maxRecDepth 100000 in
set_option maxHeartbeats 40000000 in
theorem tZ{A0:Option Addr}{c0:Nat}{old:List Int}{nw:Int}{A2:Option Addr}{c2:Nat}{ss:List eY}{A3:Option Addr}{c3:Nat}{js:List jU}{w:World}(h:RS w A0 c0 old A2 c2 ss A3 c3 js)(hss:ss.length<=8)(hs0:0<ss.length)(Yq:old.length<=4)(hst:∀s ∈ ss,wF old.length nw s)(P:Nat->Int×Int)(hP:Jt old ss P):
  Calls Tryz.prog 132 #[.agg #[.slice A0 old.length c0,.int .i64 nw,.slice A2 ss.length c2,.slice A3 js.length c3]] w λe w'=>(∃v,e= .returned v/\(Kd.int .i64).R 3 w' w.heap.size (λ_=>True) v (jB ss P old.length))/\Below w.heap.size w w':=by
 have H:=aa.mk h
 have HP:=aa.mk hP
 have HST:=aa.mk hst
 have hb2:=h.b2
 clear h hP hst
 refine(callsIn_wide (n:=9)).1 (bV Tryz.func132 rfl trivial ?_ rfl)
 simp only[Tryz.ntmps132,List.size_toArray,List.length_cons,List.length_nil,Nat.reduceAdd,Nat.reduceSub,Array.replicate_succ,Array.replicate_zero,List.push_toArray,List.append_toArray,List.nil_append,List.cons_append]
 refine wpIn_wide.2 ?_
 have HB0:=aa.mk (ae (Below.refl w.heap.size w) (.cells #[.slice A0 old.length c0,.int .i64 nw,.slice A2 ss.length c2,.slice A3 js.length c3] 146))
 have B10:=aa.mk (aV.new w [.slice A0 old.length c0,.int .i64 nw,.slice A2 ss.length c2,.slice A3 js.length c3] 146)
 have hsz0:w.heap.size<(w.alloc (.cells #[.slice A0 old.length c0,.int .i64 nw,.slice A2 ss.length c2,.slice A3 js.length c3] 146)).heap.size:=by simp
 go_wp2_with (first|(with_reducible refine wpIn_wide.2 ?_)|((with_reducible refine dM (N:=17) rfl ?_);refine Kd.Ik (Kd.int .i64) (w0:=w) w.heap.size 3 rfl rfl 30 (.tmp 16) (.tmp 16) rfl (ss.length:Int) rfl rfl Tryz.underlying30 (.int .i64 0) 8 info3 rfl (by decide) (by decide) (0:Int) (ok:=λ_=>True) (okp:=λ_=>False) rfl (λ_ h=>h.elim) trivial (by omega) (by simp only[Int.toNat_natCast];omega) HB0.out (by omega) ?_;intro vo w1 hon hbn hgn iP;simp only[Int.toNat_natCast] at hon;have DD:=aa.mk hon;have HB1:=aa.mk hbn;have B11:=aa.mk (B10.out.move (hgn.block _ (by omega) (λe=>by cases e)));have h10:=B11.out.cell 0;simp only[List.getElem?_cons_zero] at h10;obtain⟨go,co,rfl,_⟩:=oU DD.out 0 (by simp only[List.length_replicate];omega);clear hon hbn hgn iP))
 have hgo:=(Kd.bL DD.out).1 go (by simp[Value.ownBlock])
 have Yz:w.heap.size<go:=by
  rcases Nat.lt_or_ge w.heap.size go with h|h
  .exact h
  .exfalso
   obtain rfl:go=w.heap.size:=by have:=hgo.2.1;omega
   obtain⟨_,_,_,q,hq,cells,hk⟩:=hgo
   rw[show w1.heap[w.heap.size]?=_ from B11.out] at hk
   have hq':q=3:=by simpa[show(Kd.int IntKind.i64).E=[] from rfl] using hq
   subst hq'
   cases hk
 have KU:=hgo.2.2.1
 have HO:=aa.mk (show(Kd.int .i64).R 3 w1 w.heap.size (λk=>some k=some go) (.slice (some ⟨go,0,none⟩) ss.length co) (jB ss P 0) by
  have hx:=Kd.wG rfl DD.out
  simp only[List.length_replicate,Value.ownBlock] at hx
  exact hx)
 clear HB0 B10 hsz0 DD hgo h10
 refine wp_loop (λa' wr=>∃(ds:List Deferred) (d:Nat),d<=old.length/\go<wr.heap.size/\aa ((Kd.int .i64).R 3 wr w.heap.size (λk=>some k=some go) (.slice (some ⟨go,0,none⟩) ss.length co) (jB ss P d))/\aa (Below w.heap.size w wr)/\aa (aV wr w.heap.size [.slice A0 old.length c0,.int .i64 nw,.slice A2 ss.length c2,.slice A3 js.length c3] 146)/\aa (Marks w.heap.size wr ds)/\a'={tmps:=#[.agg #[.slice A0 old.length c0,.int .i64 nw,.slice A2 ss.length c2,.slice A3 js.length c3],.pointer (some ⟨w.heap.size,0,none⟩),.slice none 0 0,.slice (some ⟨go,0,none⟩) ss.length co,a'.tmps.getD 4 undef,a'.tmps.getD 5 undef,a'.tmps.getD 6 undef,a'.tmps.getD 7 undef,a'.tmps.getD 8 undef,a'.tmps.getD 9 undef,a'.tmps.getD 10 undef,a'.tmps.getD 11 undef,a'.tmps.getD 12 undef,a'.tmps.getD 13 undef,.pointer (some ⟨w.heap.size,2,none⟩),.slice A2 ss.length c2,.int .i64 (ss.length:Int),.slice (some ⟨go,0,none⟩) ss.length co,.pointer (some ⟨w.heap.size,0,none⟩),.slice A0 old.length c0,.int .i64 (old.length:Int),.int .i64 (d:Int),a'.tmps.getD 22 undef,a'.tmps.getD 23 undef,a'.tmps.getD 24 undef,a'.tmps.getD 25 undef,a'.tmps.getD 26 undef,a'.tmps.getD 27 undef,a'.tmps.getD 28 undef,a'.tmps.getD 29 undef,a'.tmps.getD 30 undef,a'.tmps.getD 31 undef,a'.tmps.getD 32 undef,a'.tmps.getD 33 undef,a'.tmps.getD 34 undef,a'.tmps.getD 35 undef,a'.tmps.getD 36 undef,a'.tmps.getD 37 undef,a'.tmps.getD 38 undef,a'.tmps.getD 39 undef,a'.tmps.getD 40 undef,a'.tmps.getD 41 undef,a'.tmps.getD 42 undef,a'.tmps.getD 43 undef,a'.tmps.getD 44 undef,a'.tmps.getD 45 undef,a'.tmps.getD 46 undef,a'.tmps.getD 47 undef,a'.tmps.getD 48 undef,a'.tmps.getD 49 undef,a'.tmps.getD 50 undef,a'.tmps.getD 51 undef,a'.tmps.getD 52 undef,a'.tmps.getD 53 undef,a'.tmps.getD 54 undef,a'.tmps.getD 55 undef,a'.tmps.getD 56 undef,a'.tmps.getD 57 undef,a'.tmps.getD 58 undef,a'.tmps.getD 59 undef,a'.tmps.getD 60 undef,a'.tmps.getD 61 undef,a'.tmps.getD 62 undef],defers:=ds}) (λa' _=>old.length-(intOf (a'.tmps.getD 21 undef)).toNat) ?start ?round
 case start=>exact⟨[],0,Nat.zero_le _,KU,HO,HB1,B11,⟨trivial⟩,rfl⟩
 case round=>
  clear HB1 B11 HO KU
  rintro a' wr ⟨ds,d,hd,KU,HO,HB,B1,HM,hfr⟩
  obtain⟨u,hu⟩:∃u:Nat->Value,a'={tmps:=#[.agg #[.slice A0 old.length c0,.int .i64 nw,.slice A2 ss.length c2,.slice A3 js.length c3],.pointer (some ⟨w.heap.size,0,none⟩),.slice none 0 0,.slice (some ⟨go,0,none⟩) ss.length co,(u 4),(u 5),(u 6),(u 7),(u 8),(u 9),(u 10),(u 11),(u 12),(u 13),.pointer (some ⟨w.heap.size,2,none⟩),.slice A2 ss.length c2,.int .i64 (ss.length:Int),.slice (some ⟨go,0,none⟩) ss.length co,.pointer (some ⟨w.heap.size,0,none⟩),.slice A0 old.length c0,.int .i64 (old.length:Int),.int .i64 (d:Int),(u 22),(u 23),(u 24),(u 25),(u 26),(u 27),(u 28),(u 29),(u 30),(u 31),(u 32),(u 33),(u 34),(u 35),(u 36),(u 37),(u 38),(u 39),(u 40),(u 41),(u 42),(u 43),(u 44),(u 45),(u 46),(u 47),(u 48),(u 49),(u 50),(u 51),(u 52),(u 53),(u 54),(u 55),(u 56),(u 57),(u 58),(u 59),(u 60),(u 61),(u 62)],defers:=ds}:=⟨λi=>a'.tmps.getD i undef,hfr⟩
  clear hfr
  subst hu
  dsimp only
  by_cases hlt:d<old.length
  .have hg1:=B1.out.lt
   have h10:=B1.out.cell 0
   have h11:=B1.out.cell 1
   have h12:=B1.out.cell 2
   have uS:=B1.out.cell 3
   simp only[dZ,dY] at h10 h11 h12 uS
   obtain⟨ad,e,hx⟩:=Kd.gu (H.out.below HB.out).UZ (d:Int) (by omega) (by omega)
   cases e
   simp only[Int.toNat_natCast] at hx
   obtain⟨X,Y,hof,hX,hY,hXY,s_,q0_,q1_,r0_,r1_,lf_,hdiv⟩:=HP.out d hlt
   have HOF:=aa.mk hof
   have HDV:=aa.mk hdiv
   clear hof hdiv
   obtain⟨cnt,hcnt⟩:∃x,rd old (d:Int)=x:=⟨_,rfl⟩
   rw[hcnt] at hx HDV
   clear hcnt
   go_wp2_with (with_reducible refine wpIn_wide.2 ?_)
   have HBa:=aa.mk (ae (ae HB.out (.cells #[.slice none 0 0] 30)) (.cells #[.slice none 0 0] 30))
   have B1a:=aa.mk ((B1.out.alloc (.cells #[.slice none 0 0] 30)).alloc (.cells #[.slice none 0 0] 30))
   have B6a:=aa.mk ((aV.new wr [.slice none 0 0] 30).alloc (.cells #[.slice none 0 0] 30))
   have B7a:=aa.mk (aV.second wr (.cells #[.slice none 0 0] 30) [.slice none 0 0] 30)
   have HMa:=aa.mk ((HM.out.alloc (.cells #[.slice none 0 0] 30)).alloc (.cells #[.slice none 0 0] 30))
   have HOa:=aa.mk (Kd.bH (Kd.bH HO.out (.cells #[.slice none 0 0] 30)) (.cells #[.slice none 0 0] 30))
   have hsa:wr.heap.size+1<((wr.alloc (.cells #[.slice none 0 0] 30)).alloc (.cells #[.slice none 0 0] 30)).heap.size:=by simp
   clear HB B1 HM HO h10 h11 h12 uS hx
   generalize(wr.alloc (.cells #[.slice none 0 0] 30)).alloc (.cells #[.slice none 0 0] 30)=wa at HBa B1a B6a B7a HMa HOa hsa ⊢
   generalize wr.heap.size=g6 at B6a B7a hsa hg1 KU ⊢
   refine((callsIn_wide (n:=8)).1 (Sz Fence.wide 8 trivial rfl _ _ _ _ _ rfl rfl rfl rfl wa)).mono ?_
   rintro e w4 ⟨rfl,rfl⟩
   have pY:=aa.mk (ae (ae HBa.out (.cells #[.slice (some ad) old.length c0,.int .i64 nw,.slice A2 ss.length c2,.slice A3 js.length c3] 146)) (.cells #[.int .i64 (d:Int)] 3))
   have IJ:=aa.mk ((B1a.out.alloc (.cells #[.slice (some ad) old.length c0,.int .i64 nw,.slice A2 ss.length c2,.slice A3 js.length c3] 146)).alloc (.cells #[.int .i64 (d:Int)] 3))
   have B64:=aa.mk ((B6a.out.alloc (.cells #[.slice (some ad) old.length c0,.int .i64 nw,.slice A2 ss.length c2,.slice A3 js.length c3] 146)).alloc (.cells #[.int .i64 (d:Int)] 3))
   have B74:=aa.mk ((B7a.out.alloc (.cells #[.slice (some ad) old.length c0,.int .i64 nw,.slice A2 ss.length c2,.slice A3 js.length c3] 146)).alloc (.cells #[.int .i64 (d:Int)] 3))
   have TI:=aa.mk ((HMa.out.alloc (.cells #[.slice (some ad) old.length c0,.int .i64 nw,.slice A2 ss.length c2,.slice A3 js.length c3] 146)).alloc (.cells #[.int .i64 (d:Int)] 3))
   have HO4:=aa.mk (Kd.bH (Kd.bH HOa.out (.cells #[.slice (some ad) old.length c0,.int .i64 nw,.slice A2 ss.length c2,.slice A3 js.length c3] 146)) (.cells #[.int .i64 (d:Int)] 3))
   have FX:=aa.mk ((aV.new wa [.slice (some ad) old.length c0,.int .i64 nw,.slice A2 ss.length c2,.slice A3 js.length c3] 146).alloc (.cells #[.int .i64 (d:Int)] 3))
   have FH:=aa.mk (aV.second wa (.cells #[.slice (some ad) old.length c0,.int .i64 nw,.slice A2 ss.length c2,.slice A3 js.length c3] 146) [.int .i64 (d:Int)] 3)
   have hsz:((wa.alloc (.cells #[.slice (some ad) old.length c0,.int .i64 nw,.slice A2 ss.length c2,.slice A3 js.length c3] 146)).alloc (.cells #[.int .i64 (d:Int)] 3)).heap.size=wa.heap.size+1+1:=by simp
   clear HBa B1a B6a B7a HMa HOa
   generalize(wa.alloc (.cells #[.slice (some ad) old.length c0,.int .i64 nw,.slice A2 ss.length c2,.slice A3 js.length c3] 146)).alloc (.cells #[.int .i64 (d:Int)] 3)=w4 at pY IJ B64 B74 TI HO4 FX FH hsz ⊢
   obtain⟨gx,hgx⟩:∃gx,wa.heap.size=gx:=⟨_,rfl⟩
   rw[hgx] at FX FH hsz hsa ⊢
   clear hgx
   have HC:=aa.mk (H.out.below pY.out)
   have hlo:=yX H.out.UY
   go_wp2_with (with_reducible refine wpIn_wide.2 ?_)
   refine(wpIn_wide (n:=9)).1 ?_
   refine Eh (gm:=gx) (gn:=gx+1) (by decide) (by decide) rfl (n₀:=w4.heap.size) (S:=λb=>b=g6\/b=g6+1) (u0:= .slice (some ad) old.length c0) (u1:= .int .i64 nw) (u3:= .slice A3 js.length c3) (A2:=A2) (c2:=c2) (ss:=ss) (old:=(d:Int)) hb2 (Nat.le_refl _) ?reads
    (λt x=>(t.setIfInBounds 29 (.int .i64 (x.1:Int))).setIfInBounds 30 (encS x.2)) (λt x g=>(((t.setIfInBounds 29 (.int .i64 (x.1:Int))).setIfInBounds 30 (encS x.2)).setIfInBounds 8 (.int .i64 (x.1:Int))).setIfInBounds 9 (.pointer (some ⟨g,0,none⟩))) (λt x=>Qa t 29 30 _ _)
    (λpre W=>aa (∃v6 v7,Si w4 W g6 (g6+1) v6 v7 (pre.map (λx=>x.2.f2)) (pre.map (λx=>(x.1:Int))))) ?own (λxs W hi=>by obtain⟨_,_,hc⟩:=hi.out;exact hc.keep.size) ⟨⟨_,_,B64.out,B74.out,Two.nil _ _,aY.refl _ _ _,gQ.refl _⟩⟩ ?assign ?body ?done
   case reads=>exact⟨FX.out,by simpa using FH.out.cell 0,HC.out.UY,⟨by omega,by omega⟩,⟨by omega,by omega⟩,λh0 ad e=>⟨by have:=hlo h0 ad e;omega,by have:=hlo h0 ad e;omega⟩⟩
   case own=>
    rintro xs W W' row ⟨v6,v7,hi⟩ hg hr
    exact⟨⟨v6,v7,hi.own (by omega) (by omega) hg hr⟩⟩
   case assign=>
    intro l x W K hx hK
    clear hx hX hY hXY hg1 Yz KU hsz hsa hlt hd hlo pY IJ B64 B74 TI HO4 FX FH HC
    simp only[sb0,sb1,bR,cellsS,encS] at hK ⊢
    gi_wp2_with fail
    exact hK
   case body=>
    rintro l pre x g W hx hlen ⟨v6,v7,hi⟩ hg hBg
    simp only[sb0,sb1,bR,encS]
    have HI:=aa.mk hi
    have HG:=aa.mk hBg
    have hws:=hi.keep.size
    have aif:(pre.map (λx:IS=>x.2.f2)).length<=8:=by rw[List.length_map];omega
    have aie:(pre.map (λx:IS=>(x.1:Int))).length<=8:=by rw[List.length_map];omega
    clear hi hBg
    gi_wp2_with fail
    refine mE (by rintro⟨_,_,h⟩;exact h) (by kernel_rfl) (n:=11) (S:=λw'=>w'.cell? ⟨g6,0,none⟩=some v6/\w'.cell? ⟨g,2,none⟩=some (.int .i64 x.2.f2)/\w'.cell? ⟨g6+1,0,none⟩=some v7) (ds:=[8,9,10]) #[O,O,O,O,O,O,O,O,O,O,O] (by kernel_rfl) rfl rfl ⟨(by simpa using HI.out.b6.cell 0),(by simpa[cellsS] using HG.out.cell 2),(by simpa using HI.out.b7.cell 0)⟩ (λhHeld=>?_);refine bG ca.Cr ca.uf (λau cz=>?_)
    have HS:=aa.mk (JM.mk (base:=w4.heap.size) (HI.out.two.below (aN (Below.refl _ _))) (aN (Below.refl _ W)) ⟨Nat.le_refl _,λ_ _ h _=>h⟩ (HI.out.b6.move rfl:aV W.drew _ _ _) (HI.out.b7.move rfl:aV W.drew _ _ _) (HG.out.move rfl:aV W.drew _ _ _) (by omega) (by omega) hws)
    generalize W.drew=wd at HS hHeld ⊢
    refine fJ 0 31 #[I,O,O,O,O,O,O,O,O,O,O] au cz hHeld (hy:=by(rintro w' ⟨s0,s1,s2⟩;go_simp;with_reducible rfl)) (h:=?_)
    refine bq 1 32 #[I,I,O,O,O,O,O,O,O,O,O] au (h:=?_)
    refine fJ 2 33 #[I,I,I,O,O,O,O,O,O,O,O] au cz hHeld (hy:=by(rintro w' ⟨s0,s1,s2⟩;go_simp;with_reducible rfl)) (h:=?_)
    refine fJ 5 36 #[I,I,I,O,O,I,O,O,O,O,O] au cz hHeld (hy:=by(rintro w' ⟨s0,s1,s2⟩;go_simp;with_reducible rfl)) (h:=?_)
    refine bq 6 37 #[I,I,I,O,O,I,I,O,O,O,O] au (h:=?_)
    refine gD (σ:=Value×Nat×Nat) 3 #[I,I,I,I,I,I,I,I,O,O,O] (λs=>[(34,.slice (some ⟨s.2.1,0,none⟩) 1 1),(35,s.1),(38,.slice (some ⟨s.2.2,0,none⟩) 1 1)]) (λs w'=>JM w4.heap.size W w' g6 (g6+1) g v6 v7 s.1 v7 (pre.map (λx:IS=>x.2.f2)++[x.2.f2]) (pre.map (λx:IS=>(x.1:Int))) (cellsS x.2)/\w'.cell? ⟨s.2.2,0,none⟩=some (.int .i64 (x.1:Int))) ?cont ?orders
    case orders=>
     intro hcont
     refine tF (i:=3) (j:=7) (Ni:=some 34) (Nj:=some 38) #[I,I,I,I,O,I,I,O,O,O,O] #[I,I,I,O,O,I,I,I,O,O,O] rfl rfl rfl rfl (jL au.out (by kernel_rfl)) (by decide) (by decide) (λK hK=>?_) (λK hK=>?_)
     .refine bD (w1:=?_) (v:=?_) (by rfl) rfl ?_ ?_
      rotate_left 2
      .go_simp
       constructor<;>rfl
      refine hK.out _ _ ⟨(by simpa using (HS.out.alloc (.cells #[.int .i64 x.2.f2] 3)).b6.cell 0),(by simpa[cellsS] using (HS.out.alloc (.cells #[.int .i64 x.2.f2] 3)).b9.cell 2),(by simpa using (HS.out.alloc (.cells #[.int .i64 x.2.f2] 3)).b7.cell 0)⟩ (λHl=>?_)
      clear hK K
      have yK:=aa.mk (HS.out.alloc (.cells #[.int .i64 x.2.f2] 3))
      have B3:=aa.mk (aV.new wd [.int .i64 x.2.f2] 3)
      refine j4 ?_
      generalize wd.alloc (.cells #[.int .i64 x.2.f2] 3)=w3 at yK B3 Hl ⊢
      generalize wd.heap.size=b3 at B3 ⊢
      refine tF (i:=4) (j:=7) (Ni:=some 35) (Nj:=some 38) #[I,I,I,I,I,I,I,O,O,O,O] #[I,I,I,I,O,I,I,I,O,O,O] rfl rfl rfl rfl (jL au.out (by kernel_rfl)) (by decide) (by decide) (λK hK=>?_) (λK hK=>?_)
      .refine Kd.gX (Kd.int .i64) (w0:=w3) w4.heap.size (by rfl) (.tmp 31) (.tmp 34) 30 3 (.int .i64 0) 8 rfl Tryz.underlying30 info3 rfl (by decide) (by omega) v6 (pre.map (λx:IS=>x.2.f2)) [x.2.f2] (some ⟨b3,0,none⟩) 1 1 (λ_=>True) (λ_=>False) rfl rfl yK.out.two.r1 (sK (by simpa using B3.out.cell 0)) (λx cs h=>h) (λ_ hk=>hk.elim) (λ_ _=>trivial) (Below.refl _ _) yK.out.hs (by omega) ?_
       intro v w_ hon hbn hgn iP
       have yw:=aa.mk (yK.out.app1 hon hbn hgn iP)
       refine hK.out _ _ ⟨(by simpa using yw.out.b6.cell 0),(by simpa[cellsS] using yw.out.b9.cell 2),(by simpa using yw.out.b7.cell 0)⟩ (λ_=>?_)
       clear hK K hon hbn hgn iP
       refine j4 ?_
       refine gB (i:=7) (N:=some 38) #[I,I,I,I,I,I,I,I,O,O,O] rfl rfl (aM au.out (by kernel_rfl)) (by decide) (λK hK=>?_)
       refine bD (w1:=?_) (v:=?_) (by rfl) rfl ?_ ?_
       rotate_left 2
       .go_simp
        constructor<;>rfl
       refine hK.out _ _ ⟨(by simpa using (yw.out.alloc (.cells #[.int .i64 (x.1:Int)] 3)).b6.cell 0),(by simpa[cellsS] using (yw.out.alloc (.cells #[.int .i64 (x.1:Int)] 3)).b9.cell 2),(by simpa using (yw.out.alloc (.cells #[.int .i64 (x.1:Int)] 3)).b7.cell 0)⟩ (λ_=>?_)
       clear hK K
       have hfin:=hcont (v,b3,w_.heap.size) _ ⟨yw.out.alloc (.cells #[.int .i64 (x.1:Int)] 3),(by simpa using (aV.new w_ [.int .i64 (x.1:Int)] 3).cell 0)⟩
       refine aW ?_ hfin
       (simp only[aK,Act.put,sb0,sb1,bR])<;>rfl
      .refine bD (w1:=?_) (v:=?_) (by rfl) rfl ?_ ?_
       rotate_left 2
       .go_simp
        constructor<;>rfl
       refine hK.out _ _ ⟨(by simpa using (yK.out.alloc (.cells #[.int .i64 (x.1:Int)] 3)).b6.cell 0),(by simpa[cellsS] using (yK.out.alloc (.cells #[.int .i64 (x.1:Int)] 3)).b9.cell 2),(by simpa using (yK.out.alloc (.cells #[.int .i64 (x.1:Int)] 3)).b7.cell 0)⟩ (λ_=>?_)
       clear hK K
       have yw:=aa.mk (yK.out.alloc (.cells #[.int .i64 (x.1:Int)] 3))
       replace B3:=aa.mk (B3.out.alloc (.cells #[.int .i64 (x.1:Int)] 3))
       have Mc:=aa.mk (aV.new w3 [.int .i64 (x.1:Int)] 3)
       refine j4 ?_
       have hx7:some w3.heap.size≠v6.ownBlock:=λe=>by have:=(Kd.bL yK.out.two.r1).1 _ e.symm;omega
       generalize w3.alloc (.cells #[.int .i64 (x.1:Int)] 3)=w5 at yw B3 Mc ⊢
       generalize w3.heap.size=b7 at Mc hx7 ⊢
       refine gB (i:=4) (N:=some 35) #[I,I,I,I,I,I,I,I,O,O,O] rfl rfl (aM au.out (by kernel_rfl)) (by decide) (λK hK=>?_)
       refine Kd.gX (Kd.int .i64) (w0:=w5) w4.heap.size (by rfl) (.tmp 31) (.tmp 34) 30 3 (.int .i64 0) 8 rfl Tryz.underlying30 info3 rfl (by decide) (by omega) v6 (pre.map (λx:IS=>x.2.f2)) [x.2.f2] (some ⟨b3,0,none⟩) 1 1 (λ_=>True) (λ_=>False) rfl rfl yw.out.two.r1 (sK (by simpa using B3.out.cell 0)) (λx cs h=>h) (λ_ hk=>hk.elim) (λ_ _=>trivial) (Below.refl _ _) yw.out.hs (by omega) ?_
       intro v w_ hon hbn hgn iP
       have RV:=aa.mk (yw.out.app1 hon hbn hgn iP)
       have hc7:=Es yw.out.two.r1 Mc.out hgn hx7
       refine hK.out _ _ ⟨(by simpa using RV.out.b6.cell 0),(by simpa[cellsS] using RV.out.b9.cell 2),(by simpa using RV.out.b7.cell 0)⟩ (λ_=>?_)
       clear hK K hon hbn hgn iP
       have hfin:=hcont (v,b3,b7) _ ⟨RV.out,hc7⟩
       refine aW ?_ hfin
       (simp only[aK,Act.put,sb0,sb1,bR])<;>rfl
     .refine bD (w1:=?_) (v:=?_) (by rfl) rfl ?_ ?_
      rotate_left 2
      .go_simp
       constructor<;>rfl
      refine hK.out _ _ ⟨(by simpa using (HS.out.alloc (.cells #[.int .i64 (x.1:Int)] 3)).b6.cell 0),(by simpa[cellsS] using (HS.out.alloc (.cells #[.int .i64 (x.1:Int)] 3)).b9.cell 2),(by simpa using (HS.out.alloc (.cells #[.int .i64 (x.1:Int)] 3)).b7.cell 0)⟩ (λHl=>?_)
      clear hK K
      have yK:=aa.mk (HS.out.alloc (.cells #[.int .i64 (x.1:Int)] 3))
      have Mc:=aa.mk (aV.new wd [.int .i64 (x.1:Int)] 3)
      refine j4 ?_
      have hx7:some wd.heap.size≠v6.ownBlock:=λe=>by have:=(Kd.bL HS.out.two.r1).1 _ e.symm;omega
      generalize wd.alloc (.cells #[.int .i64 (x.1:Int)] 3)=w3 at yK Mc Hl ⊢
      generalize wd.heap.size=b7 at Mc hx7 ⊢
      refine gB (i:=3) (N:=some 34) #[I,I,I,I,O,I,I,I,O,O,O] rfl rfl (aM au.out (by kernel_rfl)) (by decide) (λK hK=>?_)
      refine bD (w1:=?_) (v:=?_) (by rfl) rfl ?_ ?_
      rotate_left 2
      .go_simp
       constructor<;>rfl
      refine hK.out _ _ ⟨(by simpa using (yK.out.alloc (.cells #[.int .i64 x.2.f2] 3)).b6.cell 0),(by simpa[cellsS] using (yK.out.alloc (.cells #[.int .i64 x.2.f2] 3)).b9.cell 2),(by simpa using (yK.out.alloc (.cells #[.int .i64 x.2.f2] 3)).b7.cell 0)⟩ (λ_=>?_)
      clear hK K
      have yw:=aa.mk (yK.out.alloc (.cells #[.int .i64 x.2.f2] 3))
      replace Mc:=aa.mk (Mc.out.alloc (.cells #[.int .i64 x.2.f2] 3))
      have B3:=aa.mk (aV.new w3 [.int .i64 x.2.f2] 3)
      refine j4 ?_
      generalize w3.alloc (.cells #[.int .i64 x.2.f2] 3)=w5 at yw B3 Mc ⊢
      generalize w3.heap.size=b3 at B3 ⊢
      refine gB (i:=4) (N:=some 35) #[I,I,I,I,I,I,I,I,O,O,O] rfl rfl (aM au.out (by kernel_rfl)) (by decide) (λK hK=>?_)
      refine Kd.gX (Kd.int .i64) (w0:=w5) w4.heap.size (by rfl) (.tmp 31) (.tmp 34) 30 3 (.int .i64 0) 8 rfl Tryz.underlying30 info3 rfl (by decide) (by omega) v6 (pre.map (λx:IS=>x.2.f2)) [x.2.f2] (some ⟨b3,0,none⟩) 1 1 (λ_=>True) (λ_=>False) rfl rfl yw.out.two.r1 (sK (by simpa using B3.out.cell 0)) (λx cs h=>h) (λ_ hk=>hk.elim) (λ_ _=>trivial) (Below.refl _ _) yw.out.hs (by omega) ?_
      intro v w_ hon hbn hgn iP
      have RV:=aa.mk (yw.out.app1 hon hbn hgn iP)
      have hc7:=Es yw.out.two.r1 Mc.out hgn hx7
      refine hK.out _ _ ⟨(by simpa using RV.out.b6.cell 0),(by simpa[cellsS] using RV.out.b9.cell 2),(by simpa using RV.out.b7.cell 0)⟩ (λ_=>?_)
      clear hK K hon hbn hgn iP
      have hfin:=hcont (v,b3,b7) _ ⟨RV.out,hc7⟩
      refine aW ?_ hfin
      (simp only[aK,Act.put,sb0,sb1,bR])<;>rfl
    case cont=>
     rintro⟨v,b3,b7⟩ w5 ⟨hc,hl⟩
     refine aW (by simp only[aK,Act.put,sb0,sb1,bR];rfl) ?_
     have HC5:=aa.mk hc
     clear hc HS hHeld
     refine fB (i:=8) (N:=some 39) #[I,I,I,I,I,I,I,I,I,O,O] rfl rfl (aM au.out (by kernel_rfl)) (by decide) (λK hK=>?_)
     refine Kd.gX (Kd.int .i64) (w0:=w5) w4.heap.size (by rfl) (.tmp 36) (.tmp 38) 30 3 (.int .i64 0) 8 rfl Tryz.underlying30 info3 rfl (by decide) (by omega) v7 (pre.map (λx:IS=>(x.1:Int))) [(x.1:Int)] (some ⟨b7,0,none⟩) 1 1 (λ_=>True) (λ_=>False) rfl rfl HC5.out.two.r2 (sK hl) (λx cs h=>h) (λ_ hk=>hk.elim) (λ_ _=>trivial) (Below.refl _ _) HC5.out.hs (by omega) ?_
     intro v2 w6 hon hbn hgn iP
     have FN:=aa.mk (HC5.out.OX hon hbn hgn iP)
     clear hl hon hbn hgn iP HC5
     obtain⟨Av,nv,cv,rfl⟩:=qX FN.out.two.r1
     obtain⟨Au,nu,cu,rfl⟩:=qX FN.out.two.r2
     refine hK.out _ _ ?_
     clear hK K
     refine j4 ?_
     refine fB (i:=9) (N:=none) #[I,I,I,I,I,I,I,I,I,I,O] rfl rfl (aM au.out (by kernel_rfl)) (by decide) (λK hK=>?_)
     have iD:=(show w6.cell? ⟨g6,0,none⟩=some v6 by simpa using FN.out.b6.cell 0)
     have lG:=FN.out.b6.frozen 0
     refine kg (w1:=?_) (by rfl) rfl ?_ ?_
     rotate_left
     .go_simp
      rfl
     refine hK.out _ _ ?_
     clear hK K iD lG
     have B6s:=aa.mk (show aV _ g6 [.slice Av nv cv] _ from fV FN.out.b6 0 (.slice Av nv cv))
     have B7s:=aa.mk (FN.out.b7.move (Below.heap_setCell w6 ⟨g6,0,none⟩ (.slice Av nv cv) _ (by simp only;omega)))
     have HTs:=aa.mk (FN.out.two.step (w':=w6.setCell ⟨g6,0,none⟩ (.slice Av nv cv)) (λk hk _=>Below.heap_setCell _ _ _ _ (by simp only;omega)))
     have HKs:=aa.mk ((aY.of_below (S:=λb=>b=g6\/b=g6+1) FN.out.b (Nat.le_refl _)).setCell (p:=⟨g6,0,none⟩) (.inl (.inl rfl)) (.slice Av nv cv))
     have HOs:=aa.mk (FN.out.ko.trans (KeepsOthers.setCell w6 ⟨g6,0,none⟩ (.slice Av nv cv)))
     clear FN
     generalize w6.setCell ⟨g6,0,none⟩ (.slice Av nv cv)=w7 at B6s B7s HTs HKs HOs ⊢
     refine fB (i:=10) (N:=none) #[I,I,I,I,I,I,I,I,I,I,I] rfl rfl (aM au.out (by kernel_rfl)) (by decide) (λK hK=>?_)
     have iD:=(show w7.cell? ⟨g6+1,0,none⟩=some v7 by simpa using B7s.out.cell 0)
     have lG:=B7s.out.frozen 0
     refine kg (w1:=?_) (by rfl) rfl ?_ ?_
     rotate_left
     .go_simp
      rfl
     refine hK.out _ _ ?_
     clear hK K iD lG
     have B7z:=aa.mk (show aV _ (g6+1) [.slice Au nu cu] _ from fV B7s.out 0 (.slice Au nu cu))
     have B6z:=aa.mk (B6s.out.move (Below.heap_setCell w7 ⟨g6+1,0,none⟩ (.slice Au nu cu) _ (by simp only;omega)))
     have HTz:=aa.mk (HTs.out.step (w':=w7.setCell ⟨g6+1,0,none⟩ (.slice Au nu cu)) (λk hk _=>Below.heap_setCell _ _ _ _ (by simp only;omega)))
     have Xt:=aa.mk (HKs.out.setCell (p:=⟨g6+1,0,none⟩) (.inl (.inr rfl)) (.slice Au nu cu))
     have HOz:=aa.mk (HOs.out.trans (KeepsOthers.setCell w7 ⟨g6+1,0,none⟩ (.slice Au nu cu)))
     clear B6s B7s HTs HKs HOs
     generalize w7.setCell ⟨g6+1,0,none⟩ (.slice Au nu cu)=w8 at B6z B7z HTz Xt HOz ⊢
     refine fM (bP au.out (by kernel_rfl)) ?_
     refine⟨HOz.out.from _,Xt.out,⟨_,_,B6z.out,B7z.out,?_,HI.out.keep.trans Xt.out,λD hD=>HOz.out.same D _ (HI.out.mks D hD) rfl⟩⟩
     rw[List.map_append,List.map_append]
     exact HTz.out
   case done=>
    rintro D W hD hi yh
    obtain⟨v6,v7,hI⟩:=hi.out
    rw[HOF.out] at hI
    simp only[List.map_cons,List.map_nil] at hI
    obtain⟨b6,c6,rfl,_⟩:=oU hI.two.r1 0 (by simp)
    obtain⟨b7,c7,rfl,hq0⟩:=oU hI.two.r2 0 (by simp)
    have hq1:=(Kd.jk (0:Int) hI.two.r2 1 (by omega) (by simp)).1
    have hb7:=(Kd.bL hI.two.r2).1 b7 (by simp[Value.ownBlock])
    have ak8:=hb7.2.1
    have YL:=hb7.2.2.1
    obtain⟨_,hc6,hC6⟩:=Kd.eZ hI.two.r1
    have FN:=aa.mk (show(Kd.int .i64).C W (some ⟨b6,0,none⟩) 2 [X.2.f2,Y.2.f2] from hC6)
    have aeY:2<=c6:=hc6
    have WH:=aa.mk (Marks.cons TI.out hI.mks hD (by omega) yh)
    have WN:=aa.mk (show Below w.heap.size w W from⟨hI.keep.os.trans pY.out.os,hI.keep.tape.trans pY.out.tape,hI.keep.output.trans pY.out.output,Nat.le_trans pY.out.size hI.keep.size,λk hk=>(hI.keep.block k (by omega) (by omega)).trans (pY.out.block k hk)⟩)
    have B1W:=aa.mk (IJ.out.move (hI.keep.block _ (by omega) (by omega)))
    have HOW:=aa.mk (Kd.gz HO4.out (λk hk hlt=>hI.keep.block k hlt (by simp only[Option.some.injEq] at hk;omega)))
    have B6W:=aa.mk hI.b6
    have B7W:=aa.mk hI.b7
    have hsW:=hI.keep.size
    have Bd:=hI.b6.cell 0
    simp only[List.getElem?_cons_zero] at Bd
    clear hi hI hb7 hC6 hc6 yh pY IJ TI HO4 FX FH HC B64 B74
    dsimp only
    go_wp2_with (with_reducible refine wpIn_wide.2 ?_)
    refine(DF FN.out aeY HDV.out).mono ?_
    rintro e W5 ⟨⟨v10,rfl,Rm⟩,hb5⟩
    obtain⟨b10,c10,rfl,Vy⟩:=oU Rm 0 (by simp)
    have Vx:=(Kd.jk (0:Int) Rm 1 (by omega) (by simp)).1
    have Hg:=((Kd.bL Rm).1 b10 (by simp[Value.ownBlock])).2
    have YM:=Hg.1
    have SS:=Hg.2.1
    have H71:=aa.mk ((hb5.cell (p:=⟨b7,0,none⟩) YL).trans hq0)
    have H72:=aa.mk ((hb5.cell (p:=⟨b7,1,none⟩) YL).trans hq1)
    have B75:=aa.mk (B7W.out.below hb5)
    have WZ:=aa.mk (B1W.out.below hb5)
    have R3:=aa.mk (Marks.move (λD hD=>(hb5.block D (Array.getElem?_eq_some_iff.1 hD).1).trans hD) WH.out)
    have HO5:=aa.mk (Kd.dm HOW.out hb5)
    have wM:=aa.mk (WN.out.trans (hb5.mono WN.out.size))
    have hs5:=hb5.size
    have HGC:=aa.mk (show ∃cells,W5.heap[go]?=some (.cells cells 3 (0,0)) by
     obtain⟨_,_,_,q,hq,cells,hk⟩:=(Kd.bL HO5.out).1 go (by simp[Value.ownBlock])
     have hq':q=3:=by simpa[show(Kd.int IntKind.i64).E=[] from rfl] using hq
     exact⟨cells,by rw[<- hq'];exact hk⟩)
    have HCA:=aa.mk (show jB ss P (d+1)=((jB ss P d).set X.1 (P d).1).set Y.1 (P d).2 by
     show(match nV ss (d:Int) ss.length with|[x,y]=>((jB ss P d).set x.1 (P d).1).set y.1 (P d).2|_=>jB ss P d)=_
     rw[HOF.out])
    have ag1:=aa.mk Vy
    have ag0:=aa.mk Vx
    clear Rm hb5 Hg hq0 hq1 Vy Vx B7W B1W WH HOW WN B6W Bd FN
    go_wp2_with (with_reducible refine wpIn_wide.2 ?_)
    go_loopw [48] (λv48 wc=>aa (aY W5.heap.size (λb=>b=go) W5 wc)/\((v48= .int .i64 0/\aa ((Kd.int .i64).R 3 wc w.heap.size (λk=>some k=some go) (.slice (some ⟨go,0,none⟩) ss.length co) (jB ss P d)))\/(v48= .int .i64 1/\aa ((Kd.int .i64).R 3 wc w.heap.size (λk=>some k=some go) (.slice (some ⟨go,0,none⟩) ss.length co) ((jB ss P d).set X.1 (P d).1)))\/(v48= .int .i64 2/\aa ((Kd.int .i64).R 3 wc w.heap.size (λk=>some k=some go) (.slice (some ⟨go,0,none⟩) ss.length co) (((jB ss P d).set X.1 (P d).1).set Y.1 (P d).2))))) (λv48 _=>2-(intOf v48).toNat)
    case atStart=>exact⟨⟨aY.refl _ _ _⟩,.inl ⟨rfl,HO5⟩⟩
    case round=>
     clear HO5
     obtain⟨IA,h⟩:=hrel
     have h75:=(IA.out.cell (p:=⟨g6+1,0,none⟩) B75.out.lt (by simp only;omega)).trans (B75.out.cell 0)
     simp only[List.getElem?_cons_zero] at h75
     have alC:wr.cell? ⟨b7,0,none⟩=some (.int .i64 (X.1:Int)):=(IA.out.cell (p:=⟨b7,0,none⟩) (by simp only;omega) (by simp only;omega)).trans H71.out
     have alB:wr.cell? ⟨b7,1,none⟩=some (.int .i64 (Y.1:Int)):=(IA.out.cell (p:=⟨b7,1,none⟩) (by simp only;omega) (by simp only;omega)).trans H72.out
     have Vy:wr.cell? ⟨b10,0,none⟩=some (.int .i64 (P d).1):=(IA.out.cell (p:=⟨b10,0,none⟩) (by simp only;omega) (by simp only;omega)).trans ag1.out
     have Vx:wr.cell? ⟨b10,1,none⟩=some (.int .i64 (P d).2):=(IA.out.cell (p:=⟨b10,1,none⟩) (by simp only;omega) (by simp only;omega)).trans ag0.out
     have hXi:(X.1:Int)<ss.length:=by omega
     have hYi:(Y.1:Int)<ss.length:=by omega
     rcases h with⟨rfl,HOr⟩|⟨rfl,HOr⟩|⟨rfl,HOr⟩
     .have SY:=(Kd.jk (0:Int) HOr.out (X.1:Int) (by omega) (by omega))
      simp only[Int.toNat_natCast] at SY
      obtain⟨Vs,YQ⟩:=SY
      have TE:=aa.mk (Kd.uQ HOr.out (X.1:Int) ((P d).1))
      simp only[Int.toNat_natCast] at TE
      have TJ:=aa.mk (IA.out.setCell (p:=⟨go,X.1,none⟩) (.inl rfl) (.int .i64 (P d).1))
      go_wp2_with (with_reducible refine wpIn_wide.2 ?_)
      exact⟨⟨TJ,.inr (.inl ⟨rfl,TE⟩)⟩,by simp[intOf]⟩
     .have SY:=(Kd.jk (0:Int) HOr.out (Y.1:Int) (by omega) (by omega))
      simp only[Int.toNat_natCast] at SY
      obtain⟨Vs,YQ⟩:=SY
      have TE:=aa.mk (Kd.uQ HOr.out (Y.1:Int) ((P d).2))
      simp only[Int.toNat_natCast] at TE
      have TJ:=aa.mk (IA.out.setCell (p:=⟨go,Y.1,none⟩) (.inl rfl) (.int .i64 (P d).2))
      go_wp2_with (with_reducible refine wpIn_wide.2 ?_)
      exact⟨⟨TJ,.inr (.inr ⟨rfl,TE⟩)⟩,by simp[intOf]⟩
     .go_wp2_with (with_reducible refine wpIn_wide.2 ?_)
      refine⟨⟨_,d+1,by omega,by have:=IA.out.size;omega,⟨by rw[HCA.out];exact HOr.out⟩,⟨⟨IA.out.os.trans wM.out.os,IA.out.tape.trans wM.out.tape,IA.out.output.trans wM.out.output,Nat.le_trans wM.out.size IA.out.size,λk hk=>(IA.out.block k (by have:=wM.out.size;omega) (by omega)).trans (wM.out.block k hk)⟩⟩,⟨WZ.out.move (IA.out.block _ (by have:=wM.out.size;omega) (by omega))⟩,⟨Marks.move (λD hD=>(IA.out.block D (Array.getElem?_eq_some_iff.1 hD).1 (λe=>by
       subst e
       obtain⟨cells,hc⟩:=HGC.out
       rw[hc] at hD
       cases hD)).trans hD) R3.out⟩,rfl⟩,?_⟩
      show old.length-(intOf (.int .i64 ((d:Int)+1))).toNat<old.length-(intOf (.int .i64 (d:Int))).toNat
      simp[intOf]
      omega
  .obtain rfl:d=old.length:=by omega
   go_wp2_with (with_reducible refine wpIn_wide.2 ?_)
   refine Marks.leaves (lo:=w.heap.size) (Inv:=λW=>Below w.heap.size w W/\(Kd.int .i64).R 3 W w.heap.size (λ_=>True) (.slice (some ⟨go,0,none⟩) ss.length co) (jB ss P old.length)) (λW D hlo hD hi=>?_) (λW hi=>?_) ds wr HM.out ⟨HB.out,Kd.bM HO.out (λ_ _=>trivial)⟩
   .refine⟨hi.1.grown (grownBy_putObj' W D _) hi.1.size (λk e=>by cases e;exact hlo),Kd.bM (Kd.qH (Kd.bL hi.2) (grownBy_putObj' W D _) (λk hk e=>?_)) (λ_ _=>trivial)⟩
    obtain⟨_,_,_,q,_,cells,hk'⟩:=hk
    cases e
    rw[hk'] at hD
    cases hD
   .refine⟨_,results_tmp rfl _ _ _,⟨.slice (some ⟨go,0,none⟩) ss.length co,?_,hi.2⟩,hi.1⟩
    rfl
end Go.Proofs.YtdekaocdmjndaaaGreat
