import Derived.Test.YtkjoilgpmngndaaGreatQ20
set_option maxHeartbeats 40000000
set_option maxRecDepth 100000
set_option linter.all false
namespace Go.Proofs.YtkjoilgpmngndaaGreat
open Go.RowKit Go.Shelf au YtkjoilgpmngndaaGreatW.aj YtkjoilgpmngndaaGreatW.aJ
attribute [local go_sem] Oper.semAt_some
def jJ(xs:List IS):Int:=(xs.map (λx=>x.2.f3.f0)).sum
def jL(xs:List IS):Int:=(xs.map (λx=>x.2.f3.f1)).sum
theorem wF(xs:List IS)(x:IS):jJ (xs++[x])=jJ xs+x.2.f3.f0:=by
 unfold jJ
 rw[List.map_append,List.sum_append]
 simp
theorem wJ(xs:List IS)(x:IS):jL (xs++[x])=jL xs+x.2.f3.f1:=by
 unfold jL
 rw[List.map_append,List.sum_append]
 simp
def Sm(xs:List IS):Prop:=∀x ∈ xs,0<=x.2.f3.f0/\x.2.f3.f0<=x.2.f3.f1/\x.2.f3.f1<=10000
theorem lK{xs:List IS}(h:Sm xs):0<=jJ xs/\jJ xs<=jL xs/\jL xs<=10000*xs.length:=by
 unfold jJ jL
 induction xs with
 |nil=>simp
 |cons x xs ih=>
  have h1:=h x List.mem_cons_self
  have h2:=ih (λy hy=>h y (List.mem_cons_of_mem _ hy))
  simp only[List.map_cons,List.sum_cons,List.length_cons]
  omega
structure kH(no:Nat)(nw:Int)(s:dQ):Prop where
 o0:0<=s.f0
 o1:s.f0<no
 n0:0<=s.f1
 n1:s.f1<nw
 w0:0<=s.f2
 w1:s.f2<=1000
 p0:0<=s.f3.f0
 p1:s.f3.f0<=s.f3.f1
 p2:s.f3.f1<=10000
theorem Gu{no:Nat}{nw:Int}{s:dQ}(h:ma no nw s=true):kH no nw s:=by
 unfold ma aK iO at h
 simp only[Bool.and_eq_true,decide_eq_true_eq] at h
 obtain⟨⟨h1,h2⟩,⟨h3,h4⟩,⟨h5,h6⟩,h7,h8,h9⟩:=h
 exact⟨h1,by omega,h3,by omega,h5,h6,h7,h8,h9⟩
theorem Ae{old:List Int}{nw:Int}{ss:List dQ}{js:List jO}(h:lY old nw ss js=0):0<old.length/\old.length<=4/\0<ss.length/\ss.length<=8/\js.length<=20/\(∀n ∈ old,0<=n/\n<=10000)/\1<=nw/\nw<=4/\(∀s ∈ ss,kH old.length nw s)/\kX old.length ss=true/\js.all (zA ss.length)=true:=by
 unfold lY at h
 by_cases h1:old.length<=4/\ss.length<=8/\js.length<=20
 .rw[if_pos h1] at h
  by_cases h2:old.length=0\/ss.length=0
  .rw[if_pos h2] at h;cases h
  .rw[if_neg h2] at h
   split at h
   .next h3=>
    simp only[Bool.and_eq_true] at h3
    obtain⟨a1,a2,a3,a4,a5⟩:=h3
    unfold aK at a2
    simp only[Bool.and_eq_true,decide_eq_true_eq] at a2
    refine⟨by omega,h1.1,by omega,h1.2.1,h1.2.2,λn hn=>?_,a2.1,a2.2,λs hs=>Gu (List.all_eq_true.1 a3 s hs),a4,a5⟩
    have:=List.all_eq_true.1 a1 n hn
    unfold aK at this
    simpa using this
   .cases h
 .rw[if_neg h1] at h;cases h
def o8(old:List Int)(ss:List dQ)(d:Nat):Bool:=aK (rd old (d:Int)) (jJ (iR ss (d:Int) ss.length)) (jL (iR ss (d:Int) ss.length))
def pq(old:List Int)(nw:Int)(ss:List dQ)(js:List jO):Int:=
 if lY old nw ss js=0 then(if(List.range old.length).all (o8 old ss)=true then 0 else 9) else lY old nw ss js
theorem za{A0:Option Addr}{c0:Nat}{old:List Int}{nw:Int}{A2:Option Addr}{c2:Nat}{ss:List dQ}{A3:Option Addr}{c3:Nat}{js:List jO}{w:World}(h:Nr w A0 c0 old A2 c2 ss A3 c3 js):
  Calls Tryz.prog 40 #[.agg #[.slice A0 old.length c0,.int .i64 nw,.slice A2 ss.length c2,.slice A3 js.length c3]] w λe w'=>e= .returned (.int .i64 (pq old nw ss js))/\Below w.heap.size w w':=by
 have H:=aa.mk h
 have hb2:=h.b2
 clear h
 refine(callsIn_wide (n:=9)).1 (dS Tryz.func40 rfl trivial ?_ rfl)
 simp only[Tryz.ntmps40,List.size_toArray,List.length_cons,List.length_nil,Nat.reduceAdd,Nat.reduceSub,Array.replicate_succ,Array.replicate_zero,List.push_toArray,List.append_toArray,List.nil_append,List.cons_append]
 refine wpIn_wide.2 ?_
 go_wp2_with (with_reducible refine wpIn_wide.2 ?_)
 have HB0:=aa.mk (ae (Below.refl w.heap.size w) (.cells #[.slice A0 old.length c0,.int .i64 nw,.slice A2 ss.length c2,.slice A3 js.length c3] 43))
 have B10:=aa.mk (aR.new w [.slice A0 old.length c0,.int .i64 nw,.slice A2 ss.length c2,.slice A3 js.length c3] 43)
 generalize w.alloc (.cells #[.slice A0 old.length c0,.int .i64 nw,.slice A2 ss.length c2,.slice A3 js.length c3] 43)=w1 at HB0 B10 ⊢
 refine(dM (H.out.below HB0.out)).mono ?_
 rintro e w0 ⟨rfl,mK⟩
 have HB:=aa.mk (HB0.out.trans (mK.mono HB0.out.size))
 have B1:=aa.mk (B10.out.below mK)
 clear mK HB0 B10
 by_cases hc:lY old nw ss js=0
 rotate_left
 .have hcb:(lY old nw ss js !=0)=true:=by simp[hc]
  have HF:=aa.mk (show pq old nw ss js=lY old nw ss js by unfold pq;rw[if_neg hc])
  clear hc
  go_wp2_with (with_reducible refine wpIn_wide.2 ?_)
  refine Marks.leaves (lo:=w.heap.size) (Inv:=λW=>Below w.heap.size w W) (λW D hlo hD hi=>hi.grown (grownBy_putObj' W D _) hi.size (λk e=>by cases e;exact hlo)) (λW hi=>?_) [] w0 trivial HB.out
  refine⟨_,results_tmp rfl _ _ _,?_,hi⟩
  show Ending.returned (.int .i64 (lY old nw ss js))=_
  rw[HF.out]
 have HK:=aa.mk (Ae hc)
 have HL:=aa.mk (show pq old nw ss js=if(List.range old.length).all (o8 old ss)=true then 0 else 9 by unfold pq;rw[if_pos hc])
 have an6:=(Ae hc).2.2.2.1
 rw[hc]
 clear hc
 have h10:=B1.out.cell 0
 have h11:=B1.out.cell 1
 have h12:=B1.out.cell 2
 have sI:=B1.out.cell 3
 simp only[eP,eO] at h10 h11 h12 sI
 go_wp2_with (with_reducible refine wpIn_wide.2 ?_)
 clear h10 h11 h12 sI
 refine wp_loop (λa' wr=>∃(ds:List Deferred) (d:Nat),d<=old.length/\aa (∀j:Nat,j<d->o8 old ss j=true)/\aa (Below w.heap.size w wr)/\aa (aR wr w.heap.size [.slice A0 old.length c0,.int .i64 nw,.slice A2 ss.length c2,.slice A3 js.length c3] 43)/\aa (Marks w.heap.size wr ds)/\a'={tmps:=#[.agg #[.slice A0 old.length c0,.int .i64 nw,.slice A2 ss.length c2,.slice A3 js.length c3],.pointer (some ⟨w.heap.size,0,none⟩),.int .i64 0,.int .i64 0,a'.tmps.getD 4 undef,a'.tmps.getD 5 undef,a'.tmps.getD 6 undef,a'.tmps.getD 7 undef,a'.tmps.getD 8 undef,.agg #[.slice A0 old.length c0,.int .i64 nw,.slice A2 ss.length c2,.slice A3 js.length c3],.int .i64 0,.int .i64 0,.bool false,a'.tmps.getD 13 undef,.pointer (some ⟨w.heap.size,0,none⟩),.slice A0 old.length c0,.int .i64 (old.length:Int),.int .i64 (d:Int),a'.tmps.getD 18 undef,a'.tmps.getD 19 undef,a'.tmps.getD 20 undef,a'.tmps.getD 21 undef,a'.tmps.getD 22 undef,a'.tmps.getD 23 undef,a'.tmps.getD 24 undef,a'.tmps.getD 25 undef,a'.tmps.getD 26 undef,a'.tmps.getD 27 undef,a'.tmps.getD 28 undef,a'.tmps.getD 29 undef,a'.tmps.getD 30 undef,a'.tmps.getD 31 undef,a'.tmps.getD 32 undef,a'.tmps.getD 33 undef,a'.tmps.getD 34 undef,a'.tmps.getD 35 undef,a'.tmps.getD 36 undef,a'.tmps.getD 37 undef,a'.tmps.getD 38 undef,a'.tmps.getD 39 undef,a'.tmps.getD 40 undef,a'.tmps.getD 41 undef,a'.tmps.getD 42 undef,a'.tmps.getD 43 undef,a'.tmps.getD 44 undef,a'.tmps.getD 45 undef,a'.tmps.getD 46 undef,a'.tmps.getD 47 undef,a'.tmps.getD 48 undef],defers:=ds}) (λa' _=>old.length-(intOf (a'.tmps.getD 17 undef)).toNat) ?start ?round
 case start=>exact⟨[],0,Nat.zero_le _,⟨λj hj=>absurd hj (Nat.not_lt_zero _)⟩,HB,B1,⟨trivial⟩,rfl⟩
 case round=>
  clear HB B1
  rintro a' wr ⟨ds,d,hd,HJ,HB,B1,HM,hfr⟩
  obtain⟨u,hu⟩:∃u:Nat->Value,a'={tmps:=#[.agg #[.slice A0 old.length c0,.int .i64 nw,.slice A2 ss.length c2,.slice A3 js.length c3],.pointer (some ⟨w.heap.size,0,none⟩),.int .i64 0,.int .i64 0,(u 4),(u 5),(u 6),(u 7),(u 8),.agg #[.slice A0 old.length c0,.int .i64 nw,.slice A2 ss.length c2,.slice A3 js.length c3],.int .i64 0,.int .i64 0,.bool false,(u 13),.pointer (some ⟨w.heap.size,0,none⟩),.slice A0 old.length c0,.int .i64 (old.length:Int),.int .i64 (d:Int),(u 18),(u 19),(u 20),(u 21),(u 22),(u 23),(u 24),(u 25),(u 26),(u 27),(u 28),(u 29),(u 30),(u 31),(u 32),(u 33),(u 34),(u 35),(u 36),(u 37),(u 38),(u 39),(u 40),(u 41),(u 42),(u 43),(u 44),(u 45),(u 46),(u 47),(u 48)],defers:=ds}:=⟨λi=>a'.tmps.getD i undef,hfr⟩
  clear hfr
  subst hu
  dsimp only
  by_cases hlt:d<old.length
  .have hg1:=B1.out.lt
   have h10:=B1.out.cell 0
   have h11:=B1.out.cell 1
   have h12:=B1.out.cell 2
   have sI:=B1.out.cell 3
   simp only[eP,eO] at h10 h11 h12 sI
   obtain⟨ad,e,hx⟩:=Kd.cK (H.out.below HB.out).QR (d:Int) (by omega) (by omega)
   cases e
   simp only[Int.toNat_natCast] at hx
   have HFB:=aa.mk (show o8 old ss d=aK (rd old (d:Int)) (jJ (iR ss (d:Int) ss.length)) (jL (iR ss (d:Int) ss.length)) from rfl)
   obtain⟨cnt,hcnt⟩:∃x,rd old (d:Int)=x:=⟨_,rfl⟩
   rw[hcnt] at hx HFB
   clear hcnt
   go_wp2_with (with_reducible refine wpIn_wide.2 ?_)
   have HB1:=aa.mk (ae HB.out (.cells #[.int .i64 0,.int .i64 0] 52))
   have B11:=aa.mk (B1.out.alloc (.cells #[.int .i64 0,.int .i64 0] 52))
   have B4:=aa.mk (aR.new wr [.int .i64 0,.int .i64 0] 52)
   have II:=aa.mk (HM.out.alloc (.cells #[.int .i64 0,.int .i64 0] 52))
   have hs1:=size_alloc wr (.cells #[.int .i64 0,.int .i64 0] 52)
   clear HB B1 HM h10 h11 h12 sI hx
   generalize wr.alloc (.cells #[.int .i64 0,.int .i64 0] 52)=wa at HB1 B11 B4 II hs1 ⊢
   generalize wr.heap.size=g4 at B4 hs1 hg1 ⊢
   refine((callsIn_wide (n:=8)).1 (Mr Fence.wide 8 trivial rfl _ _ _ _ _ rfl rfl rfl rfl wa)).mono ?_
   rintro e w4 ⟨rfl,rfl⟩
   have HB2:=aa.mk (ae (ae HB1.out (.cells #[.slice (some ad) old.length c0,.int .i64 nw,.slice A2 ss.length c2,.slice A3 js.length c3] 43)) (.cells #[.int .i64 (d:Int)] 3))
   have EB:=aa.mk ((B11.out.alloc (.cells #[.slice (some ad) old.length c0,.int .i64 nw,.slice A2 ss.length c2,.slice A3 js.length c3] 43)).alloc (.cells #[.int .i64 (d:Int)] 3))
   have zJ:=aa.mk ((B4.out.alloc (.cells #[.slice (some ad) old.length c0,.int .i64 nw,.slice A2 ss.length c2,.slice A3 js.length c3] 43)).alloc (.cells #[.int .i64 (d:Int)] 3))
   have SF:=aa.mk ((II.out.alloc (.cells #[.slice (some ad) old.length c0,.int .i64 nw,.slice A2 ss.length c2,.slice A3 js.length c3] 43)).alloc (.cells #[.int .i64 (d:Int)] 3))
   have zS:=aa.mk ((aR.new wa [.slice (some ad) old.length c0,.int .i64 nw,.slice A2 ss.length c2,.slice A3 js.length c3] 43).alloc (.cells #[.int .i64 (d:Int)] 3))
   have zI:=aa.mk (aR.new (wa.alloc (.cells #[.slice (some ad) old.length c0,.int .i64 nw,.slice A2 ss.length c2,.slice A3 js.length c3] 43)) [.int .i64 (d:Int)] 3)
   simp only[World.size_alloc] at zI
   have hsz:((wa.alloc (.cells #[.slice (some ad) old.length c0,.int .i64 nw,.slice A2 ss.length c2,.slice A3 js.length c3] 43)).alloc (.cells #[.int .i64 (d:Int)] 3)).heap.size=wa.heap.size+1+1:=by simp
   clear HB1 B11 B4 II
   generalize(wa.alloc (.cells #[.slice (some ad) old.length c0,.int .i64 nw,.slice A2 ss.length c2,.slice A3 js.length c3] 43)).alloc (.cells #[.int .i64 (d:Int)] 3)=w4 at HB2 EB zJ SF zS zI hsz ⊢
   obtain⟨gx,hgx⟩:∃gx,wa.heap.size=gx:=⟨_,rfl⟩
   rw[hgx] at zS zI hsz hs1 ⊢
   clear hgx
   have HC:=aa.mk (H.out.below HB2.out)
   have hlo:=rQ H.out.PV
   go_wp2_with (with_reducible refine wpIn_wide.2 ?_)
   refine(wpIn_wide (n:=9)).1 ?_
   refine xu (gm:=gx) (gn:=gx+1) (by decide) (by decide) rfl (n₀:=w4.heap.size) (S:=λb=>b=g4) (u0:= .slice (some ad) old.length c0) (u1:= .int .i64 nw) (u3:= .slice A3 js.length c3) (A2:=A2) (c2:=c2) (ss:=ss) (old:=(d:Int)) hb2 (Nat.le_refl _) ?reads
    (λt x=>(t.setIfInBounds 26 (.int .i64 (x.1:Int))).setIfInBounds 27 (encS x.2)) (λt x g=>((t.setIfInBounds 26 (.int .i64 (x.1:Int))).setIfInBounds 27 (encS x.2)).setIfInBounds 8 (.pointer (some ⟨g,0,none⟩))) (λt x=>NH t 26 27 _ _)
    (λpre W=>aa (aR W g4 [.int .i64 (jJ pre),.int .i64 (jL pre)] 52)/\aa (Below w.heap.size w W)/\aa (aR W w.heap.size [.slice (some ad) old.length c0,.int .i64 nw,.slice A2 ss.length c2,.slice A3 js.length c3] 43)/\aa (gN w4 W)/\aa (w4.heap.size<=W.heap.size)/\aa (Sm pre)) ?own (λxs W hi=>hi.2.2.2.2.1.out) ⟨zJ,HB2,EB,⟨gN.refl _⟩,⟨Nat.le_refl _⟩,⟨λx hx=>by cases hx⟩⟩ ?assign ?body ?done
   case reads=>exact⟨zS.out,by simpa using zI.out.cell 0,HC.out.PV,⟨by omega,by omega⟩,⟨by omega,by omega⟩,λh0 ad e=>⟨by have:=hlo h0 ad e;omega,by have:=hlo h0 ad e;omega⟩⟩
   case own=>
    rintro xs W W' row ⟨i1,i2,i3,i4,i5,i6⟩ hg hr
    have hr':=λr e=>(hr r e).1
    have h5:=i5.out
    have hw2:=HB2.out.size
    exact⟨⟨i1.out.kept (B:=w4.heap.size) (by omega) hg hr'⟩,⟨i2.out.grown hg i2.out.size (λk e=>by have:=hr' k e;omega)⟩,⟨i3.out.kept (B:=w4.heap.size) (by omega) hg hr'⟩,⟨i4.out.kept (Nat.le_refl _) hg hr'⟩,⟨Nat.le_trans h5 hg.size⟩,i6⟩
   case assign=>
    intro l x W K hx hK
    simp only[sb0,sb1,dD,cellsS,encS] at hK ⊢
    gi_wp2_with fail
    exact hK
   case body=>
    rintro l pre x g W hx hlen ⟨i1,i2,i3,i4,i5,i6⟩ hg hBg
    simp only[sb0,sb1,dD,encS]
    have hc4:=i1.out.cell 0
    have OX:=i1.out.cell 1
    have ahW:=i1.out.frozen 0
    have alu:=i1.out.frozen 1
    have hgc:=hBg.cell 3
    have ahI:=hBg.cell 4
    simp only[eP,eO,cellsS] at hc4 OX hgc ahI
    have hok:kH old.length nw x.2:=HK.out.2.2.2.2.2.2.2.2.1 _ (by rw[hx.2.1];exact oO ss x.1 hx.1)
    have Q6:0<=x.2.f3.f0/\x.2.f3.f0<=x.2.f3.f1/\x.2.f3.f1<=10000:=⟨hok.p0,hok.p1,hok.p2⟩
    have hws:=lK i6.out
    have hpl:(pre.length:Int)<8:=by omega
    have hsum:wrap64 (jJ pre+x.2.f3.f0)=jJ pre+x.2.f3.f0:=IntWalk.wrap64_in _ (by omega)
    have BD:wrap64 (jL pre+x.2.f3.f1)=jL pre+x.2.f3.f1:=IntWalk.wrap64_in _ (by omega)
    have hsn:=wF pre x
    have Yp:=wJ pre x
    obtain⟨sm,hsm⟩:∃s,jJ pre=s:=⟨_,rfl⟩
    obtain⟨Dm,yU⟩:∃s,jL pre=s:=⟨_,rfl⟩
    rw[hsm] at hsum hc4 hsn
    rw[yU] at BD OX Yp
    have Xf:=aa.mk hsn
    have ajj:=aa.mk Yp
    have ZK:=aa.mk Q6
    have h5:=i5.out
    have hgw:=hBg.lt
    clear hsn Yp hsm yU hws hpl Q6 hok
    gi_wp2_with fail
    refine⟨⟨by simp[World.setCell],λk o hk ho hc=>(Below.heap_setCell _ _ _ _ (by simp only;omega)).trans ((Below.heap_setCell _ _ _ _ (by simp only;omega)).trans ho)⟩,((bq.refl w4.heap.size (λb=>b=g4) W).setCell (p:=⟨g4,0,none⟩) (.inl rfl) _).setCell (p:=⟨g4,1,none⟩) (.inl rfl) _,⟨by rw[Xf.out,ajj.out];exact i1.out.set2 _ _⟩,⟨(i2.out.setCell (p:=⟨g4,0,none⟩) (by simp only;omega) _).setCell (p:=⟨g4,1,none⟩) (by simp only;omega) _⟩,⟨(i3.out.move (Below.heap_setCell _ ⟨g4,0,none⟩ _ _ (by simp only;omega))).move (Below.heap_setCell _ ⟨g4,1,none⟩ _ _ (by simp only;omega))⟩,⟨(i4.out.setCell _ _).setCell _ _⟩,⟨by rw[size_set,size_set];exact h5⟩,⟨λy hy=>?_⟩⟩
    rcases List.mem_append.1 hy with hy|hy
    .exact i6.out y hy
    .obtain rfl:=List.mem_singleton.1 hy
     exact ZK.out
   case done=>
    rintro D W hD ⟨i1,i2,i3,i4,i5,i6⟩ CX
    have akP:=HK.out.2.1
    have TE:=aa.mk (Marks.cons SF.out i4.out hD (by omega) CX)
    have hc4:=i1.out.cell 0
    have OX:=i1.out.cell 1
    simp only[eP,eO] at hc4 OX
    obtain⟨sm,hsm⟩:∃s,jJ (iR ss (d:Int) ss.length)=s:=⟨_,rfl⟩
    obtain⟨Dm,yU⟩:∃s,jL (iR ss (d:Int) ss.length)=s:=⟨_,rfl⟩
    rw[hsm] at hc4 HFB
    rw[yU] at OX HFB
    clear hsm yU
    dsimp only
    go_wp2_with (with_reducible refine wpIn_wide.2 ?_)
    refine(iM cnt sm Dm W).mono ?_
    rintro e W5 ⟨rfl,mK⟩
    have kv:=aa.mk (i2.out.trans (mK.mono i2.out.size))
    have Tn:=aa.mk (i3.out.below mK)
    have P8:=aa.mk (Marks.move (λD hD=>(mK.block D (Array.getElem?_eq_some_iff.1 hD).1).trans hD) TE.out)
    clear mK i1 i2 i3 i4 i5 i6 TE hc4 OX
    cases hwi:aK cnt sm Dm
    .have HF:=aa.mk (show pq old nw ss js=9 by
      rw[HL.out,if_neg]
      intro hall
      have:=List.all_eq_true.1 hall d (List.mem_range.2 hlt)
      rw[HFB.out,hwi] at this
      cases this)
     go_wp2_with (with_reducible refine wpIn_wide.2 ?_)
     refine Marks.leaves (lo:=w.heap.size) (Inv:=λW=>Below w.heap.size w W) (λW D hlo hD hi=>hi.grown (grownBy_putObj' W D _) hi.size (λk e=>by cases e;exact hlo)) (λW hi=>?_) _ W5 P8.out kv.out
     refine⟨_,results_tmp rfl _ _ _,?_,hi⟩
     show Ending.returned (.int .i64 9)=_
     rw[HF.out]
    .have HJ2:=aa.mk (λ(j:Nat) (hj:j<d+1)=>if h:j=d then(show o8 old ss j=true by rw[h,HFB.out,hwi]) else HJ.out j (by omega))
     go_wp2_with (with_reducible refine wpIn_wide.2 ?_)
     refine⟨⟨_,d+1,by omega,HJ2,kv,Tn,P8,rfl⟩,?_⟩
     show old.length-(intOf (.int .i64 ((d:Int)+1))).toNat<old.length-(intOf (.int .i64 (d:Int))).toNat
     simp[intOf]
     omega
  .obtain rfl:d=old.length:=by omega
   have HF:=aa.mk (show pq old nw ss js=0 by rw[HL.out,if_pos (List.all_eq_true.2 (λj hj=>HJ.out j (List.mem_range.1 hj)))])
   go_wp2_with (with_reducible refine wpIn_wide.2 ?_)
   refine Marks.leaves (lo:=w.heap.size) (Inv:=λW=>Below w.heap.size w W) (λW D hlo hD hi=>hi.grown (grownBy_putObj' W D _) hi.size (λk e=>by cases e;exact hlo)) (λW hi=>?_) ds wr HM.out HB.out
   refine⟨_,results_tmp rfl _ _ _,?_,hi⟩
   show Ending.returned (.int .i64 0)=_
   rw[HF.out]
end Go.Proofs.YtkjoilgpmngndaaGreat
namespace Go.Proofs.YtkjoilgpmngndaaGreat
open Go.RowKit Go.Shelf au YtkjoilgpmngndaaGreatW.aj YtkjoilgpmngndaaGreatW.aJ
def qF(l:Nat->Int):List Value:=[.int .i64 (l 0),.int .i64 (l 1),.int .i64 (l 2),.int .i64 (l 3),.int .i64 (l 4),.int .i64 (l 5),.int .i64 (l 6),.int .i64 (l 7)]
def U2(l:Nat->Int):Value:= .agg #[.int .i64 (l 0),.int .i64 (l 1),.int .i64 (l 2),.int .i64 (l 3),.int .i64 (l 4),.int .i64 (l 5),.int .i64 (l 6),.int .i64 (l 7)]
def aaV(l:Nat->Int)(i:Nat)(v:Int):Nat->Int:=λn=>if n=i then v else l n
theorem jv(l:Nat->Int):∀i,i<8->(qF l)[i]?=some (.int .i64 (l i))
 |0,_=>rfl|1,_=>rfl|2,_=>rfl|3,_=>rfl|4,_=>rfl|5,_=>rfl|6,_=>rfl|7,_=>rfl
theorem KI(l:Nat->Int)(v:Int):∀i,i<8->(qF l).set i (.int .i64 v)=qF (aaV l i v)
 |0,_=>rfl|1,_=>rfl|2,_=>rfl|3,_=>rfl|4,_=>rfl|5,_=>rfl|6,_=>rfl|7,_=>rfl
theorem aR.agA{w:World}{g:Nat}{t:TypeId}{a0 a1 a2 a3 a4 a5 a6 a7:Value}(h:aR w g [a0,a1,a2,a3,a4,a5,a6,a7] t)(b0 b1 b2 b3 b4 b5 b6 b7:Value):
  aR ((((((((w.setCell ⟨g,0,none⟩ b0).setCell ⟨g,1,none⟩ b1).setCell ⟨g,2,none⟩ b2).setCell ⟨g,3,none⟩ b3).setCell ⟨g,4,none⟩ b4).setCell ⟨g,5,none⟩ b5).setCell ⟨g,6,none⟩ b6).setCell ⟨g,7,none⟩ b7) g [b0,b1,b2,b3,b4,b5,b6,b7] t:=by
 have h0:aR (w.setCell ⟨g,0,none⟩ b0) g [b0,a1,a2,a3,a4,a5,a6,a7] t:=df h 0 b0
 have h1:aR ((w.setCell ⟨g,0,none⟩ b0).setCell ⟨g,1,none⟩ b1) g [b0,b1,a2,a3,a4,a5,a6,a7] t:=df h0 1 b1
 have h2:aR (((w.setCell ⟨g,0,none⟩ b0).setCell ⟨g,1,none⟩ b1).setCell ⟨g,2,none⟩ b2) g [b0,b1,b2,a3,a4,a5,a6,a7] t:=df h1 2 b2
 have h3:aR ((((w.setCell ⟨g,0,none⟩ b0).setCell ⟨g,1,none⟩ b1).setCell ⟨g,2,none⟩ b2).setCell ⟨g,3,none⟩ b3) g [b0,b1,b2,b3,a4,a5,a6,a7] t:=df h2 3 b3
 have h4:aR (((((w.setCell ⟨g,0,none⟩ b0).setCell ⟨g,1,none⟩ b1).setCell ⟨g,2,none⟩ b2).setCell ⟨g,3,none⟩ b3).setCell ⟨g,4,none⟩ b4) g [b0,b1,b2,b3,b4,a5,a6,a7] t:=df h3 4 b4
 have h5:aR ((((((w.setCell ⟨g,0,none⟩ b0).setCell ⟨g,1,none⟩ b1).setCell ⟨g,2,none⟩ b2).setCell ⟨g,3,none⟩ b3).setCell ⟨g,4,none⟩ b4).setCell ⟨g,5,none⟩ b5) g [b0,b1,b2,b3,b4,b5,a6,a7] t:=df h4 5 b5
 have h6:aR (((((((w.setCell ⟨g,0,none⟩ b0).setCell ⟨g,1,none⟩ b1).setCell ⟨g,2,none⟩ b2).setCell ⟨g,3,none⟩ b3).setCell ⟨g,4,none⟩ b4).setCell ⟨g,5,none⟩ b5).setCell ⟨g,6,none⟩ b6) g [b0,b1,b2,b3,b4,b5,b6,a7] t:=df h5 6 b6
 have h7:aR ((((((((w.setCell ⟨g,0,none⟩ b0).setCell ⟨g,1,none⟩ b1).setCell ⟨g,2,none⟩ b2).setCell ⟨g,3,none⟩ b3).setCell ⟨g,4,none⟩ b4).setCell ⟨g,5,none⟩ b5).setCell ⟨g,6,none⟩ b6).setCell ⟨g,7,none⟩ b7) g [b0,b1,b2,b3,b4,b5,b6,b7] t:=df h6 7 b7
 exact h7
theorem aR.setAt{w:World}{g:Nat}{cs:List Value}{t:TypeId}(h:aR w g cs t)(i:Nat)(v:Value):aR (w.setCell ⟨g,i,none⟩ v) g (cs.set i v) t:=by
 have:=df h i v
 rw[List.setIfInBounds_toArray] at this
 exact this
theorem KV{B:Nat}{a w:World}(h:Below B a w){g:Nat}(hg:B<=g)(b0 b1 b2 b3 b4 b5 b6 b7:Value):
  Below B a ((((((((w.setCell ⟨g,0,none⟩ b0).setCell ⟨g,1,none⟩ b1).setCell ⟨g,2,none⟩ b2).setCell ⟨g,3,none⟩ b3).setCell ⟨g,4,none⟩ b4).setCell ⟨g,5,none⟩ b5).setCell ⟨g,6,none⟩ b6).setCell ⟨g,7,none⟩ b7):=
 (((((((h.setCell (p:=⟨g,0,none⟩) hg b0).setCell (p:=⟨g,1,none⟩) hg b1).setCell (p:=⟨g,2,none⟩) hg b2).setCell (p:=⟨g,3,none⟩) hg b3).setCell (p:=⟨g,4,none⟩) hg b4).setCell (p:=⟨g,5,none⟩) hg b5).setCell (p:=⟨g,6,none⟩) hg b6).setCell (p:=⟨g,7,none⟩) hg b7
def Oq(ss:List dQ)(i:Nat):Int:=if i<ss.length then(aN ss i).f1 else 0
def Hd(ss:List dQ)(k i:Nat):Int:=if i<k then(aN ss i).f1 else 0
theorem JV(ss:List dQ)(k:Nat):Hd ss (k+1)=aaV (Hd ss k) k (aN ss k).f1:=by
 funext i
 show(if i<k+1 then(aN ss i).f1 else 0)=if i=k then(aN ss k).f1 else(if i<k then(aN ss i).f1 else 0)
 by_cases h:i=k
 .subst h
  rw[if_pos (by omega),if_pos rfl]
 .rw[if_neg h]
  by_cases h2:i<k
  .rw[if_pos (by omega),if_pos h2]
  .rw[if_neg (by omega),if_neg h2]
theorem Om{A0:Option Addr}{c0:Nat}{old:List Int}{nw:Int}{A2:Option Addr}{c2:Nat}{ss:List dQ}{A3:Option Addr}{c3:Nat}{js:List jO}{w:World}(h:Nr w A0 c0 old A2 c2 ss A3 c3 js)(hss:ss.length<=8):
  Calls Tryz.prog 44 #[.agg #[.slice A0 old.length c0,.int .i64 nw,.slice A2 ss.length c2,.slice A3 js.length c3]] w λe w'=>e= .returned (U2 (Oq ss))/\Below w.heap.size w w':=by
 have H:=aa.mk h
 clear h
 go_enter Tryz.func44,Tryz.ntmps44
 have h12:=((aR.new w [.slice A0 old.length c0,.int .i64 nw,.slice A2 ss.length c2,.slice A3 js.length c3] 43).alloc (.cells #[.int .i64 0,.int .i64 0,.int .i64 0,.int .i64 0,.int .i64 0,.int .i64 0,.int .i64 0,.int .i64 0] 121)).cell 2
 simp only[eP,eO] at h12
 go_wp2_with fail
 clear h12
 have HB0:=aa.mk (ae (ae (Below.refl w.heap.size w) (.cells #[.slice A0 old.length c0,.int .i64 nw,.slice A2 ss.length c2,.slice A3 js.length c3] 43)) (.cells #[.int .i64 0,.int .i64 0,.int .i64 0,.int .i64 0,.int .i64 0,.int .i64 0,.int .i64 0,.int .i64 0] 121))
 have B2:=aa.mk (show aR _ (w.heap.size+1) (qF (Hd ss 0)) 121 by have hB:=aR.new (w.alloc (.cells #[.slice A0 old.length c0,.int .i64 nw,.slice A2 ss.length c2,.slice A3 js.length c3] 43)) [.int .i64 0,.int .i64 0,.int .i64 0,.int .i64 0,.int .i64 0,.int .i64 0,.int .i64 0,.int .i64 0] 121;simp only[World.size_alloc] at hB;exact hB)
 have hs0:w.heap.size+1<((w.alloc (.cells #[.slice A0 old.length c0,.int .i64 nw,.slice A2 ss.length c2,.slice A3 js.length c3] 43)).alloc (.cells #[.int .i64 0,.int .i64 0,.int .i64 0,.int .i64 0,.int .i64 0,.int .i64 0,.int .i64 0,.int .i64 0] 121)).heap.size:=by simp
 generalize(w.alloc (.cells #[.slice A0 old.length c0,.int .i64 nw,.slice A2 ss.length c2,.slice A3 js.length c3] 43)).alloc (.cells #[.int .i64 0,.int .i64 0,.int .i64 0,.int .i64 0,.int .i64 0,.int .i64 0,.int .i64 0,.int .i64 0] 121)=w1 at HB0 B2 hs0 ⊢
 go_loopw [8] (λv8 wr=>∃k:Nat,k<=ss.length/\v8= .int .i64 k/\aa (Below w.heap.size w wr)/\aa (aR wr (w.heap.size+1) (qF (Hd ss k)) 121)) (λv8 _=>ss.length-(intOf v8).toNat)
 case atStart=>exact⟨0,Nat.zero_le _,rfl,HB0,B2⟩
 case round=>
  clear HB0 B2 hs0
  obtain⟨k,hk,rfl,HB,B2⟩:=hrel
  by_cases hkl:k<ss.length
  .obtain⟨ad,e,h0,h1,h2,h3,h4⟩:=yh (H.out.below HB.out).PV (k:Int) (by omega) (by omega)
   cases e
   simp only[Int.toNat_natCast] at h0 h1 h2 h3 h4
   have hst:=JV ss k
   have hrr:aN ss k=iX ss (k:Int):=rfl
   rw[hrr] at hst
   obtain⟨r,hr⟩:∃r,iX ss (k:Int)=r:=⟨_,rfl⟩
   rw[hr] at h0 h1 h2 h3 h4 hst
   have HST:=aa.mk hst
   have hk8:(k:Int)<8:=by omega
   have hc:=B2.out.cell k
   have hcf:=B2.out.frozen k
   rw[jv _ k (by omega)] at hc
   have hg2:=B2.out.lt
   clear hst hr hrr
   go_wp2_with fail
   exact⟨⟨k+1,by omega,rfl,⟨ae (HB.out.setCell (p:=⟨w.heap.size+1,k,none⟩) (by simp only;omega) _) _⟩,⟨by rw[HST.out,<- KI _ _ k (by omega)];exact(B2.out.setAt k _).alloc _⟩⟩,by simp[intOf];omega⟩
  .obtain rfl:k=ss.length:=by omega
   have hg2:=B2.out.lt
   have hc0:=B2.out.cell 0
   have hc1:=B2.out.cell 1
   have hc2:=B2.out.cell 2
   have hc3:=B2.out.cell 3
   have hc4:=B2.out.cell 4
   have OW:=B2.out.cell 5
   have hc6:=B2.out.cell 6
   have Gg:=B2.out.cell 7
   have hf0:=B2.out.frozen 0
   have hf1:=B2.out.frozen 1
   have hf2:=B2.out.frozen 2
   have hf3:=B2.out.frozen 3
   have hf4:=B2.out.frozen 4
   have hf5:=B2.out.frozen 5
   have hf6:=B2.out.frozen 6
   have hf7:=B2.out.frozen 7
   rw[jv _ 0 (by decide)] at hc0
   rw[jv _ 1 (by decide)] at hc1
   rw[jv _ 2 (by decide)] at hc2
   rw[jv _ 3 (by decide)] at hc3
   rw[jv _ 4 (by decide)] at hc4
   rw[jv _ 5 (by decide)] at OW
   rw[jv _ 6 (by decide)] at hc6
   rw[jv _ 7 (by decide)] at Gg
   go_wp2_with fail
   refine bodyPost_ret (results_cell_row rfl _ _ (w.heap.size+1) 121 (qF (Hd ss ss.length)).toArray (0,0) _ rfl (B2.out.agA _ _ _ _ _ _ _ _) Tryz.underlying121 rfl (by kernel_rfl)) rfl ?_
   exact⟨rfl,KV HB.out (by omega) _ _ _ _ _ _ _ _⟩
set_option maxHeartbeats 4000000 in
theorem zi(g:Nat)(x y:Int)(w:World)(hx:w.cell? ⟨g,0,none⟩=some (.int .i64 x))(hy:w.cell? ⟨g,1,none⟩=some (.int .i64 y)):
  Calls Tryz.prog 110 #[.slice (some ⟨g,0,none⟩) 2 2] w λe w'=>e= .returned (.int .i64 (min x y))/\w'=w:=by
 go_enter Tryz.func110,Tryz.ntmps110
 go_wp2_with fail
 go_loopw [3,4] (λv3 v4 wr=>((v3= .int .i64 x/\v4= .int .i64 1)\/(v3= .int .i64 (min x y)/\v4= .int .i64 2))/\wr=w) (λ_ v4 _=>2-(intOf v4).toNat)
 case atStart=>exact⟨.inl ⟨rfl,rfl⟩,rfl⟩
 case round=>
  obtain⟨⟨rfl,rfl⟩|⟨rfl,rfl⟩,rfl⟩:=hrel
  .go_wp2_with fail
   have hmin:(if y<x then y else x)=min x y:=by
    by_cases h:y<x
    .rw[if_pos h];omega
    .rw[if_neg h];omega
   exact⟨⟨.inr ⟨by rw[hmin],rfl⟩,trivial⟩,by simp[intOf]⟩
  .go_wp2_with fail
   go_ret
   exact⟨rfl,rfl⟩
set_option maxHeartbeats 4000000 in
theorem oP(g:Nat)(x y:Int)(w:World)(hx:w.cell? ⟨g,0,none⟩=some (.int .i64 x))(hy:w.cell? ⟨g,1,none⟩=some (.int .i64 y)):
  Calls Tryz.prog 85 #[.slice (some ⟨g,0,none⟩) 2 2] w λe w'=>e= .returned (.int .i64 (min x y))/\w'=w:=by
 go_enter Tryz.func85,Tryz.ntmps85
 go_wp2_with fail
 refine(zi g x y w hx hy).mono ?_
 rintro e w' ⟨rfl,rfl⟩
 go_wp2_with fail
 go_ret
 exact⟨rfl,rfl⟩
theorem Ef(a b:Int)(w:World):Calls Tryz.prog 119 #[.agg #[.int .i64 a,.int .i64 b]] w λe w'=>e= .returned (.int .i64 a)/\Below w.heap.size w w':=by
 go_enter Tryz.func119,Tryz.ntmps119
 go_wp2_with fail
 go_ret
 exact⟨rfl,ae (Below.refl _ _) _⟩
theorem BJ(a b:Int)(w:World):Calls Tryz.prog 120 #[.agg #[.int .i64 a,.int .i64 b]] w λe w'=>e= .returned (.int .i64 b)/\Below w.heap.size w w':=by
 go_enter Tryz.func120,Tryz.ntmps120
 go_wp2_with fail
 go_ret
 exact⟨rfl,ae (Below.refl _ _) _⟩
theorem KO(w:World):Calls Tryz.prog 84 #[] w λe w'=>e= .returned (.tuple #[.agg #[.func (.func 119) #[] #[]],.agg #[.func (.func 120) #[] #[]]])/\Below w.heap.size w w':=by
 go_enter Tryz.func84,Tryz.ntmps84
 go_wp2_with fail
 refine bodyPost_ret (Jt rfl _ _ w.heap.size (w.heap.size+1) 186 186 #[.func (.func 119) #[] #[]] #[.func (.func 120) #[] #[]] (0,0) (0,0) _ _ rfl ((aR.new w [.func (.func 119) #[] #[]] 186).alloc (.cells #[.func (.func 120) #[] #[]] 186)) Tryz.underlying186 rfl (by kernel_rfl) rfl (by have hB:=aR.new (w.alloc (.cells #[.func (.func 119) #[] #[]] 186)) [.func (.func 120) #[] #[]] 186;simp only[World.size_alloc] at hB;exact hB) Tryz.underlying186 rfl (by kernel_rfl)) rfl ?_
 exact⟨rfl,ae (ae (Below.refl _ _) _) _⟩
end Go.Proofs.YtkjoilgpmngndaaGreat
