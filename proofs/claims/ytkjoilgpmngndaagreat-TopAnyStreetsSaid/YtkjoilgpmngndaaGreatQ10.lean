import Derived.Test.YtkjoilgpmngndaaGreatQ9
set_option linter.all false
namespace Go.Proofs.YtkjoilgpmngndaaGreat
open Go.RowKit Go.Shelf Go.Proofs.YtkjoilgpmngndaaGreat.av Go.Proofs.YtkjoilgpmngndaaGreatW.aA Go.Proofs.YtkjoilgpmngndaaGreatW.aJ
def gU(old:List Int)(nw:Int)(ss:List bH)(js:List bS):Int:=
 if old.length<=4/\ss.length<=8/\js.length<=20 then
  (if old.length=0\/ss.length=0 then 1 else if(old.all (fun n=>aY n 0 10000)&&(aY nw 1 4&&(ss.all (lq old.length nw)&&(jc old.length ss&&js.all (ni ss.length)))))=true then 0 else 1) else 3
theorem Pn{no:Nat}{nw:Int}{ss:List bH}(h:ss.all (lq no nw)=true):∀s ∈ ss,0<=s.f2/\s.f2<=1000:=by
 intro s hs
 have:=List.all_eq_true.1 h s hs
 unfold lq aY at this
 simp only[Bool.and_eq_true,decide_eq_true_eq] at this
 omega
set_option maxRecDepth 100000 in
set_option maxHeartbeats 40000000 in
theorem iH{A0:Option Addr}{c0:Nat}{old:List Int}{nw:Int}{A2:Option Addr}{c2:Nat}{ss:List bH}{A3:Option Addr}{c3:Nat}{js:List bS}{w:World}(h:uX w A0 c0 old A2 c2 ss A3 c3 js):
  Calls Tryz.prog 45 #[.agg #[.slice A0 old.length c0,.int .i64 nw,.slice A2 ss.length c2,.slice A3 js.length c3]] w fun e w'=>e= .returned (.int .i64 (gU old nw ss js))/\Below w.heap.size w w':=by
 have H:=aa.mk h
 have hb0:=h.b0
 have hb2:=h.b2
 have hb3:=h.b3
 clear h
 go_enter Tryz.func45,Tryz.ntmps45
 go_wp2_with fail
 have HB0:=aa.mk (ae (Below.refl w.heap.size w) (.cells #[.slice A0 old.length c0,.int .i64 nw,.slice A2 ss.length c2,.slice A3 js.length c3] 43))
 have B10:=aa.mk (aR.new w [.slice A0 old.length c0,.int .i64 nw,.slice A2 ss.length c2,.slice A3 js.length c3] 43)
 generalize w.alloc (.cells #[.slice A0 old.length c0,.int .i64 nw,.slice A2 ss.length c2,.slice A3 js.length c3] 43)=w0 at HB0 B10 ⊢
 have h10:=B10.out.cell 0
 have h11:=B10.out.cell 1
 have h12:=B10.out.cell 2
 have mg:=B10.out.cell 3
 simp only[List.getElem?_cons_zero,List.getElem?_cons_succ] at h10 h11 h12 mg
 go_region
 have HB1:=aa.mk (bG HB0.out)
 have B11:=aa.mk (B10.out.move rfl:aR w0.drew _ _ _)
 clear HB0 B10 h10 h11 h12 mg
 generalize w0.drew=w1 at HB1 B11 ⊢
 have h10:=B11.out.cell 0
 have h11:=B11.out.cell 1
 have h12:=B11.out.cell 2
 have mg:=B11.out.cell 3
 simp only[List.getElem?_cons_zero,List.getElem?_cons_succ] at h10 h11 h12 mg
 by_cases c1:old.length<=4
 rotate_left
 .have c1b:decide (4<(old.length:Int))=true:=by simp;omega
  have HF:=aa.mk (show gU old nw ss js=3 by unfold gU;rw[if_neg (fun x=>c1 x.1)])
  clear c1
  go_wp2_with fail
  go_ret
  rw[HF.out]
  exact⟨rfl,HB1.out⟩
 have c1b:decide (4<(old.length:Int))=false:=by simp;omega
 by_cases c2':ss.length<=8
 rotate_left
 .have c2b:decide (8<(ss.length:Int))=true:=by simp;omega
  have HF:=aa.mk (show gU old nw ss js=3 by unfold gU;rw[if_neg (fun x=>c2' x.2.1)])
  clear c1 c2'
  go_wp2_with fail
  go_ret
  rw[HF.out]
  exact⟨rfl,HB1.out⟩
 have c2b:decide (8<(ss.length:Int))=false:=by simp;omega
 by_cases c3':js.length<=20
 rotate_left
 .have c3b:decide (20<(js.length:Int))=true:=by simp;omega
  have HF:=aa.mk (show gU old nw ss js=3 by unfold gU;rw[if_neg (fun x=>c3' x.2.2)])
  clear c1 c2' c3'
  go_wp2_with fail
  go_ret
  rw[HF.out]
  exact⟨rfl,HB1.out⟩
 have c3b:decide (20<(js.length:Int))=false:=by simp;omega
 have HL:=aa.mk (show gU old nw ss js=if old.length=0\/ss.length=0 then 1 else if(old.all (fun n=>aY n 0 10000)&&(aY nw 1 4&&(ss.all (lq old.length nw)&&(jc old.length ss&&js.all (ni ss.length)))))=true then 0 else 1 by unfold gU;rw[if_pos ⟨c1,c2',c3'⟩])
 by_cases z1:old.length=0
 .have z1b:((old.length:Int)==0)=true:=by simp[z1]
  have HF:=aa.mk (show gU old nw ss js=1 by rw[HL.out,if_pos (.inl z1)])
  clear z1
  go_wp2_with fail
  go_ret
  rw[HF.out]
  exact⟨rfl,HB1.out⟩
 have z1b:((old.length:Int)==0)=false:=by rw[beq_eq_false_iff_ne];omega
 by_cases z2:ss.length=0
 .have z2b:((ss.length:Int)==0)=true:=by simp[z2]
  have HF:=aa.mk (show gU old nw ss js=1 by rw[HL.out,if_pos (.inr z2)])
  clear z1 z2
  go_wp2_with fail
  go_ret
  rw[HF.out]
  exact⟨rfl,HB1.out⟩
 have z2b:((ss.length:Int)==0)=false:=by rw[beq_eq_false_iff_ne];omega
 have HL:=aa.mk (show gU old nw ss js=if(old.all (fun n=>aY n 0 10000)&&(aY nw 1 4&&(ss.all (lq old.length nw)&&(jc old.length ss&&js.all (ni ss.length)))))=true then 0 else 1 by rw[HL.out,if_neg (by omega)])
 clear z1 z2 c1 c2'
 go_wp2_with fail
 refine(Iw 90 #[] #[] (enters Tryz.func90 (by kernel_rfl) rfl) (fun n=>aY n 0 10000) A0 c0 old w1 (H.out.below HB1.out).PY (by omega) (fun W x hW=>Cx x W)).mono ?_
 rintro e w2 ⟨rfl,M3⟩
 have HB2:=aa.mk (HB1.out.trans (M3.mono HB1.out.size))
 have BP:=aa.mk (B11.out.below M3)
 clear M3 HB1 B11 h10 h11 h12 mg
 cases a2:(old.all (fun n=>aY n 0 10000))
 .have HF:=aa.mk (show gU old nw ss js=1 by rw[HL.out,a2];simp)
  go_wp2_with fail
  go_ret
  rw[HF.out]
  exact⟨rfl,HB2.out⟩
 have h10:=BP.out.cell 0
 have h11:=BP.out.cell 1
 have h12:=BP.out.cell 2
 have mg:=BP.out.cell 3
 simp only[List.getElem?_cons_zero,List.getElem?_cons_succ] at h10 h11 h12 mg
 go_wp2_with fail
 refine(iq nw 1 4 w2).mono ?_
 rintro e w3 ⟨rfl,jR⟩
 have HB3:=aa.mk (HB2.out.trans (jR.mono HB2.out.size))
 have zk:=aa.mk (BP.out.below jR)
 clear jR HB2 BP h10 h11 h12 mg
 cases a3:(aY nw 1 4)
 .have HF:=aa.mk (show gU old nw ss js=1 by rw[HL.out,a2,a3];simp)
  go_wp2_with fail
  go_ret
  rw[HF.out]
  exact⟨rfl,HB3.out⟩
 have h10:=zk.out.cell 0
 have h11:=zk.out.cell 1
 have h12:=zk.out.cell 2
 have mg:=zk.out.cell 3
 simp only[List.getElem?_cons_zero,List.getElem?_cons_succ] at h10 h11 h12 mg
 have hnw:0<=nw/\nw<=1000:=by
  unfold aY at a3
  simp only[Bool.and_eq_true,decide_eq_true_eq] at a3
  omega
 go_wp2_with fail
 refine(Nu 87 #[.agg #[.slice A0 old.length c0,.int .i64 nw,.slice A2 ss.length c2,.slice A3 js.length c3]] #[] (enters Tryz.func87 (by kernel_rfl) rfl) (lq old.length nw) A2 c2 ss w3 (H.out.below HB3.out).Lg (by omega) (fun W x hW=>DD x W hb0 hnw)).mono ?_
 rintro e w4 ⟨rfl,jR⟩
 have kY:=aa.mk (HB3.out.trans (jR.mono HB3.out.size))
 have N7:=aa.mk (zk.out.below jR)
 clear jR HB3 zk h10 h11 h12 mg
 cases a4:(ss.all (lq old.length nw))
 .have HF:=aa.mk (show gU old nw ss js=1 by rw[HL.out,a2,a3,a4];simp)
  go_wp2_with fail
  go_ret
  rw[HF.out]
  exact⟨rfl,kY.out⟩
 have h10:=N7.out.cell 0
 have h11:=N7.out.cell 1
 have h12:=N7.out.cell 2
 have mg:=N7.out.cell 3
 simp only[List.getElem?_cons_zero,List.getElem?_cons_succ] at h10 h11 h12 mg
 have HWT:=aa.mk (Pn a4)
 go_wp2_with fail
 refine(Ch (H.out.below kY.out) (by have:=of_decide_eq_false c2b;omega) (by have:=of_decide_eq_false c1b;omega) HWT.out).mono ?_
 rintro e w5 ⟨rfl,jR⟩
 have uY:=aa.mk (kY.out.trans (jR.mono kY.out.size))
 have Ut:=aa.mk (N7.out.below jR)
 clear jR kY N7 h10 h11 h12 mg
 cases a5:(jc old.length ss)
 .have HF:=aa.mk (show gU old nw ss js=1 by rw[HL.out,a2,a3,a4,a5];simp)
  go_wp2_with fail
  go_ret
  rw[HF.out]
  exact⟨rfl,uY.out⟩
 have h10:=Ut.out.cell 0
 have h11:=Ut.out.cell 1
 have h12:=Ut.out.cell 2
 have mg:=Ut.out.cell 3
 simp only[List.getElem?_cons_zero,List.getElem?_cons_succ] at h10 h11 h12 mg
 go_wp2_with fail
 refine(TB 88 #[.agg #[.slice A0 old.length c0,.int .i64 nw,.slice A2 ss.length c2,.slice A3 js.length c3]] #[] (enters Tryz.func88 (by kernel_rfl) rfl) (ni ss.length) A3 c3 js w5 (H.out.below uY.out).kjo (by omega) (fun W x hW=>MR x W hb2)).mono ?_
 rintro e w6 ⟨rfl,jR⟩
 have IG:=aa.mk (uY.out.trans (jR.mono uY.out.size))
 clear jR uY Ut h10 h11 h12 mg
 cases a6:(js.all (ni ss.length))
 .have HF:=aa.mk (show gU old nw ss js=1 by rw[HL.out,a2,a3,a4,a5,a6];simp)
  go_wp2_with fail
  go_ret
  rw[HF.out]
  exact⟨rfl,IG.out⟩
 have HF:=aa.mk (show gU old nw ss js=0 by rw[HL.out,a2,a3,a4,a5,a6];simp)
 go_wp2_with fail
 go_ret
 rw[HF.out]
 exact⟨rfl,IG.out⟩
end Go.Proofs.YtkjoilgpmngndaaGreat
namespace Go.Proofs.YtkjoilgpmngndaaGreat
open Go.RowKit Go.Shelf Go.Proofs.YtkjoilgpmngndaaGreat.av Go.Proofs.YtkjoilgpmngndaaGreatW.aA Go.Proofs.YtkjoilgpmngndaaGreatW.aJ
attribute [local go_sem] Oper.semAt_some
def gK(xs:List IS):Int:=(xs.map (fun x=>x.2.f3.f0)).sum
def gL(xs:List IS):Int:=(xs.map (fun x=>x.2.f3.f1)).sum
theorem uy(xs:List IS)(x:IS):gK (xs++[x])=gK xs+x.2.f3.f0:=by
 unfold gK
 rw[List.map_append,List.sum_append]
 simp
theorem uC(xs:List IS)(x:IS):gL (xs++[x])=gL xs+x.2.f3.f1:=by
 unfold gL
 rw[List.map_append,List.sum_append]
 simp
def TR(xs:List IS):Prop:=∀x ∈ xs,0<=x.2.f3.f0/\x.2.f3.f0<=x.2.f3.f1/\x.2.f3.f1<=10000
theorem kL{xs:List IS}(h:TR xs):0<=gK xs/\gK xs<=gL xs/\gL xs<=10000*xs.length:=by
 unfold gK gL
 induction xs with
 |nil=>simp
 |cons x xs ih=>
  have h1:=h x List.mem_cons_self
  have h2:=ih (fun y hy=>h y (List.mem_cons_of_mem _ hy))
  simp only[List.map_cons,List.sum_cons,List.length_cons]
  omega
structure iP(no:Nat)(nw:Int)(s:bH):Prop where
 o0:0<=s.f0
 o1:s.f0<no
 n0:0<=s.f1
 n1:s.f1<nw
 w0:0<=s.f2
 w1:s.f2<=1000
 p0:0<=s.f3.f0
 p1:s.f3.f0<=s.f3.f1
 p2:s.f3.f1<=10000
theorem Jh{no:Nat}{nw:Int}{s:bH}(h:lq no nw s=true):iP no nw s:=by
 unfold lq aY gW at h
 simp only[Bool.and_eq_true,decide_eq_true_eq] at h
 obtain⟨⟨h1,h2⟩,⟨h3,h4⟩,⟨h5,h6⟩,h7,h8,h9⟩:=h
 exact⟨h1,by omega,h3,by omega,h5,h6,h7,h8,h9⟩
theorem kI{old:List Int}{nw:Int}{ss:List bH}{js:List bS}(h:gU old nw ss js=0):0<old.length/\old.length<=4/\0<ss.length/\ss.length<=8/\js.length<=20/\(∀n ∈ old,0<=n/\n<=10000)/\1<=nw/\nw<=4/\(∀s ∈ ss,iP old.length nw s)/\jc old.length ss=true/\js.all (ni ss.length)=true:=by
 unfold gU at h
 by_cases h1:old.length<=4/\ss.length<=8/\js.length<=20
 .rw[if_pos h1] at h
  by_cases h2:old.length=0\/ss.length=0
  .rw[if_pos h2] at h;cases h
  .rw[if_neg h2] at h
   split at h
   .next h3=>
    simp only[Bool.and_eq_true] at h3
    obtain⟨a1,a2,a3,a4,a5⟩:=h3
    unfold aY at a2
    simp only[Bool.and_eq_true,decide_eq_true_eq] at a2
    refine⟨by omega,h1.1,by omega,h1.2.1,h1.2.2,fun n hn=>?_,a2.1,a2.2,fun s hs=>Jh (List.all_eq_true.1 a3 s hs),a4,a5⟩
    have:=List.all_eq_true.1 a1 n hn
    unfold aY at this
    simpa using this
   .cases h
 .rw[if_neg h1] at h;cases h
def yQ(old:List Int)(ss:List bH)(d:Nat):Bool:=aY (rd old (d:Int)) (gK (dI ss (d:Int) ss.length)) (gL (dI ss (d:Int) ss.length))
def gY(old:List Int)(nw:Int)(ss:List bH)(js:List bS):Int:=
 if gU old nw ss js=0 then(if(List.range old.length).all (yQ old ss)=true then 0 else 9) else gU old nw ss js
set_option maxRecDepth 100000 in
set_option maxHeartbeats 40000000 in
theorem mh{A0:Option Addr}{c0:Nat}{old:List Int}{nw:Int}{A2:Option Addr}{c2:Nat}{ss:List bH}{A3:Option Addr}{c3:Nat}{js:List bS}{w:World}(h:uX w A0 c0 old A2 c2 ss A3 c3 js):
  Calls Tryz.prog 40 #[.agg #[.slice A0 old.length c0,.int .i64 nw,.slice A2 ss.length c2,.slice A3 js.length c3]] w fun e w'=>e= .returned (.int .i64 (gY old nw ss js))/\Below w.heap.size w w':=by
 have H:=aa.mk h
 have hb2:=h.b2
 clear h
 refine(callsIn_wide (n:=9)).1 (dx Tryz.func40 rfl trivial ?_ rfl)
 simp only[Tryz.ntmps40,List.size_toArray,List.length_cons,List.length_nil,Nat.reduceAdd,Nat.reduceSub,Array.replicate_succ,Array.replicate_zero,List.push_toArray,List.append_toArray,List.nil_append,List.cons_append]
 refine wpIn_wide.2 ?_
 go_wp2_with (with_reducible refine wpIn_wide.2 ?_)
 have HB0:=aa.mk (ae (Below.refl w.heap.size w) (.cells #[.slice A0 old.length c0,.int .i64 nw,.slice A2 ss.length c2,.slice A3 js.length c3] 43))
 have B10:=aa.mk (aR.new w [.slice A0 old.length c0,.int .i64 nw,.slice A2 ss.length c2,.slice A3 js.length c3] 43)
 generalize w.alloc (.cells #[.slice A0 old.length c0,.int .i64 nw,.slice A2 ss.length c2,.slice A3 js.length c3] 43)=w1 at HB0 B10 ⊢
 refine(iH (H.out.below HB0.out)).mono ?_
 rintro e w0 ⟨rfl,jR⟩
 have HB:=aa.mk (HB0.out.trans (jR.mono HB0.out.size))
 have B1:=aa.mk (B10.out.below jR)
 clear jR HB0 B10
 by_cases hc:gU old nw ss js=0
 rotate_left
 .have hcb:(gU old nw ss js !=0)=true:=by simp[hc]
  have HF:=aa.mk (show gY old nw ss js=gU old nw ss js by unfold gY;rw[if_neg hc])
  clear hc
  go_wp2_with (with_reducible refine wpIn_wide.2 ?_)
  refine Marks.leaves (lo:=w.heap.size) (Inv:=fun W=>Below w.heap.size w W) (fun W D hlo hD hi=>hi.grown (grownBy_putObj' W D _) hi.size (fun k e=>by cases e;exact hlo)) (fun W hi=>?_) [] w0 trivial HB.out
  refine⟨_,results_tmp rfl _ _ _,?_,hi⟩
  show Ending.returned (.int .i64 (gU old nw ss js))=_
  rw[HF.out]
 have HK:=aa.mk (kI hc)
 have HL:=aa.mk (show gY old nw ss js=if(List.range old.length).all (yQ old ss)=true then 0 else 9 by unfold gY;rw[if_pos hc])
 have ai9:=(kI hc).2.2.2.1
 rw[hc]
 clear hc
 have h10:=B1.out.cell 0
 have h11:=B1.out.cell 1
 have h12:=B1.out.cell 2
 have mg:=B1.out.cell 3
 simp only[List.getElem?_cons_zero,List.getElem?_cons_succ] at h10 h11 h12 mg
 go_wp2_with (with_reducible refine wpIn_wide.2 ?_)
 clear h10 h11 h12 mg
 refine wp_loop (fun a' wr=>∃(ds:List Deferred) (d:Nat),d<=old.length/\aa (∀j:Nat,j<d->yQ old ss j=true)/\aa (Below w.heap.size w wr)/\aa (aR wr w.heap.size [.slice A0 old.length c0,.int .i64 nw,.slice A2 ss.length c2,.slice A3 js.length c3] 43)/\aa (Marks w.heap.size wr ds)/\a'={tmps:=#[.agg #[.slice A0 old.length c0,.int .i64 nw,.slice A2 ss.length c2,.slice A3 js.length c3],.pointer (some ⟨w.heap.size,0,none⟩),.int .i64 0,.int .i64 0,a'.tmps.getD 4 undef,a'.tmps.getD 5 undef,a'.tmps.getD 6 undef,a'.tmps.getD 7 undef,a'.tmps.getD 8 undef,.agg #[.slice A0 old.length c0,.int .i64 nw,.slice A2 ss.length c2,.slice A3 js.length c3],.int .i64 0,.int .i64 0,.bool false,a'.tmps.getD 13 undef,.pointer (some ⟨w.heap.size,0,none⟩),.slice A0 old.length c0,.int .i64 (old.length:Int),.int .i64 (d:Int),a'.tmps.getD 18 undef,a'.tmps.getD 19 undef,a'.tmps.getD 20 undef,a'.tmps.getD 21 undef,a'.tmps.getD 22 undef,a'.tmps.getD 23 undef,a'.tmps.getD 24 undef,a'.tmps.getD 25 undef,a'.tmps.getD 26 undef,a'.tmps.getD 27 undef,a'.tmps.getD 28 undef,a'.tmps.getD 29 undef,a'.tmps.getD 30 undef,a'.tmps.getD 31 undef,a'.tmps.getD 32 undef,a'.tmps.getD 33 undef,a'.tmps.getD 34 undef,a'.tmps.getD 35 undef,a'.tmps.getD 36 undef,a'.tmps.getD 37 undef,a'.tmps.getD 38 undef,a'.tmps.getD 39 undef,a'.tmps.getD 40 undef,a'.tmps.getD 41 undef,a'.tmps.getD 42 undef,a'.tmps.getD 43 undef,a'.tmps.getD 44 undef,a'.tmps.getD 45 undef,a'.tmps.getD 46 undef,a'.tmps.getD 47 undef,a'.tmps.getD 48 undef],defers:=ds}) (fun a' _=>old.length-(intOf (a'.tmps.getD 17 undef)).toNat) ?start ?round
 case start=>exact⟨[],0,Nat.zero_le _,⟨fun j hj=>absurd hj (Nat.not_lt_zero _)⟩,HB,B1,⟨trivial⟩,rfl⟩
 case round=>
  clear HB B1
  rintro a' wr ⟨ds,d,hd,HJ,HB,B1,HM,hfr⟩
  obtain⟨u,hu⟩:∃u:Nat->Value,a'={tmps:=#[.agg #[.slice A0 old.length c0,.int .i64 nw,.slice A2 ss.length c2,.slice A3 js.length c3],.pointer (some ⟨w.heap.size,0,none⟩),.int .i64 0,.int .i64 0,(u 4),(u 5),(u 6),(u 7),(u 8),.agg #[.slice A0 old.length c0,.int .i64 nw,.slice A2 ss.length c2,.slice A3 js.length c3],.int .i64 0,.int .i64 0,.bool false,(u 13),.pointer (some ⟨w.heap.size,0,none⟩),.slice A0 old.length c0,.int .i64 (old.length:Int),.int .i64 (d:Int),(u 18),(u 19),(u 20),(u 21),(u 22),(u 23),(u 24),(u 25),(u 26),(u 27),(u 28),(u 29),(u 30),(u 31),(u 32),(u 33),(u 34),(u 35),(u 36),(u 37),(u 38),(u 39),(u 40),(u 41),(u 42),(u 43),(u 44),(u 45),(u 46),(u 47),(u 48)],defers:=ds}:=⟨fun i=>a'.tmps.getD i undef,hfr⟩
  clear hfr
  subst hu
  dsimp only
  by_cases hlt:d<old.length
  .have hg1:=B1.out.lt
   have h10:=B1.out.cell 0
   have h11:=B1.out.cell 1
   have h12:=B1.out.cell 2
   have mg:=B1.out.cell 3
   simp only[List.getElem?_cons_zero,List.getElem?_cons_succ] at h10 h11 h12 mg
   obtain⟨ad,e,hx⟩:=Kd.dz (H.out.below HB.out).PY (d:Int) (by omega) (by omega)
   cases e
   simp only[Int.toNat_natCast] at hx
   have HFB:=aa.mk (show yQ old ss d=aY (rd old (d:Int)) (gK (dI ss (d:Int) ss.length)) (gL (dI ss (d:Int) ss.length)) from rfl)
   obtain⟨cnt,hcnt⟩:∃x,rd old (d:Int)=x:=⟨_,rfl⟩
   rw[hcnt] at hx HFB
   clear hcnt
   go_wp2_with (with_reducible refine wpIn_wide.2 ?_)
   have HB1:=aa.mk (ae HB.out (.cells #[.int .i64 0,.int .i64 0] 52))
   have B11:=aa.mk (B1.out.alloc (.cells #[.int .i64 0,.int .i64 0] 52))
   have B4:=aa.mk (aR.new wr [.int .i64 0,.int .i64 0] 52)
   have zG:=aa.mk (HM.out.alloc (.cells #[.int .i64 0,.int .i64 0] 52))
   have hs1:=size_alloc wr (.cells #[.int .i64 0,.int .i64 0] 52)
   clear HB B1 HM h10 h11 h12 mg hx
   generalize wr.alloc (.cells #[.int .i64 0,.int .i64 0] 52)=wa at HB1 B11 B4 zG hs1 ⊢
   generalize wr.heap.size=g4 at B4 hs1 hg1 ⊢
   refine((callsIn_wide (n:=8)).1 (JL Fence.wide 8 trivial rfl _ _ _ _ _ rfl rfl rfl rfl wa)).mono ?_
   rintro e w4 ⟨rfl,rfl⟩
   have HB2:=aa.mk (ae (ae HB1.out (.cells #[.slice (some ad) old.length c0,.int .i64 nw,.slice A2 ss.length c2,.slice A3 js.length c3] 43)) (.cells #[.int .i64 (d:Int)] 3))
   have BP:=aa.mk ((B11.out.alloc (.cells #[.slice (some ad) old.length c0,.int .i64 nw,.slice A2 ss.length c2,.slice A3 js.length c3] 43)).alloc (.cells #[.int .i64 (d:Int)] 3))
   have xO:=aa.mk ((B4.out.alloc (.cells #[.slice (some ad) old.length c0,.int .i64 nw,.slice A2 ss.length c2,.slice A3 js.length c3] 43)).alloc (.cells #[.int .i64 (d:Int)] 3))
   have I5:=aa.mk ((zG.out.alloc (.cells #[.slice (some ad) old.length c0,.int .i64 nw,.slice A2 ss.length c2,.slice A3 js.length c3] 43)).alloc (.cells #[.int .i64 (d:Int)] 3))
   have xC:=aa.mk ((aR.new wa [.slice (some ad) old.length c0,.int .i64 nw,.slice A2 ss.length c2,.slice A3 js.length c3] 43).alloc (.cells #[.int .i64 (d:Int)] 3))
   have uT:=aa.mk (aR.new (wa.alloc (.cells #[.slice (some ad) old.length c0,.int .i64 nw,.slice A2 ss.length c2,.slice A3 js.length c3] 43)) [.int .i64 (d:Int)] 3)
   simp only[World.size_alloc] at uT
   have hsz:((wa.alloc (.cells #[.slice (some ad) old.length c0,.int .i64 nw,.slice A2 ss.length c2,.slice A3 js.length c3] 43)).alloc (.cells #[.int .i64 (d:Int)] 3)).heap.size=wa.heap.size+1+1:=by simp
   clear HB1 B11 B4 zG
   generalize(wa.alloc (.cells #[.slice (some ad) old.length c0,.int .i64 nw,.slice A2 ss.length c2,.slice A3 js.length c3] 43)).alloc (.cells #[.int .i64 (d:Int)] 3)=w4 at HB2 BP xO I5 xC uT hsz ⊢
   obtain⟨gx,hgx⟩:∃gx,wa.heap.size=gx:=⟨_,rfl⟩
   rw[hgx] at xC uT hsz hs1 ⊢
   clear hgx
   have HC:=aa.mk (H.out.below HB2.out)
   have hlo:=nP H.out.Lg
   go_wp2_with (with_reducible refine wpIn_wide.2 ?_)
   refine(wpIn_wide (n:=9)).1 ?_
   refine vK (gm:=gx) (gn:=gx+1) (by decide) (by decide) rfl (n₀:=w4.heap.size) (S:=fun b=>b=g4) (u0:= .slice (some ad) old.length c0) (u1:= .int .i64 nw) (u3:= .slice A3 js.length c3) (A2:=A2) (c2:=c2) (ss:=ss) (old:=(d:Int)) hb2 (Nat.le_refl _) ?reads
    (fun t x=>(t.setIfInBounds 26 (.int .i64 (x.1:Int))).setIfInBounds 27 (encS x.2)) (fun t x g=>((t.setIfInBounds 26 (.int .i64 (x.1:Int))).setIfInBounds 27 (encS x.2)).setIfInBounds 8 (.pointer (some ⟨g,0,none⟩))) (fun t x=>Lm t 26 27 _ _)
    (fun pre W=>aa (aR W g4 [.int .i64 (gK pre),.int .i64 (gL pre)] 52)/\aa (Below w.heap.size w W)/\aa (aR W w.heap.size [.slice (some ad) old.length c0,.int .i64 nw,.slice A2 ss.length c2,.slice A3 js.length c3] 43)/\aa (fH w4 W)/\aa (w4.heap.size<=W.heap.size)/\aa (TR pre)) ?own (fun xs W hi=>hi.2.2.2.2.1.out) ⟨xO,HB2,BP,⟨fH.refl _⟩,⟨Nat.le_refl _⟩,⟨fun x hx=>by cases hx⟩⟩ ?assign ?body ?done
   case reads=>exact⟨xC.out,by simpa using uT.out.cell 0,HC.out.Lg,⟨by omega,by omega⟩,⟨by omega,by omega⟩,fun h0 ad e=>⟨by have:=hlo h0 ad e;omega,by have:=hlo h0 ad e;omega⟩⟩
   case own=>
    rintro xs W W' row ⟨i1,i2,i3,i4,i5,i6⟩ hg hr
    have hr':=fun r e=>(hr r e).1
    have h5:=i5.out
    have hw2:=HB2.out.size
    exact⟨⟨i1.out.kept (B:=w4.heap.size) (by omega) hg hr'⟩,⟨i2.out.grown hg i2.out.size (fun k e=>by have:=hr' k e;omega)⟩,⟨i3.out.kept (B:=w4.heap.size) (by omega) hg hr'⟩,⟨i4.out.kept (Nat.le_refl _) hg hr'⟩,⟨Nat.le_trans h5 hg.size⟩,i6⟩
   case assign=>
    intro l x W K hx hK
    simp only[List.setIfInBounds_toArray,List.set_cons_zero,List.set_cons_succ,cellsS,encS] at hK ⊢
    gi_wp2_with fail
    exact hK
   case body=>
    rintro l pre x g W hx hlen ⟨i1,i2,i3,i4,i5,i6⟩ hg hBg
    simp only[List.setIfInBounds_toArray,List.set_cons_zero,List.set_cons_succ,encS]
    have hc4:=i1.out.cell 0
    have Qh:=i1.out.cell 1
    have ajR:=i1.out.frozen 0
    have am0:=i1.out.frozen 1
    have hgc:=hBg.cell 3
    have ajA:=hBg.cell 4
    simp only[List.getElem?_cons_zero,List.getElem?_cons_succ,cellsS] at hc4 Qh hgc ajA
    have hok:iP old.length nw x.2:=HK.out.2.2.2.2.2.2.2.2.1 _ (by rw[hx.2.1];exact kM ss x.1 hx.1)
    have Sg:0<=x.2.f3.f0/\x.2.f3.f0<=x.2.f3.f1/\x.2.f3.f1<=10000:=⟨hok.p0,hok.p1,hok.p2⟩
    have hws:=kL i6.out
    have hpl:(pre.length:Int)<8:=by omega
    have hsum:wrap64 (gK pre+x.2.f3.f0)=gK pre+x.2.f3.f0:=IntWalk.wrap64_in _ (by omega)
    have AR:wrap64 (gL pre+x.2.f3.f1)=gL pre+x.2.f3.f1:=IntWalk.wrap64_in _ (by omega)
    have hsn:=uy pre x
    have ZQ:=uC pre x
    obtain⟨sm,hsm⟩:∃s,gK pre=s:=⟨_,rfl⟩
    obtain⟨Ck,yh⟩:∃s,gL pre=s:=⟨_,rfl⟩
    rw[hsm] at hsum hc4 hsn
    rw[yh] at AR Qh ZQ
    have TY:=aa.mk hsn
    have ak1:=aa.mk ZQ
    have HWX:=aa.mk Sg
    have h5:=i5.out
    have hgw:=hBg.lt
    clear hsn ZQ hsm yh hws hpl Sg hok
    gi_wp2_with fail
    refine⟨⟨by simp[World.setCell],fun k o hk ho hc=>(Below.heap_setCell _ _ _ _ (by simp only;omega)).trans ((Below.heap_setCell _ _ _ _ (by simp only;omega)).trans ho)⟩,((bq.refl w4.heap.size (fun b=>b=g4) W).setCell (p:=⟨g4,0,none⟩) (.inl rfl) _).setCell (p:=⟨g4,1,none⟩) (.inl rfl) _,⟨by rw[TY.out,ak1.out];exact i1.out.set2 _ _⟩,⟨(i2.out.setCell (p:=⟨g4,0,none⟩) (by simp only;omega) _).setCell (p:=⟨g4,1,none⟩) (by simp only;omega) _⟩,⟨(i3.out.move (Below.heap_setCell _ ⟨g4,0,none⟩ _ _ (by simp only;omega))).move (Below.heap_setCell _ ⟨g4,1,none⟩ _ _ (by simp only;omega))⟩,⟨(i4.out.setCell _ _).setCell _ _⟩,⟨by rw[size_set,size_set];exact h5⟩,⟨fun y hy=>?_⟩⟩
    rcases List.mem_append.1 hy with hy|hy
    .exact i6.out y hy
    .obtain rfl:=List.mem_singleton.1 hy
     exact HWX.out
   case done=>
    rintro D W hD ⟨i1,i2,i3,i4,i5,i6⟩ uW
    have amv:=HK.out.2.1
    have NP:=aa.mk (Marks.cons I5.out i4.out hD (by omega) uW)
    have hc4:=i1.out.cell 0
    have Qh:=i1.out.cell 1
    simp only[List.getElem?_cons_zero,List.getElem?_cons_succ] at hc4 Qh
    obtain⟨sm,hsm⟩:∃s,gK (dI ss (d:Int) ss.length)=s:=⟨_,rfl⟩
    obtain⟨Ck,yh⟩:∃s,gL (dI ss (d:Int) ss.length)=s:=⟨_,rfl⟩
    rw[hsm] at hc4 HFB
    rw[yh] at Qh HFB
    clear hsm yh
    dsimp only
    go_wp2_with (with_reducible refine wpIn_wide.2 ?_)
    refine(iq cnt sm Ck W).mono ?_
    rintro e W5 ⟨rfl,jR⟩
    have uY:=aa.mk (i2.out.trans (jR.mono i2.out.size))
    have Ut:=aa.mk (i3.out.below jR)
    have Q3:=aa.mk (Marks.move (fun D hD=>(jR.block D (Array.getElem?_eq_some_iff.1 hD).1).trans hD) NP.out)
    clear jR i1 i2 i3 i4 i5 i6 NP hc4 Qh
    cases ZI:aY cnt sm Ck
    .have HF:=aa.mk (show gY old nw ss js=9 by
      rw[HL.out,if_neg]
      intro hall
      have:=List.all_eq_true.1 hall d (List.mem_range.2 hlt)
      rw[HFB.out,ZI] at this
      cases this)
     go_wp2_with (with_reducible refine wpIn_wide.2 ?_)
     refine Marks.leaves (lo:=w.heap.size) (Inv:=fun W=>Below w.heap.size w W) (fun W D hlo hD hi=>hi.grown (grownBy_putObj' W D _) hi.size (fun k e=>by cases e;exact hlo)) (fun W hi=>?_) _ W5 Q3.out uY.out
     refine⟨_,results_tmp rfl _ _ _,?_,hi⟩
     show Ending.returned (.int .i64 9)=_
     rw[HF.out]
    .have HJ2:=aa.mk (fun(j:Nat) (hj:j<d+1)=>if h:j=d then(show yQ old ss j=true by rw[h,HFB.out,ZI]) else HJ.out j (by omega))
     go_wp2_with (with_reducible refine wpIn_wide.2 ?_)
     refine⟨⟨_,d+1,by omega,HJ2,uY,Ut,Q3,rfl⟩,?_⟩
     show old.length-(intOf (.int .i64 ((d:Int)+1))).toNat<old.length-(intOf (.int .i64 (d:Int))).toNat
     simp[intOf]
     omega
  .obtain rfl:d=old.length:=by omega
   have HF:=aa.mk (show gY old nw ss js=0 by rw[HL.out,if_pos (List.all_eq_true.2 (fun j hj=>HJ.out j (List.mem_range.1 hj)))])
   go_wp2_with (with_reducible refine wpIn_wide.2 ?_)
   refine Marks.leaves (lo:=w.heap.size) (Inv:=fun W=>Below w.heap.size w W) (fun W D hlo hD hi=>hi.grown (grownBy_putObj' W D _) hi.size (fun k e=>by cases e;exact hlo)) (fun W hi=>?_) ds wr HM.out HB.out
   refine⟨_,results_tmp rfl _ _ _,?_,hi⟩
   show Ending.returned (.int .i64 0)=_
   rw[HF.out]
end Go.Proofs.YtkjoilgpmngndaaGreat
namespace Go.Proofs.YtkjoilgpmngndaaGreat
open Go.RowKit Go.Shelf Go.Proofs.YtkjoilgpmngndaaGreat.av Go.Proofs.YtkjoilgpmngndaaGreatW.aA Go.Proofs.YtkjoilgpmngndaaGreatW.aJ
def bJ(l:Nat->Int):List Value:=[.int .i64 (l 0),.int .i64 (l 1),.int .i64 (l 2),.int .i64 (l 3),.int .i64 (l 4),.int .i64 (l 5),.int .i64 (l 6),.int .i64 (l 7)]
def sS(l:Nat->Int):Value:= .agg #[.int .i64 (l 0),.int .i64 (l 1),.int .i64 (l 2),.int .i64 (l 3),.int .i64 (l 4),.int .i64 (l 5),.int .i64 (l 6),.int .i64 (l 7)]
def oG(l:Nat->Int)(i:Nat)(v:Int):Nat->Int:=fun n=>if n=i then v else l n
theorem gJ(l:Nat->Int):∀i,i<8->(bJ l)[i]?=some (.int .i64 (l i))
 |0,_=>rfl|1,_=>rfl|2,_=>rfl|3,_=>rfl|4,_=>rfl|5,_=>rfl|6,_=>rfl|7,_=>rfl
theorem Bd(l:Nat->Int)(v:Int):∀i,i<8->(bJ l).set i (.int .i64 v)=bJ (oG l i v)
 |0,_=>rfl|1,_=>rfl|2,_=>rfl|3,_=>rfl|4,_=>rfl|5,_=>rfl|6,_=>rfl|7,_=>rfl
theorem aR.acA{w:World}{g:Nat}{t:TypeId}{a0 a1 a2 a3 a4 a5 a6 a7:Value}(h:aR w g [a0,a1,a2,a3,a4,a5,a6,a7] t)(b0 b1 b2 b3 b4 b5 b6 b7:Value):
  aR ((((((((w.setCell ⟨g,0,none⟩ b0).setCell ⟨g,1,none⟩ b1).setCell ⟨g,2,none⟩ b2).setCell ⟨g,3,none⟩ b3).setCell ⟨g,4,none⟩ b4).setCell ⟨g,5,none⟩ b5).setCell ⟨g,6,none⟩ b6).setCell ⟨g,7,none⟩ b7) g [b0,b1,b2,b3,b4,b5,b6,b7] t:=by
 have h0:aR (w.setCell ⟨g,0,none⟩ b0) g [b0,a1,a2,a3,a4,a5,a6,a7] t:=bM h 0 b0
 have h1:aR ((w.setCell ⟨g,0,none⟩ b0).setCell ⟨g,1,none⟩ b1) g [b0,b1,a2,a3,a4,a5,a6,a7] t:=bM h0 1 b1
 have h2:aR (((w.setCell ⟨g,0,none⟩ b0).setCell ⟨g,1,none⟩ b1).setCell ⟨g,2,none⟩ b2) g [b0,b1,b2,a3,a4,a5,a6,a7] t:=bM h1 2 b2
 have h3:aR ((((w.setCell ⟨g,0,none⟩ b0).setCell ⟨g,1,none⟩ b1).setCell ⟨g,2,none⟩ b2).setCell ⟨g,3,none⟩ b3) g [b0,b1,b2,b3,a4,a5,a6,a7] t:=bM h2 3 b3
 have h4:aR (((((w.setCell ⟨g,0,none⟩ b0).setCell ⟨g,1,none⟩ b1).setCell ⟨g,2,none⟩ b2).setCell ⟨g,3,none⟩ b3).setCell ⟨g,4,none⟩ b4) g [b0,b1,b2,b3,b4,a5,a6,a7] t:=bM h3 4 b4
 have h5:aR ((((((w.setCell ⟨g,0,none⟩ b0).setCell ⟨g,1,none⟩ b1).setCell ⟨g,2,none⟩ b2).setCell ⟨g,3,none⟩ b3).setCell ⟨g,4,none⟩ b4).setCell ⟨g,5,none⟩ b5) g [b0,b1,b2,b3,b4,b5,a6,a7] t:=bM h4 5 b5
 have h6:aR (((((((w.setCell ⟨g,0,none⟩ b0).setCell ⟨g,1,none⟩ b1).setCell ⟨g,2,none⟩ b2).setCell ⟨g,3,none⟩ b3).setCell ⟨g,4,none⟩ b4).setCell ⟨g,5,none⟩ b5).setCell ⟨g,6,none⟩ b6) g [b0,b1,b2,b3,b4,b5,b6,a7] t:=bM h5 6 b6
 have h7:aR ((((((((w.setCell ⟨g,0,none⟩ b0).setCell ⟨g,1,none⟩ b1).setCell ⟨g,2,none⟩ b2).setCell ⟨g,3,none⟩ b3).setCell ⟨g,4,none⟩ b4).setCell ⟨g,5,none⟩ b5).setCell ⟨g,6,none⟩ b6).setCell ⟨g,7,none⟩ b7) g [b0,b1,b2,b3,b4,b5,b6,b7] t:=bM h6 7 b7
 exact h7
theorem aR.setAt{w:World}{g:Nat}{cs:List Value}{t:TypeId}(h:aR w g cs t)(i:Nat)(v:Value):aR (w.setCell ⟨g,i,none⟩ v) g (cs.set i v) t:=by
 have:=bM h i v
 rw[List.setIfInBounds_toArray] at this
 exact this
theorem Ns{B:Nat}{a w:World}(h:Below B a w){g:Nat}(hg:B<=g)(b0 b1 b2 b3 b4 b5 b6 b7:Value):
  Below B a ((((((((w.setCell ⟨g,0,none⟩ b0).setCell ⟨g,1,none⟩ b1).setCell ⟨g,2,none⟩ b2).setCell ⟨g,3,none⟩ b3).setCell ⟨g,4,none⟩ b4).setCell ⟨g,5,none⟩ b5).setCell ⟨g,6,none⟩ b6).setCell ⟨g,7,none⟩ b7):=
 (((((((h.setCell (p:=⟨g,0,none⟩) hg b0).setCell (p:=⟨g,1,none⟩) hg b1).setCell (p:=⟨g,2,none⟩) hg b2).setCell (p:=⟨g,3,none⟩) hg b3).setCell (p:=⟨g,4,none⟩) hg b4).setCell (p:=⟨g,5,none⟩) hg b5).setCell (p:=⟨g,6,none⟩) hg b6).setCell (p:=⟨g,7,none⟩) hg b7
def kz(ss:List bH)(i:Nat):Int:=if i<ss.length then(aG ss i).f1 else 0
def JH(ss:List bH)(k i:Nat):Int:=if i<k then(aG ss i).f1 else 0
theorem MB(ss:List bH)(k:Nat):JH ss (k+1)=oG (JH ss k) k (aG ss k).f1:=by
 funext i
 show(if i<k+1 then(aG ss i).f1 else 0)=if i=k then(aG ss k).f1 else(if i<k then(aG ss i).f1 else 0)
 by_cases h:i=k
 .subst h
  rw[if_pos (by omega),if_pos rfl]
 .rw[if_neg h]
  by_cases h2:i<k
  .rw[if_pos (by omega),if_pos h2]
  .rw[if_neg (by omega),if_neg h2]
set_option maxRecDepth 100000 in
set_option maxHeartbeats 40000000 in
theorem C7{A0:Option Addr}{c0:Nat}{old:List Int}{nw:Int}{A2:Option Addr}{c2:Nat}{ss:List bH}{A3:Option Addr}{c3:Nat}{js:List bS}{w:World}(h:uX w A0 c0 old A2 c2 ss A3 c3 js)(hss:ss.length<=8):
  Calls Tryz.prog 44 #[.agg #[.slice A0 old.length c0,.int .i64 nw,.slice A2 ss.length c2,.slice A3 js.length c3]] w fun e w'=>e= .returned (sS (kz ss))/\Below w.heap.size w w':=by
 have H:=aa.mk h
 clear h
 go_enter Tryz.func44,Tryz.ntmps44
 have h12:=((aR.new w [.slice A0 old.length c0,.int .i64 nw,.slice A2 ss.length c2,.slice A3 js.length c3] 43).alloc (.cells #[.int .i64 0,.int .i64 0,.int .i64 0,.int .i64 0,.int .i64 0,.int .i64 0,.int .i64 0,.int .i64 0] 121)).cell 2
 simp only[List.getElem?_cons_zero,List.getElem?_cons_succ] at h12
 go_wp2_with fail
 clear h12
 have HB0:=aa.mk (ae (ae (Below.refl w.heap.size w) (.cells #[.slice A0 old.length c0,.int .i64 nw,.slice A2 ss.length c2,.slice A3 js.length c3] 43)) (.cells #[.int .i64 0,.int .i64 0,.int .i64 0,.int .i64 0,.int .i64 0,.int .i64 0,.int .i64 0,.int .i64 0] 121))
 have B2:=aa.mk (show aR _ (w.heap.size+1) (bJ (JH ss 0)) 121 by have hB:=aR.new (w.alloc (.cells #[.slice A0 old.length c0,.int .i64 nw,.slice A2 ss.length c2,.slice A3 js.length c3] 43)) [.int .i64 0,.int .i64 0,.int .i64 0,.int .i64 0,.int .i64 0,.int .i64 0,.int .i64 0,.int .i64 0] 121;simp only[World.size_alloc] at hB;exact hB)
 have hs0:w.heap.size+1<((w.alloc (.cells #[.slice A0 old.length c0,.int .i64 nw,.slice A2 ss.length c2,.slice A3 js.length c3] 43)).alloc (.cells #[.int .i64 0,.int .i64 0,.int .i64 0,.int .i64 0,.int .i64 0,.int .i64 0,.int .i64 0,.int .i64 0] 121)).heap.size:=by simp
 generalize(w.alloc (.cells #[.slice A0 old.length c0,.int .i64 nw,.slice A2 ss.length c2,.slice A3 js.length c3] 43)).alloc (.cells #[.int .i64 0,.int .i64 0,.int .i64 0,.int .i64 0,.int .i64 0,.int .i64 0,.int .i64 0,.int .i64 0] 121)=w1 at HB0 B2 hs0 ⊢
 go_loopw [8] (fun v8 wr=>∃k:Nat,k<=ss.length/\v8= .int .i64 k/\aa (Below w.heap.size w wr)/\aa (aR wr (w.heap.size+1) (bJ (JH ss k)) 121)) (fun v8 _=>ss.length-(intOf v8).toNat)
 case atStart=>exact⟨0,Nat.zero_le _,rfl,HB0,B2⟩
 case round=>
  clear HB0 B2 hs0
  obtain⟨k,hk,rfl,HB,B2⟩:=hrel
  by_cases hkl:k<ss.length
  .obtain⟨ad,e,h0,h1,h2,h3,h4⟩:=qO (H.out.below HB.out).Lg (k:Int) (by omega) (by omega)
   cases e
   simp only[Int.toNat_natCast] at h0 h1 h2 h3 h4
   have hst:=MB ss k
   have hrr:aG ss k=fI ss (k:Int):=rfl
   rw[hrr] at hst
   obtain⟨r,hr⟩:∃r,fI ss (k:Int)=r:=⟨_,rfl⟩
   rw[hr] at h0 h1 h2 h3 h4 hst
   have HST:=aa.mk hst
   have hk8:(k:Int)<8:=by omega
   have hc:=B2.out.cell k
   have hcf:=B2.out.frozen k
   rw[gJ _ k (by omega)] at hc
   have hg2:=B2.out.lt
   clear hst hr hrr
   go_wp2_with fail
   exact⟨⟨k+1,by omega,rfl,⟨ae (HB.out.setCell (p:=⟨w.heap.size+1,k,none⟩) (by simp only;omega) _) _⟩,⟨by rw[HST.out,<- Bd _ _ k (by omega)];exact(B2.out.setAt k _).alloc _⟩⟩,by simp[intOf];omega⟩
  .obtain rfl:k=ss.length:=by omega
   have hg2:=B2.out.lt
   have hc0:=B2.out.cell 0
   have hc1:=B2.out.cell 1
   have hc2:=B2.out.cell 2
   have hc3:=B2.out.cell 3
   have hc4:=B2.out.cell 4
   have hc5:=B2.out.cell 5
   have hc6:=B2.out.cell 6
   have hc7:=B2.out.cell 7
   have hf0:=B2.out.frozen 0
   have hf1:=B2.out.frozen 1
   have hf2:=B2.out.frozen 2
   have hf3:=B2.out.frozen 3
   have hf4:=B2.out.frozen 4
   have hf5:=B2.out.frozen 5
   have hf6:=B2.out.frozen 6
   have hf7:=B2.out.frozen 7
   rw[gJ _ 0 (by decide)] at hc0
   rw[gJ _ 1 (by decide)] at hc1
   rw[gJ _ 2 (by decide)] at hc2
   rw[gJ _ 3 (by decide)] at hc3
   rw[gJ _ 4 (by decide)] at hc4
   rw[gJ _ 5 (by decide)] at hc5
   rw[gJ _ 6 (by decide)] at hc6
   rw[gJ _ 7 (by decide)] at hc7
   go_wp2_with fail
   refine bodyPost_ret (results_cell_row rfl _ _ (w.heap.size+1) 121 (bJ (JH ss ss.length)).toArray (0,0) _ rfl (B2.out.acA _ _ _ _ _ _ _ _) Tryz.underlying121 rfl (by kernel_rfl)) rfl ?_
   exact⟨rfl,Ns HB.out (by omega) _ _ _ _ _ _ _ _⟩
end Go.Proofs.YtkjoilgpmngndaaGreat
namespace Go.Proofs.YtkjoilgpmngndaaGreat
open Go.RowKit Go.Shelf Go.Proofs.YtkjoilgpmngndaaGreat.av Go.Proofs.YtkjoilgpmngndaaGreatW.aA Go.Proofs.YtkjoilgpmngndaaGreatW.aJ
set_option maxRecDepth 100000 in
set_option maxHeartbeats 4000000 in
theorem QH(g:Nat)(x y:Int)(w:World)(hx:w.cell? ⟨g,0,none⟩=some (.int .i64 x))(hy:w.cell? ⟨g,1,none⟩=some (.int .i64 y)):
  Calls Tryz.prog 110 #[.slice (some ⟨g,0,none⟩) 2 2] w fun e w'=>e= .returned (.int .i64 (min x y))/\w'=w:=by
 go_enter Tryz.func110,Tryz.ntmps110
 go_wp2_with fail
 go_loopw [3,4] (fun v3 v4 wr=>((v3= .int .i64 x/\v4= .int .i64 1)\/(v3= .int .i64 (min x y)/\v4= .int .i64 2))/\wr=w) (fun _ v4 _=>2-(intOf v4).toNat)
 case atStart=>exact⟨.inl ⟨rfl,rfl⟩,rfl⟩
 case round=>
  obtain⟨⟨rfl,rfl⟩|⟨rfl,rfl⟩,rfl⟩:=hrel
  .go_wp2_with fail
   have hmin:(if y<x then y else x)=min x y:=by
    by_cases h:y<x
    .rw[if_pos h];omega
    .rw[if_neg h];omega
   exact⟨⟨.inr ⟨by rw[hmin],rfl⟩,trivial⟩,by simp[intOf]⟩
  .go_wp2_with fail
   go_ret
   exact⟨rfl,rfl⟩
set_option maxRecDepth 100000 in
set_option maxHeartbeats 4000000 in
theorem zW(g:Nat)(x y:Int)(w:World)(hx:w.cell? ⟨g,0,none⟩=some (.int .i64 x))(hy:w.cell? ⟨g,1,none⟩=some (.int .i64 y)):
  Calls Tryz.prog 85 #[.slice (some ⟨g,0,none⟩) 2 2] w fun e w'=>e= .returned (.int .i64 (min x y))/\w'=w:=by
 go_enter Tryz.func85,Tryz.ntmps85
 go_wp2_with fail
 refine(QH g x y w hx hy).mono ?_
 rintro e w' ⟨rfl,rfl⟩
 go_wp2_with fail
 go_ret
 exact⟨rfl,rfl⟩
theorem Da(a b:Int)(w:World):Calls Tryz.prog 119 #[.agg #[.int .i64 a,.int .i64 b]] w fun e w'=>e= .returned (.int .i64 a)/\Below w.heap.size w w':=by
 go_enter Tryz.func119,Tryz.ntmps119
 go_wp2_with fail
 go_ret
 exact⟨rfl,ae (Below.refl _ _) _⟩
theorem AU(a b:Int)(w:World):Calls Tryz.prog 120 #[.agg #[.int .i64 a,.int .i64 b]] w fun e w'=>e= .returned (.int .i64 b)/\Below w.heap.size w w':=by
 go_enter Tryz.func120,Tryz.ntmps120
 go_wp2_with fail
 go_ret
 exact⟨rfl,ae (Below.refl _ _) _⟩
theorem Np(w:World):Calls Tryz.prog 84 #[] w fun e w'=>e= .returned (.tuple #[.agg #[.func (.func 119) #[] #[]],.agg #[.func (.func 120) #[] #[]]])/\Below w.heap.size w w':=by
 go_enter Tryz.func84,Tryz.ntmps84
 go_wp2_with fail
 refine bodyPost_ret (LH rfl _ _ w.heap.size (w.heap.size+1) 186 186 #[.func (.func 119) #[] #[]] #[.func (.func 120) #[] #[]] (0,0) (0,0) _ _ rfl ((aR.new w [.func (.func 119) #[] #[]] 186).alloc (.cells #[.func (.func 120) #[] #[]] 186)) Tryz.underlying186 rfl (by kernel_rfl) rfl (by have hB:=aR.new (w.alloc (.cells #[.func (.func 119) #[] #[]] 186)) [.func (.func 120) #[] #[]] 186;simp only[World.size_alloc] at hB;exact hB) Tryz.underlying186 rfl (by kernel_rfl)) rfl ?_
 exact⟨rfl,ae (ae (Below.refl _ _) _) _⟩
end Go.Proofs.YtkjoilgpmngndaaGreat
