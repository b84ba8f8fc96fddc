import Derived.Test.YtkjoilgpmngndaaGreatQ10
set_option linter.all false
namespace Go.Proofs.YtkjoilgpmngndaaGreat
open Go.RowKit Go.Shelf Go.Proofs.YtkjoilgpmngndaaGreat.av Go.Proofs.YtkjoilgpmngndaaGreatW.aA Go.Proofs.YtkjoilgpmngndaaGreatW.aJ Go.Proofs.YtkjoilgpmngndaaGreatW.dn
attribute [local go_sem] Oper.semAt_some mR oQ
def pt.T9:Bool×List (List Nat×List Nat):=(true,[([],[]),([0],[0]),([1],[1]),([2],[2]),([],[]),([4],[4]),([],[]),([6],[6]),([5,7],[5,7]),([3,8],[3,8]),([0,0,1,2,3,4,5,6,7,8,9],[0]),([10,0,1,2,3,4,5,6,7,8,9],[10]),([11,9,8,0,1,2,3,4,5,6,7,8,9],[9,11])])
def pt.B9:List Nat:=[0,1,3,7,0,16,0,64,240,511,1023,2047,4095]
theorem pt.Je:eu .any (opsOf Tryz.f41 9)=pt.T9:=by kernel_rfl
theorem pt.yS:bO pt.T9.2 pt.B9=true:=by kernel_rfl
def pt.TL:Bool×List (List Nat×List Nat):=(true,[([],[]),([0],[0]),([1],[1]),([2],[2]),([],[]),([4],[4]),([],[]),([6],[6]),([5,7],[5,7]),([3,8],[3,8]),([0,0,1,2,3,4,5,6,7,8,9],[0]),([10,0,1,2,3,4,5,6,7,8,9],[10]),([11,9,8,0,1,2,3,4,5,6,7,8,9],[9,11])])
def pt.B10:List Nat:=[0,1,3,7,0,16,0,64,240,511,1023,2047,4095]
theorem pt.yE:eu .any (opsOf Tryz.f41 10)=pt.TL:=by kernel_rfl
theorem pt.rU:bO pt.TL.2 pt.B10=true:=by kernel_rfl
def pt.TI:Bool×List (List Nat×List Nat):=(true,[([],[]),([0],[0]),([],[]),([2],[2]),([],[]),([3,4],[3,4]),([5],[5]),([],[]),([7],[7]),([6,8],[6,8]),([1,9],[1,9]),([],[]),([11],[11]),([],[]),([13],[13]),([],[]),([14,15],[14,15]),([16],[16]),([],[]),([18],[18]),([17,19],[17,19]),([12,20],[12,20]),([21],[21]),([10,22],[10,22]),([23,22,0,1,2,3,4,5,6,7,8,9,10,11,12,13,14,15,16,17,18,19,20,21,22,23],[23])])
def pt.B11:List Nat:=[0,1,0,4,0,28,60,0,128,508,1023,0,2048,0,8192,0,57344,122880,0,262144,1040384,2095104,4192256,8388607,16777215]
theorem pt.zS:eu .any (opsOf Tryz.f41 11)=pt.TI:=by kernel_rfl
theorem pt.uQ:bO pt.TI.2 pt.B11=true:=by kernel_rfl
def abe(n:Nat)(g:Nat)(cap:Array Value)(p:Int->Bool)(w:World):Prop:=
 ∀(W:World) (x:Nat),x<n->Below w.heap.size w W->Calls Tryz.prog g (#[.int .i64 (x:Int)]++cap) W fun e w'=>e= .returned (.bool (p (x:Int)))/\Below W.heap.size W w'
def lV(p:Int->Bool)(xs:List IS):List IS:=xs.filter (fun x=>p (x.1:Int))
def kD(p:Int->Bool)(xs:List IS):List IS:=xs.filter (fun x=>!p (x.1:Int))
theorem ZF{p:Int->Bool}{xs:List IS}{x:IS}(h:p (x.1:Int)=true):lV p (xs++[x])=lV p xs++[x]/\kD p (xs++[x])=kD p xs:=by
 unfold lV kD
 simp[List.filter_append,List.filter_cons,h]
theorem ZG{p:Int->Bool}{xs:List IS}{x:IS}(h:p (x.1:Int)=false):lV p (xs++[x])=lV p xs/\kD p (xs++[x])=kD p xs++[x]:=by
 unfold lV kD
 simp[List.filter_append,List.filter_cons,h]
theorem qd{p:Int->Bool}{xs:List IS}(h:TR xs):TR (lV p xs)/\TR (kD p xs):=⟨fun x hx=>h x (List.mem_filter.1 hx).1,fun x hx=>h x (List.mem_filter.1 hx).1⟩
theorem AQ(p:Int->Bool)(xs:List IS):(lV p xs).length<=xs.length/\(kD p xs).length<=xs.length:=⟨List.length_filter_le _ _,List.length_filter_le _ _⟩
def je(old:List Int)(ss:List bH)(d:Int)(p:Int->Bool):Int×Int:=
 (max (gK (lV p (dI ss d ss.length))) (rd old d-gL (kD p (dI ss d ss.length))),min (gL (lV p (dI ss d ss.length))) (rd old d-gK (kD p (dI ss d ss.length))))
structure Stp(gr:Nat)(W W':World):Prop where
 ko:KeepsOthers W W'
 os:W'.os=W.os
 tape:W'.tape=W.tape
 output:W'.output=W.output
 block:∀k,k<W.heap.size->k≠gr->W'.heap[k]?=W.heap[k]?
theorem Stp.refl(gr:Nat)(W:World):Stp gr W W:=⟨KeepsOthers.refl W,rfl,rfl,rfl,fun _ _ _=>rfl⟩
theorem Stp.below{gr:Nat}{W A B:World}(h:Stp gr W A)(hb:Below A.heap.size A B):Stp gr W B:=
 ⟨h.ko.trans ⟨hb.size,fun k o hk _=>(hb.block k (Array.getElem?_eq_some_iff.1 hk).1).trans hk⟩,hb.os.trans h.os,hb.tape.trans h.tape,hb.output.trans h.output,fun k hk hne=>(hb.block k (by have:=h.ko.size;omega)).trans (h.block k hk hne)⟩
theorem Stp.drew{gr:Nat}{W A:World}(h:Stp gr W A):Stp gr W A.drew:=⟨⟨h.ko.size,h.ko.same⟩,h.os,h.tape,h.output,h.block⟩
theorem Stp.set{gr:Nat}{W A:World}(h:Stp gr W A)(i:Nat)(v:Value):Stp gr W (A.setCell ⟨gr,i,none⟩ v):=
 ⟨h.ko.trans (KeepsOthers.setCell A _ v),h.os,h.tape,h.output,fun k hk hne=>(Below.heap_setCell _ _ _ _ (by simpa using hne)).trans (h.block k hk hne)⟩
theorem Stp.keep{gr n:Nat}{S:Nat->Prop}{W W':World}(h:Stp gr W W')(hS:S gr\/n<=gr)(hn:n<=W.heap.size):bq n S W W':=
 ⟨h.os,h.tape,h.output,h.ko.size,fun k hk hs=>h.block k (by omega) (fun e=>by subst e;cases hS<;>first|contradiction|omega)⟩
theorem Stp.blk{gr g:Nat}{W W':World}{cs:List Value}{t:TypeId}(h:Stp gr W W')(hb:aR W g cs t)(hne:g≠gr):aR W' g cs t:=hb.move (h.block _ hb.lt hne)
theorem Stp.Ol{gr:Nat}{W W' w:World}(h:Stp gr W W')(hm:fH w W):fH w W':=fun D hd=>h.ko.same D _ (hm D hd) rfl
theorem Stp.seq{gr B:Nat}{w W W':World}(h:Stp gr W W')(hb:Below B w W)(hB:B<=gr)(hBs:B<=W.heap.size):Below B w W':=
 ⟨h.os.trans hb.os,h.tape.trans hb.tape,h.output.trans hb.output,Nat.le_trans hb.size h.ko.size,fun k hk=>(h.block k (by omega) (by omega)).trans (hb.block k hk)⟩
theorem TR.snoc{pre:List IS}{x:IS}(h:TR pre)(hx:0<=x.2.f3.f0/\x.2.f3.f0<=x.2.f3.f1/\x.2.f3.f1<=10000):TR (pre++[x]):=fun y hy=>by
 rcases List.mem_append.1 hy with hy|hy
 .exact h y hy
 .obtain rfl:=List.mem_singleton.1 hy
  exact hx
theorem PL{p:Int->Bool}{pre:List IS}{x:IS}(h:TR pre)(hl:pre.length<8)(hx:0<=x.2.f3.f0/\x.2.f3.f0<=x.2.f3.f1/\x.2.f3.f1<=10000)(b:Bool):
  wrap64 (gK (if b then lV p pre else kD p pre)+x.2.f3.f0)=gK (if b then lV p pre else kD p pre)+x.2.f3.f0/\wrap64 (gL (if b then lV p pre else kD p pre)+x.2.f3.f1)=gL (if b then lV p pre else kD p pre)+x.2.f3.f1:=by
 have h1:=kL (qd (p:=p) h).1
 have h2:=kL (qd (p:=p) h).2
 have h3:=AQ p pre
 cases b
 .simp only[Bool.false_eq_true,if_false]
  constructor<;>exact wrap_small (by omega) (by omega)
 .simp only[if_true]
  constructor<;>exact wrap_small (by omega) (by omega)
theorem Zw(a b:Int):(if a<b then b else a)=max a b:=by
 by_cases h:a<b
 .rw[if_pos h];omega
 .rw[if_neg h];omega
theorem Tj{W:World}{D g:Nat}{cs:List Value}{t:TypeId}(h:aR W g cs t)(hD:W.heap[D]?=some (.deferred (some [])))(o:Obj):aR (W.putObj D o) g cs t:=by
 have hne:g≠D:=fun e=>by
  subst e
  have h':W.heap[g]?=some (.cells cs.toArray t):=h
  rw[hD] at h'
  cases h'
 exact h.move ((grownBy_putObj' W D o).block g h.lt (fun e=>hne (by cases e;rfl)))
set_option maxRecDepth 100000 in
set_option maxHeartbeats 40000000 in
theorem Ai{A0:Option Addr}{c0:Nat}{old:List Int}{nw:Int}{A2:Option Addr}{c2:Nat}{ss:List bH}{A3:Option Addr}{c3:Nat}{js:List bS}{w:World}(h:uX w A0 c0 old A2 c2 ss A3 c3 js)(hss:ss.length<=8)(hst:∀s ∈ ss,iP old.length nw s)(hol:∀n ∈ old,0<=n/\n<=10000)
  (d:Nat) (hd:d<old.length) (gf:Nat) (cap:Array Value) (hg:∀args w,(callFunc gf args).run Tryz.prog w= .ok (.enter gf args) w) (p:Int->Bool) (hp:abe ss.length gf cap p w):
  Calls Tryz.prog 41 #[.agg #[.slice A0 old.length c0,.int .i64 nw,.slice A2 ss.length c2,.slice A3 js.length c3],.int .i64 (d:Int),.func (.func gf) #[] cap] w fun e w'=>e= .returned (.agg #[.int .i64 (je old ss (d:Int) p).1,.int .i64 (je old ss (d:Int) p).2])/\Below w.heap.size w w':=by
 have H:=aa.mk h
 have HP:=aa.mk hp
 have HST:=aa.mk hst
 have NM:=aa.mk hol
 have hb2:=h.b2
 clear h hp hst hol
 refine(callsIn_wide (n:=9)).1 (dx Tryz.func41 rfl trivial ?_ rfl)
 simp only[Tryz.ntmps41,List.size_toArray,List.length_cons,List.length_nil,Nat.reduceAdd,Nat.reduceSub,Array.replicate_succ,Array.replicate_zero,List.push_toArray,List.append_toArray,List.nil_append,List.cons_append]
 refine wpIn_wide.2 ?_
 go_wp2_with (with_reducible refine wpIn_wide.2 ?_)
 have HB0:=aa.mk (ae (ae (ae (Below.refl w.heap.size w) (.cells #[.slice A0 old.length c0,.int .i64 nw,.slice A2 ss.length c2,.slice A3 js.length c3] 43)) (.cells #[.func (.func gf) #[] cap] 118)) (.cells #[.int .i64 0,.int .i64 0] 52))
 have IQ:=aa.mk (((aR.new w [.slice A0 old.length c0,.int .i64 nw,.slice A2 ss.length c2,.slice A3 js.length c3] 43).alloc (.cells #[.func (.func gf) #[] cap] 118)).alloc (.cells #[.int .i64 0,.int .i64 0] 52))
 have NZ:=aa.mk (show aR _ (w.heap.size+1) _ _ by have hB:=(aR.new (w.alloc (.cells #[.slice A0 old.length c0,.int .i64 nw,.slice A2 ss.length c2,.slice A3 js.length c3] 43)) [.func (.func gf) #[] cap] 118).alloc (.cells #[.int .i64 0,.int .i64 0] 52);simp only[World.size_alloc] at hB;exact hB)
 have B60:=aa.mk (show aR _ (w.heap.size+1+1) _ _ by have hB:=aR.new ((w.alloc (.cells #[.slice A0 old.length c0,.int .i64 nw,.slice A2 ss.length c2,.slice A3 js.length c3] 43)).alloc (.cells #[.func (.func gf) #[] cap] 118)) [.int .i64 0,.int .i64 0] 52;simp only[World.size_alloc] at hB;exact hB)
 have hs0:w.heap.size+3=(((w.alloc (.cells #[.slice A0 old.length c0,.int .i64 nw,.slice A2 ss.length c2,.slice A3 js.length c3] 43)).alloc (.cells #[.func (.func gf) #[] cap] 118)).alloc (.cells #[.int .i64 0,.int .i64 0] 52)).heap.size:=by simp
 generalize((w.alloc (.cells #[.slice A0 old.length c0,.int .i64 nw,.slice A2 ss.length c2,.slice A3 js.length c3] 43)).alloc (.cells #[.func (.func gf) #[] cap] 118)).alloc (.cells #[.int .i64 0,.int .i64 0] 52)=w0 at HB0 IQ NZ B60 hs0 ⊢
 refine(Np w0).mono ?_
 rintro e w1 ⟨rfl,jR⟩
 have HB1:=aa.mk (HB0.out.trans (jR.mono HB0.out.size))
 have xJ:=aa.mk (IQ.out.below jR)
 have B51:=aa.mk (NZ.out.below jR)
 have B61:=aa.mk (B60.out.below jR)
 have hs1:w.heap.size+3<=w1.heap.size:=by have:=jR.size;omega
 clear jR HB0 IQ NZ B60 hs0
 have hl3:=xJ.out.lt
 have HB2:=aa.mk (ae (ae (ae (ae HB1.out (.cells #[.func (.func 119) #[] #[]] 186)) (.cells #[.func (.func 120) #[] #[]] 186)) (.cells #[.int .i64 0,.int .i64 0] 52)) (.cells #[.int .i64 0,.int .i64 0] 52))
 have BM:=aa.mk ((((xJ.out.alloc (.cells #[.func (.func 119) #[] #[]] 186)).alloc (.cells #[.func (.func 120) #[] #[]] 186)).alloc (.cells #[.int .i64 0,.int .i64 0] 52)).alloc (.cells #[.int .i64 0,.int .i64 0] 52))
 have QU:=aa.mk ((((B51.out.alloc (.cells #[.func (.func 119) #[] #[]] 186)).alloc (.cells #[.func (.func 120) #[] #[]] 186)).alloc (.cells #[.int .i64 0,.int .i64 0] 52)).alloc (.cells #[.int .i64 0,.int .i64 0] 52))
 have NY:=aa.mk ((((B61.out.alloc (.cells #[.func (.func 119) #[] #[]] 186)).alloc (.cells #[.func (.func 120) #[] #[]] 186)).alloc (.cells #[.int .i64 0,.int .i64 0] 52)).alloc (.cells #[.int .i64 0,.int .i64 0] 52))
 have B72:=aa.mk ((((aR.new w1 [.func (.func 119) #[] #[]] 186).alloc (.cells #[.func (.func 120) #[] #[]] 186)).alloc (.cells #[.int .i64 0,.int .i64 0] 52)).alloc (.cells #[.int .i64 0,.int .i64 0] 52))
 have B82:=aa.mk (show aR _ (w1.heap.size+1) _ _ by have hB:=((aR.new (w1.alloc (.cells #[.func (.func 119) #[] #[]] 186)) [.func (.func 120) #[] #[]] 186).alloc (.cells #[.int .i64 0,.int .i64 0] 52)).alloc (.cells #[.int .i64 0,.int .i64 0] 52);simp only[World.size_alloc] at hB;exact hB)
 have B92:=aa.mk (show aR _ (w1.heap.size+1+1) _ _ by have hB:=(aR.new ((w1.alloc (.cells #[.func (.func 119) #[] #[]] 186)).alloc (.cells #[.func (.func 120) #[] #[]] 186)) [.int .i64 0,.int .i64 0] 52).alloc (.cells #[.int .i64 0,.int .i64 0] 52);simp only[World.size_alloc] at hB;exact hB)
 have BA2:=aa.mk (show aR _ (w1.heap.size+1+1+1) _ _ by have hB:=aR.new (((w1.alloc (.cells #[.func (.func 119) #[] #[]] 186)).alloc (.cells #[.func (.func 120) #[] #[]] 186)).alloc (.cells #[.int .i64 0,.int .i64 0] 52)) [.int .i64 0,.int .i64 0] 52;simp only[World.size_alloc] at hB;exact hB)
 have hs2:((((w1.alloc (.cells #[.func (.func 119) #[] #[]] 186)).alloc (.cells #[.func (.func 120) #[] #[]] 186)).alloc (.cells #[.int .i64 0,.int .i64 0] 52)).alloc (.cells #[.int .i64 0,.int .i64 0] 52)).heap.size=w1.heap.size+4:=by simp
 have kQ:=BM.out.cell 0
 have h31:=BM.out.cell 1
 have h32:=BM.out.cell 2
 have CB:=BM.out.cell 3
 simp only[List.getElem?_cons_zero,List.getElem?_cons_succ] at kQ h31 h32 CB
 have HS2:=aa.mk hs2
 clear hs2
 go_wp2_with (with_reducible refine wpIn_wide.2 ?_)
 have hs2:=HS2.out
 clear HB1 xJ B51 B61 kQ h31 h32 CB hl3
 generalize((((w1.alloc (.cells #[.func (.func 119) #[] #[]] 186)).alloc (.cells #[.func (.func 120) #[] #[]] 186)).alloc (.cells #[.int .i64 0,.int .i64 0] 52)).alloc (.cells #[.int .i64 0,.int .i64 0] 52))=w2 at HB2 BM QU NY B72 B82 B92 BA2 hs2 ⊢
 generalize w1.heap.size=s1 at B72 B82 B92 BA2 hs1 hs2 ⊢
 refine((callsIn_wide (n:=8)).1 (JL Fence.wide 8 trivial rfl (.slice A0 old.length c0) (.int .i64 nw) (.slice A2 ss.length c2) (.slice A3 js.length c3) (d:Int) rfl rfl rfl rfl w2)).mono ?_
 rintro e w4 ⟨rfl,rfl⟩
 have kY:=aa.mk (ae (ae HB2.out (.cells #[.slice A0 old.length c0,.int .i64 nw,.slice A2 ss.length c2,.slice A3 js.length c3] 43)) (.cells #[.int .i64 (d:Int)] 3))
 have Ur:=aa.mk ((BM.out.alloc (.cells #[.slice A0 old.length c0,.int .i64 nw,.slice A2 ss.length c2,.slice A3 js.length c3] 43)).alloc (.cells #[.int .i64 (d:Int)] 3))
 have B54:=aa.mk ((QU.out.alloc (.cells #[.slice A0 old.length c0,.int .i64 nw,.slice A2 ss.length c2,.slice A3 js.length c3] 43)).alloc (.cells #[.int .i64 (d:Int)] 3))
 have YU:=aa.mk ((NY.out.alloc (.cells #[.slice A0 old.length c0,.int .i64 nw,.slice A2 ss.length c2,.slice A3 js.length c3] 43)).alloc (.cells #[.int .i64 (d:Int)] 3))
 have YT:=aa.mk ((B72.out.alloc (.cells #[.slice A0 old.length c0,.int .i64 nw,.slice A2 ss.length c2,.slice A3 js.length c3] 43)).alloc (.cells #[.int .i64 (d:Int)] 3))
 have B84:=aa.mk ((B82.out.alloc (.cells #[.slice A0 old.length c0,.int .i64 nw,.slice A2 ss.length c2,.slice A3 js.length c3] 43)).alloc (.cells #[.int .i64 (d:Int)] 3))
 have B94:=aa.mk ((B92.out.alloc (.cells #[.slice A0 old.length c0,.int .i64 nw,.slice A2 ss.length c2,.slice A3 js.length c3] 43)).alloc (.cells #[.int .i64 (d:Int)] 3))
 have BA4:=aa.mk ((BA2.out.alloc (.cells #[.slice A0 old.length c0,.int .i64 nw,.slice A2 ss.length c2,.slice A3 js.length c3] 43)).alloc (.cells #[.int .i64 (d:Int)] 3))
 have xC:=aa.mk ((aR.new w2 [.slice A0 old.length c0,.int .i64 nw,.slice A2 ss.length c2,.slice A3 js.length c3] 43).alloc (.cells #[.int .i64 (d:Int)] 3))
 have uT:=aa.mk (aR.new (w2.alloc (.cells #[.slice A0 old.length c0,.int .i64 nw,.slice A2 ss.length c2,.slice A3 js.length c3] 43)) [.int .i64 (d:Int)] 3)
 simp only[World.size_alloc] at uT
 have hsz:((w2.alloc (.cells #[.slice A0 old.length c0,.int .i64 nw,.slice A2 ss.length c2,.slice A3 js.length c3] 43)).alloc (.cells #[.int .i64 (d:Int)] 3)).heap.size=w2.heap.size+1+1:=by simp
 clear HB2 BM QU NY B72 B82 B92 BA2
 generalize(w2.alloc (.cells #[.slice A0 old.length c0,.int .i64 nw,.slice A2 ss.length c2,.slice A3 js.length c3] 43)).alloc (.cells #[.int .i64 (d:Int)] 3)=w4 at kY Ur B54 YU YT B84 B94 BA4 xC uT hsz ⊢
 obtain⟨gx,hgx⟩:∃gx,w2.heap.size=gx:=⟨_,rfl⟩
 rw[hgx] at xC uT hsz hs2 ⊢
 have hsg:s1+1+1+1<gx:=by omega
 clear hgx hs2
 have HC:=aa.mk (H.out.below kY.out)
 have hlo:=nP H.out.Lg
 go_wp2_with (with_reducible refine wpIn_wide.2 ?_)
 refine(wpIn_wide (n:=9)).1 ?_
 refine vK (gm:=gx) (gn:=gx+1) (by decide) (by decide) rfl (n₀:=w4.heap.size) (S:=fun b=>b=s1+1+1\/b=s1+1+1+1) (u0:= .slice A0 old.length c0) (u1:= .int .i64 nw) (u3:= .slice A3 js.length c3) (A2:=A2) (c2:=c2) (ss:=ss) (old:=(d:Int)) hb2 (Nat.le_refl _) ?reads
  (fun t x=>(t.setIfInBounds 21 (.int .i64 (x.1:Int))).setIfInBounds 22 (encS x.2)) (fun t x g=>(((t.setIfInBounds 21 (.int .i64 (x.1:Int))).setIfInBounds 22 (encS x.2)).setIfInBounds 11 (.int .i64 (x.1:Int))).setIfInBounds 12 (.pointer (some ⟨g,0,none⟩))) (fun t x=>Lm t 21 22 _ _)
  (fun pre W=>aa (aR W (s1+1+1) [.int .i64 (gK (lV p pre)),.int .i64 (gL (lV p pre))] 52)/\aa (aR W (s1+1+1+1) [.int .i64 (gK (kD p pre)),.int .i64 (gL (kD p pre))] 52)/\aa (Below w.heap.size w W)/\aa (bq w4.heap.size (fun b=>b=s1+1+1\/b=s1+1+1+1) w4 W)/\aa (fH w4 W)/\aa (TR pre)) ?own (fun xs W hi=>hi.2.2.2.1.out.size) ⟨B94,BA4,kY,⟨bq.refl _ _ _⟩,⟨fH.refl _⟩,⟨fun x hx=>by cases hx⟩⟩ ?assign ?body ?done
 case reads=>exact⟨xC.out,by simpa using uT.out.cell 0,HC.out.Lg,⟨by omega,by omega⟩,⟨by omega,by omega⟩,fun h0 ad e=>⟨by have:=hlo h0 ad e;omega,by have:=hlo h0 ad e;omega⟩⟩
 case own=>
  rintro xs W W' row ⟨i1,i2,i3,i4,i5,i6⟩ QX hr
  have hr':=fun r e=>(hr r e).1
  have h5:=i4.out.size
  exact⟨⟨i1.out.kept (B:=w4.heap.size) (by omega) QX hr'⟩,⟨i2.out.kept (B:=w4.heap.size) (by omega) QX hr'⟩,⟨i3.out.grown QX i3.out.size (fun k e=>by have:=hr' k e;have:=kY.out.size;omega)⟩,⟨i4.out.trans ⟨QX.os,QX.tape,QX.output,QX.size,fun k hk _=>QX.block k (by omega) (fun e=>by have:=hr' k e.symm;omega)⟩⟩,⟨i5.out.kept (Nat.le_refl _) QX hr'⟩,i6⟩
 case assign=>
  intro l x W K hx hK
  simp only[List.setIfInBounds_toArray,List.set_cons_zero,List.set_cons_succ,cellsS,encS] at hK ⊢
  gi_wp2_with fail
  exact hK
 case body=>
  rintro l pre x g W hx hlen ⟨i1,i2,i3,i4,i5,i6⟩ QX hBg
  simp only[List.setIfInBounds_toArray,List.set_cons_zero,List.set_cons_succ,encS]
  have B5:=aa.mk (B54.out.move (i4.out.block _ (by omega) (by omega)))
  have h50:=B5.out.cell 0
  simp only[List.getElem?_cons_zero,List.getElem?_cons_succ] at h50
  have hok:iP old.length nw x.2:=HST.out _ (by rw[hx.2.1];exact kM ss x.1 hx.1)
  have HWX:=aa.mk (show 0<=x.2.f3.f0/\x.2.f3.f0<=x.2.f3.f1/\x.2.f3.f1<=10000 from⟨hok.p0,hok.p1,hok.p2⟩)
  have hpl:pre.length<8:=by omega
  have Bu:=aa.mk (fun b=>PL (p:=p) i6.out hpl HWX.out b)
  have B7:=aa.mk (YT.out.move (i4.out.block _ (by omega) (by omega)))
  have B8:=aa.mk (B84.out.move (i4.out.block _ (by omega) (by omega)))
  clear hok hpl B54
  gi_wp2_with fail
  clear h50
  refine⟨trivial,CallsIn.inRound l (callsIn_wide.2 ((HP.out W x.1 hx.1 i3.out).mono ?_))⟩
  rintro e w6 ⟨rfl,hb6⟩
  have h4s:=i4.out.size
  have Bg:=aa.mk (hBg.below hb6)
  replace B7:=aa.mk (B7.out.below hb6)
  replace B8:=aa.mk (B8.out.below hb6)
  have hgw:=hBg.lt
  have hgs:s1+1+1+1<g:=by omega
  cases hpx:p (x.1:Int)
  .have HS:=aa.mk ((Stp.refl (s1+1+1+1) W).below hb6)
   have Br:=aa.mk (i2.out.below hb6)
   have hsum:=(Bu.out false).1
   have AR:=(Bu.out false).2
   simp only[Bool.false_eq_true,if_false] at hsum AR
   obtain⟨sm,hsm⟩:∃s,gK (kD p pre)=s:=⟨_,rfl⟩
   obtain⟨Ck,yh⟩:∃s,gL (kD p pre)=s:=⟨_,rfl⟩
   rw[hsm] at hsum Br
   rw[yh] at AR Br
   have HSM:=aa.mk hsm
   have abj:=aa.mk yh
   clear hsm yh hb6 hBg B5 Bu
   gi_wp2_with fail
   refine jN (by rintro⟨_,_,h⟩;exact h) (by kernel_rfl) (n:=13) (S:=fun w'=>w'.cell? ⟨s1+1+1+1,0,none⟩=some (.int .i64 sm)/\w'.cell? ⟨s1,0,none⟩=some (.func (.func 119) #[] #[])/\w'.cell? ⟨g,3,none⟩=some (.int .i64 x.2.f3.f0)/\w'.cell? ⟨g,4,none⟩=some (.int .i64 x.2.f3.f1)) (ds:=[12]) #[O,O,O,O,O,O,O,O,O,O,O,O,O] (by kernel_rfl) rfl rfl ⟨(by simpa using Br.out.cell 0),(by simpa using B7.out.cell 0),(by simpa[cellsS] using Bg.out.cell 3),(by simpa[cellsS] using Bg.out.cell 4)⟩ (fun hHeld=>?_);refine bK pt.Je pt.yS (fun aC bW=>?_)
   have NJ:=aa.mk HS.out.drew
   have IL:=aa.mk (Br.out.move rfl:aR w6.drew _ _ _)
   have B7d:=aa.mk (B7.out.move rfl:aR w6.drew _ _ _)
   have Lb:=aa.mk (B8.out.move rfl:aR w6.drew _ _ _)
   have BB:=aa.mk (Bg.out.move rfl:aR w6.drew _ _ _)
   clear HS Br B7 B8 Bg
   generalize w6.drew=wd at NJ IL B7d Lb BB hHeld ⊢
   refine bI 0 26 #[I,O,O,O,O,O,O,O,O,O,O,O,O] aC (h:=?_)
   refine bI 1 27 #[I,I,O,O,O,O,O,O,O,O,O,O,O] aC (h:=?_)
   refine bI 2 28 #[I,I,I,O,O,O,O,O,O,O,O,O,O] aC (h:=?_)
   refine eP 3 29 #[I,I,I,I,O,O,O,O,O,O,O,O,O] aC bW hHeld (hy:=by(rintro w' ⟨s0,s1,s2,s3⟩;go_simp;with_reducible rfl)) (h:=?_)
   refine bI 4 30 #[I,I,I,I,I,O,O,O,O,O,O,O,O] aC (h:=?_)
   refine eP 5 31 #[I,I,I,I,I,I,O,O,O,O,O,O,O] aC bW hHeld (hy:=by(rintro w' ⟨s0,s1,s2,s3⟩;go_simp;with_reducible rfl)) (h:=?_)
   refine bI 6 32 #[I,I,I,I,I,I,I,O,O,O,O,O,O] aC (h:=?_)
   refine eP 7 33 #[I,I,I,I,I,I,I,I,O,O,O,O,O] aC bW hHeld (hy:=by(rintro w' ⟨s0,s1,s2,s3⟩;go_simp;with_reducible rfl)) (h:=?_)
   refine iC (i:=8) (N:=some 34) #[I,I,I,I,I,I,I,I,I,O,O,O,O] rfl rfl (aN aC.out (by kernel_rfl)) (by decide) (fun K hK=>?_)
   refine call_ 119 #[.agg #[.int .i64 x.2.f3.f0,.int .i64 x.2.f3.f1]] (by rfl) rfl ?_ ?_
   .have he:=enters Tryz.func119 (by kernel_rfl) rfl #[.agg #[.int .i64 x.2.f3.f0,.int .i64 x.2.f3.f1]]
    go_simp
   refine(Da x.2.f3.f0 x.2.f3.f1 _).mono ?_
   rintro e_ w_ ⟨rfl,hbc⟩
   refine⟨_,rfl,hK.out _ _ ⟨(by simpa using (IL.out.below hbc).cell 0),(by simpa using (B7d.out.below hbc).cell 0),(by simpa[cellsS] using (BB.out.below hbc).cell 3),(by simpa[cellsS] using (BB.out.below hbc).cell 4)⟩ (fun hHeld=>?_)⟩
   clear hK K
   have TU:=aa.mk (NJ.out.below hbc)
   have IK:=aa.mk (IL.out.below hbc)
   have IM:=aa.mk (B7d.out.below hbc)
   have Um:=aa.mk (Lb.out.below hbc)
   have Ul:=aa.mk (BB.out.below hbc)
   clear hbc NJ IL B7d Lb BB
   refine bF (by simp only[Act.put,List.setIfInBounds_toArray,List.set_cons_zero,List.set_cons_succ];rfl) ?_
   refine bI 9 35 #[I,I,I,I,I,I,I,I,I,I,O,O,O] aC (h:=?_)
   refine bI 10 36 #[I,I,I,I,I,I,I,I,I,I,I,O,O] aC (h:=?_)
   refine bI 11 37 #[I,I,I,I,I,I,I,I,I,I,I,I,O] aC (h:=?_)
   refine dW (i:=12) (N:=none) #[I,I,I,I,I,I,I,I,I,I,I,I,I] rfl rfl (aN aC.out (by kernel_rfl)) (by decide) (fun K hK=>?_)
   have eB:=(show w_.cell? ⟨s1+1+1+1,0,none⟩=some (.int .i64 sm) by simpa using IK.out.cell 0)
   have gP:=IK.out.frozen 0
   refine ib (w1:=?_) (by rfl) rfl ?_ ?_
   rotate_left
   .go_simp
    rfl
   refine hK.out _ _ ?_
   clear hK K eB gP
   have HS:=aa.mk (TU.out.set 0 (.int .i64 (sm+x.2.f3.f0)))
   have Br:=aa.mk (IK.out.setAt 0 (.int .i64 (sm+x.2.f3.f0)))
   have B7:=aa.mk (IM.out.move (w':=w_.setCell ⟨s1+1+1+1,0,none⟩ (.int .i64 (sm+x.2.f3.f0))) (Below.heap_setCell _ _ _ _ (by simp only;omega)))
   have B8:=aa.mk (Um.out.move (w':=w_.setCell ⟨s1+1+1+1,0,none⟩ (.int .i64 (sm+x.2.f3.f0))) (Below.heap_setCell _ _ _ _ (by simp only;omega)))
   have Bg:=aa.mk (Ul.out.move (w':=w_.setCell ⟨s1+1+1+1,0,none⟩ (.int .i64 (sm+x.2.f3.f0))) (Below.heap_setCell _ _ _ _ (by simp only;omega)))
   simp only[List.set_cons_zero,List.set_cons_succ] at Br
   clear TU IK IM Um Ul
   generalize w_.setCell ⟨s1+1+1+1,0,none⟩ (.int .i64 (sm+x.2.f3.f0))=w7 at HS Br B7 B8 Bg ⊢
   refine fF (bQ aC.out (by kernel_rfl)) ?_
   gi_wp2_with fail
   refine jN (by rintro⟨_,_,h⟩;exact h) (by kernel_rfl) (n:=13) (S:=fun w'=>w'.cell? ⟨s1+1+1+1,1,none⟩=some (.int .i64 Ck)/\w'.cell? ⟨s1+1,0,none⟩=some (.func (.func 120) #[] #[])/\w'.cell? ⟨g,3,none⟩=some (.int .i64 x.2.f3.f0)/\w'.cell? ⟨g,4,none⟩=some (.int .i64 x.2.f3.f1)) (ds:=[12]) #[O,O,O,O,O,O,O,O,O,O,O,O,O] (by kernel_rfl) rfl rfl ⟨(by simpa using Br.out.cell 1),(by simpa using B8.out.cell 0),(by simpa[cellsS] using Bg.out.cell 3),(by simpa[cellsS] using Bg.out.cell 4)⟩ (fun hHeld=>?_);refine bK pt.yE pt.rU (fun aC bW=>?_)
   have NJ:=aa.mk HS.out.drew
   have IL:=aa.mk (Br.out.move rfl:aR w7.drew _ _ _)
   have B7d:=aa.mk (B7.out.move rfl:aR w7.drew _ _ _)
   have Lb:=aa.mk (B8.out.move rfl:aR w7.drew _ _ _)
   have BB:=aa.mk (Bg.out.move rfl:aR w7.drew _ _ _)
   clear HS Br B7 B8 Bg
   generalize w7.drew=wd at NJ IL B7d Lb BB hHeld ⊢
   refine bI 0 38 #[I,O,O,O,O,O,O,O,O,O,O,O,O] aC (h:=?_)
   refine bI 1 39 #[I,I,O,O,O,O,O,O,O,O,O,O,O] aC (h:=?_)
   refine bI 2 40 #[I,I,I,O,O,O,O,O,O,O,O,O,O] aC (h:=?_)
   refine eP 3 41 #[I,I,I,I,O,O,O,O,O,O,O,O,O] aC bW hHeld (hy:=by(rintro w' ⟨s0,s1,s2,s3⟩;go_simp;with_reducible rfl)) (h:=?_)
   refine bI 4 42 #[I,I,I,I,I,O,O,O,O,O,O,O,O] aC (h:=?_)
   refine eP 5 43 #[I,I,I,I,I,I,O,O,O,O,O,O,O] aC bW hHeld (hy:=by(rintro w' ⟨s0,s1,s2,s3⟩;go_simp;with_reducible rfl)) (h:=?_)
   refine bI 6 44 #[I,I,I,I,I,I,I,O,O,O,O,O,O] aC (h:=?_)
   refine eP 7 45 #[I,I,I,I,I,I,I,I,O,O,O,O,O] aC bW hHeld (hy:=by(rintro w' ⟨s0,s1,s2,s3⟩;go_simp;with_reducible rfl)) (h:=?_)
   refine iC (i:=8) (N:=some 46) #[I,I,I,I,I,I,I,I,I,O,O,O,O] rfl rfl (aN aC.out (by kernel_rfl)) (by decide) (fun K hK=>?_)
   refine call_ 120 #[.agg #[.int .i64 x.2.f3.f0,.int .i64 x.2.f3.f1]] (by rfl) rfl ?_ ?_
   .have he:=enters Tryz.func120 (by kernel_rfl) rfl #[.agg #[.int .i64 x.2.f3.f0,.int .i64 x.2.f3.f1]]
    go_simp
   refine(AU x.2.f3.f0 x.2.f3.f1 _).mono ?_
   rintro e_ w_ ⟨rfl,hbc⟩
   refine⟨_,rfl,hK.out _ _ ⟨(by simpa using (IL.out.below hbc).cell 1),(by simpa using (Lb.out.below hbc).cell 0),(by simpa[cellsS] using (BB.out.below hbc).cell 3),(by simpa[cellsS] using (BB.out.below hbc).cell 4)⟩ (fun hHeld=>?_)⟩
   clear hK K
   have TU:=aa.mk (NJ.out.below hbc)
   have IK:=aa.mk (IL.out.below hbc)
   have IM:=aa.mk (B7d.out.below hbc)
   have Um:=aa.mk (Lb.out.below hbc)
   have Ul:=aa.mk (BB.out.below hbc)
   clear hbc NJ IL B7d Lb BB
   refine bF (by simp only[Act.put,List.setIfInBounds_toArray,List.set_cons_zero,List.set_cons_succ];rfl) ?_
   refine bI 9 47 #[I,I,I,I,I,I,I,I,I,I,O,O,O] aC (h:=?_)
   refine bI 10 48 #[I,I,I,I,I,I,I,I,I,I,I,O,O] aC (h:=?_)
   refine bI 11 49 #[I,I,I,I,I,I,I,I,I,I,I,I,O] aC (h:=?_)
   refine dW (i:=12) (N:=none) #[I,I,I,I,I,I,I,I,I,I,I,I,I] rfl rfl (aN aC.out (by kernel_rfl)) (by decide) (fun K hK=>?_)
   have eB:=(show w_.cell? ⟨s1+1+1+1,1,none⟩=some (.int .i64 Ck) by simpa using IK.out.cell 1)
   have gP:=IK.out.frozen 1
   refine ib (w1:=?_) (by rfl) rfl ?_ ?_
   rotate_left
   .go_simp
    rfl
   refine hK.out _ _ ?_
   clear hK K eB gP
   have HS:=aa.mk (TU.out.set 1 (.int .i64 (Ck+x.2.f3.f1)))
   have Br:=aa.mk (IK.out.setAt 1 (.int .i64 (Ck+x.2.f3.f1)))
   have B7:=aa.mk (IM.out.move (w':=w_.setCell ⟨s1+1+1+1,1,none⟩ (.int .i64 (Ck+x.2.f3.f1))) (Below.heap_setCell _ _ _ _ (by simp only;omega)))
   have B8:=aa.mk (Um.out.move (w':=w_.setCell ⟨s1+1+1+1,1,none⟩ (.int .i64 (Ck+x.2.f3.f1))) (Below.heap_setCell _ _ _ _ (by simp only;omega)))
   have Bg:=aa.mk (Ul.out.move (w':=w_.setCell ⟨s1+1+1+1,1,none⟩ (.int .i64 (Ck+x.2.f3.f1))) (Below.heap_setCell _ _ _ _ (by simp only;omega)))
   simp only[List.set_cons_zero,List.set_cons_succ] at Br
   clear TU IK IM Um Ul
   generalize w_.setCell ⟨s1+1+1+1,1,none⟩ (.int .i64 (Ck+x.2.f3.f1))=w8 at HS Br B7 B8 Bg ⊢
   refine fF (bQ aC.out (by kernel_rfl)) ?_
   obtain⟨e1,e2⟩:=ZG (p:=p) (xs:=pre) (x:=x) hpx
   refine⟨HS.out.ko.from _,HS.out.keep (.inl (.inr rfl)) h4s,⟨by rw[e1];exact HS.out.blk i1.out (by omega)⟩,⟨by rw[e2,uy,uC,HSM.out,abj.out];exact Br.out⟩,⟨HS.out.seq i3.out (by omega) (by have:=kY.out.size;omega)⟩,⟨i4.out.trans (HS.out.keep (.inl (.inr rfl)) h4s)⟩,⟨HS.out.Ol i5.out⟩,⟨i6.out.snoc HWX.out⟩⟩
  .have HS:=aa.mk ((Stp.refl (s1+1+1) W).below hb6)
   have Br:=aa.mk (i1.out.below hb6)
   have hsum:=(Bu.out true).1
   have AR:=(Bu.out true).2
   simp only[if_true] at hsum AR
   obtain⟨sm,hsm⟩:∃s,gK (lV p pre)=s:=⟨_,rfl⟩
   obtain⟨Ck,yh⟩:∃s,gL (lV p pre)=s:=⟨_,rfl⟩
   rw[hsm] at hsum Br
   rw[yh] at AR Br
   have HSM:=aa.mk hsm
   have abj:=aa.mk yh
   clear hsm yh hb6 hBg B5 Bu
   gi_wp2_with fail
   refine jN (by rintro⟨_,_,h⟩;exact h) (by kernel_rfl) (n:=13) (S:=fun w'=>w'.cell? ⟨s1+1+1,0,none⟩=some (.int .i64 sm)/\w'.cell? ⟨s1,0,none⟩=some (.func (.func 119) #[] #[])/\w'.cell? ⟨g,3,none⟩=some (.int .i64 x.2.f3.f0)/\w'.cell? ⟨g,4,none⟩=some (.int .i64 x.2.f3.f1)) (ds:=[12]) #[O,O,O,O,O,O,O,O,O,O,O,O,O] (by kernel_rfl) rfl rfl ⟨(by simpa using Br.out.cell 0),(by simpa using B7.out.cell 0),(by simpa[cellsS] using Bg.out.cell 3),(by simpa[cellsS] using Bg.out.cell 4)⟩ (fun hHeld=>?_);refine bK pt.Je pt.yS (fun aC bW=>?_)
   have NJ:=aa.mk HS.out.drew
   have IL:=aa.mk (Br.out.move rfl:aR w6.drew _ _ _)
   have B7d:=aa.mk (B7.out.move rfl:aR w6.drew _ _ _)
   have Lb:=aa.mk (B8.out.move rfl:aR w6.drew _ _ _)
   have BB:=aa.mk (Bg.out.move rfl:aR w6.drew _ _ _)
   clear HS Br B7 B8 Bg
   generalize w6.drew=wd at NJ IL B7d Lb BB hHeld ⊢
   refine bI 0 26 #[I,O,O,O,O,O,O,O,O,O,O,O,O] aC (h:=?_)
   refine bI 1 27 #[I,I,O,O,O,O,O,O,O,O,O,O,O] aC (h:=?_)
   refine bI 2 28 #[I,I,I,O,O,O,O,O,O,O,O,O,O] aC (h:=?_)
   refine eP 3 29 #[I,I,I,I,O,O,O,O,O,O,O,O,O] aC bW hHeld (hy:=by(rintro w' ⟨s0,s1,s2,s3⟩;go_simp;with_reducible rfl)) (h:=?_)
   refine bI 4 30 #[I,I,I,I,I,O,O,O,O,O,O,O,O] aC (h:=?_)
   refine eP 5 31 #[I,I,I,I,I,I,O,O,O,O,O,O,O] aC bW hHeld (hy:=by(rintro w' ⟨s0,s1,s2,s3⟩;go_simp;with_reducible rfl)) (h:=?_)
   refine bI 6 32 #[I,I,I,I,I,I,I,O,O,O,O,O,O] aC (h:=?_)
   refine eP 7 33 #[I,I,I,I,I,I,I,I,O,O,O,O,O] aC bW hHeld (hy:=by(rintro w' ⟨s0,s1,s2,s3⟩;go_simp;with_reducible rfl)) (h:=?_)
   refine iC (i:=8) (N:=some 34) #[I,I,I,I,I,I,I,I,I,O,O,O,O] rfl rfl (aN aC.out (by kernel_rfl)) (by decide) (fun K hK=>?_)
   refine call_ 119 #[.agg #[.int .i64 x.2.f3.f0,.int .i64 x.2.f3.f1]] (by rfl) rfl ?_ ?_
   .have he:=enters Tryz.func119 (by kernel_rfl) rfl #[.agg #[.int .i64 x.2.f3.f0,.int .i64 x.2.f3.f1]]
    go_simp
   refine(Da x.2.f3.f0 x.2.f3.f1 _).mono ?_
   rintro e_ w_ ⟨rfl,hbc⟩
   refine⟨_,rfl,hK.out _ _ ⟨(by simpa using (IL.out.below hbc).cell 0),(by simpa using (B7d.out.below hbc).cell 0),(by simpa[cellsS] using (BB.out.below hbc).cell 3),(by simpa[cellsS] using (BB.out.below hbc).cell 4)⟩ (fun hHeld=>?_)⟩
   clear hK K
   have TU:=aa.mk (NJ.out.below hbc)
   have IK:=aa.mk (IL.out.below hbc)
   have IM:=aa.mk (B7d.out.below hbc)
   have Um:=aa.mk (Lb.out.below hbc)
   have Ul:=aa.mk (BB.out.below hbc)
   clear hbc NJ IL B7d Lb BB
   refine bF (by simp only[Act.put,List.setIfInBounds_toArray,List.set_cons_zero,List.set_cons_succ];rfl) ?_
   refine bI 9 35 #[I,I,I,I,I,I,I,I,I,I,O,O,O] aC (h:=?_)
   refine bI 10 36 #[I,I,I,I,I,I,I,I,I,I,I,O,O] aC (h:=?_)
   refine bI 11 37 #[I,I,I,I,I,I,I,I,I,I,I,I,O] aC (h:=?_)
   refine dW (i:=12) (N:=none) #[I,I,I,I,I,I,I,I,I,I,I,I,I] rfl rfl (aN aC.out (by kernel_rfl)) (by decide) (fun K hK=>?_)
   have eB:=(show w_.cell? ⟨s1+1+1,0,none⟩=some (.int .i64 sm) by simpa using IK.out.cell 0)
   have gP:=IK.out.frozen 0
   refine ib (w1:=?_) (by rfl) rfl ?_ ?_
   rotate_left
   .go_simp
    rfl
   refine hK.out _ _ ?_
   clear hK K eB gP
   have HS:=aa.mk (TU.out.set 0 (.int .i64 (sm+x.2.f3.f0)))
   have Br:=aa.mk (IK.out.setAt 0 (.int .i64 (sm+x.2.f3.f0)))
   have B7:=aa.mk (IM.out.move (w':=w_.setCell ⟨s1+1+1,0,none⟩ (.int .i64 (sm+x.2.f3.f0))) (Below.heap_setCell _ _ _ _ (by simp only;omega)))
   have B8:=aa.mk (Um.out.move (w':=w_.setCell ⟨s1+1+1,0,none⟩ (.int .i64 (sm+x.2.f3.f0))) (Below.heap_setCell _ _ _ _ (by simp only;omega)))
   have Bg:=aa.mk (Ul.out.move (w':=w_.setCell ⟨s1+1+1,0,none⟩ (.int .i64 (sm+x.2.f3.f0))) (Below.heap_setCell _ _ _ _ (by simp only;omega)))
   simp only[List.set_cons_zero,List.set_cons_succ] at Br
   clear TU IK IM Um Ul
   generalize w_.setCell ⟨s1+1+1,0,none⟩ (.int .i64 (sm+x.2.f3.f0))=w7 at HS Br B7 B8 Bg ⊢
   refine fF (bQ aC.out (by kernel_rfl)) ?_
   gi_wp2_with fail
   refine jN (by rintro⟨_,_,h⟩;exact h) (by kernel_rfl) (n:=13) (S:=fun w'=>w'.cell? ⟨s1+1+1,1,none⟩=some (.int .i64 Ck)/\w'.cell? ⟨s1+1,0,none⟩=some (.func (.func 120) #[] #[])/\w'.cell? ⟨g,3,none⟩=some (.int .i64 x.2.f3.f0)/\w'.cell? ⟨g,4,none⟩=some (.int .i64 x.2.f3.f1)) (ds:=[12]) #[O,O,O,O,O,O,O,O,O,O,O,O,O] (by kernel_rfl) rfl rfl ⟨(by simpa using Br.out.cell 1),(by simpa using B8.out.cell 0),(by simpa[cellsS] using Bg.out.cell 3),(by simpa[cellsS] using Bg.out.cell 4)⟩ (fun hHeld=>?_);refine bK pt.yE pt.rU (fun aC bW=>?_)
   have NJ:=aa.mk HS.out.drew
   have IL:=aa.mk (Br.out.move rfl:aR w7.drew _ _ _)
   have B7d:=aa.mk (B7.out.move rfl:aR w7.drew _ _ _)
   have Lb:=aa.mk (B8.out.move rfl:aR w7.drew _ _ _)
   have BB:=aa.mk (Bg.out.move rfl:aR w7.drew _ _ _)
   clear HS Br B7 B8 Bg
   generalize w7.drew=wd at NJ IL B7d Lb BB hHeld ⊢
   refine bI 0 38 #[I,O,O,O,O,O,O,O,O,O,O,O,O] aC (h:=?_)
   refine bI 1 39 #[I,I,O,O,O,O,O,O,O,O,O,O,O] aC (h:=?_)
   refine bI 2 40 #[I,I,I,O,O,O,O,O,O,O,O,O,O] aC (h:=?_)
   refine eP 3 41 #[I,I,I,I,O,O,O,O,O,O,O,O,O] aC bW hHeld (hy:=by(rintro w' ⟨s0,s1,s2,s3⟩;go_simp;with_reducible rfl)) (h:=?_)
   refine bI 4 42 #[I,I,I,I,I,O,O,O,O,O,O,O,O] aC (h:=?_)
   refine eP 5 43 #[I,I,I,I,I,I,O,O,O,O,O,O,O] aC bW hHeld (hy:=by(rintro w' ⟨s0,s1,s2,s3⟩;go_simp;with_reducible rfl)) (h:=?_)
   refine bI 6 44 #[I,I,I,I,I,I,I,O,O,O,O,O,O] aC (h:=?_)
   refine eP 7 45 #[I,I,I,I,I,I,I,I,O,O,O,O,O] aC bW hHeld (hy:=by(rintro w' ⟨s0,s1,s2,s3⟩;go_simp;with_reducible rfl)) (h:=?_)
   refine iC (i:=8) (N:=some 46) #[I,I,I,I,I,I,I,I,I,O,O,O,O] rfl rfl (aN aC.out (by kernel_rfl)) (by decide) (fun K hK=>?_)
   refine call_ 120 #[.agg #[.int .i64 x.2.f3.f0,.int .i64 x.2.f3.f1]] (by rfl) rfl ?_ ?_
   .have he:=enters Tryz.func120 (by kernel_rfl) rfl #[.agg #[.int .i64 x.2.f3.f0,.int .i64 x.2.f3.f1]]
    go_simp
   refine(AU x.2.f3.f0 x.2.f3.f1 _).mono ?_
   rintro e_ w_ ⟨rfl,hbc⟩
   refine⟨_,rfl,hK.out _ _ ⟨(by simpa using (IL.out.below hbc).cell 1),(by simpa using (Lb.out.below hbc).cell 0),(by simpa[cellsS] using (BB.out.below hbc).cell 3),(by simpa[cellsS] using (BB.out.below hbc).cell 4)⟩ (fun hHeld=>?_)⟩
   clear hK K
   have TU:=aa.mk (NJ.out.below hbc)
   have IK:=aa.mk (IL.out.below hbc)
   have IM:=aa.mk (B7d.out.below hbc)
   have Um:=aa.mk (Lb.out.below hbc)
   have Ul:=aa.mk (BB.out.below hbc)
   clear hbc NJ IL B7d Lb BB
   refine bF (by simp only[Act.put,List.setIfInBounds_toArray,List.set_cons_zero,List.set_cons_succ];rfl) ?_
   refine bI 9 47 #[I,I,I,I,I,I,I,I,I,I,O,O,O] aC (h:=?_)
   refine bI 10 48 #[I,I,I,I,I,I,I,I,I,I,I,O,O] aC (h:=?_)
   refine bI 11 49 #[I,I,I,I,I,I,I,I,I,I,I,I,O] aC (h:=?_)
   refine dW (i:=12) (N:=none) #[I,I,I,I,I,I,I,I,I,I,I,I,I] rfl rfl (aN aC.out (by kernel_rfl)) (by decide) (fun K hK=>?_)
   have eB:=(show w_.cell? ⟨s1+1+1,1,none⟩=some (.int .i64 Ck) by simpa using IK.out.cell 1)
   have gP:=IK.out.frozen 1
   refine ib (w1:=?_) (by rfl) rfl ?_ ?_
   rotate_left
   .go_simp
    rfl
   refine hK.out _ _ ?_
   clear hK K eB gP
   have HS:=aa.mk (TU.out.set 1 (.int .i64 (Ck+x.2.f3.f1)))
   have Br:=aa.mk (IK.out.setAt 1 (.int .i64 (Ck+x.2.f3.f1)))
   have B7:=aa.mk (IM.out.move (w':=w_.setCell ⟨s1+1+1,1,none⟩ (.int .i64 (Ck+x.2.f3.f1))) (Below.heap_setCell _ _ _ _ (by simp only;omega)))
   have B8:=aa.mk (Um.out.move (w':=w_.setCell ⟨s1+1+1,1,none⟩ (.int .i64 (Ck+x.2.f3.f1))) (Below.heap_setCell _ _ _ _ (by simp only;omega)))
   have Bg:=aa.mk (Ul.out.move (w':=w_.setCell ⟨s1+1+1,1,none⟩ (.int .i64 (Ck+x.2.f3.f1))) (Below.heap_setCell _ _ _ _ (by simp only;omega)))
   simp only[List.set_cons_zero,List.set_cons_succ] at Br
   clear TU IK IM Um Ul
   generalize w_.setCell ⟨s1+1+1,1,none⟩ (.int .i64 (Ck+x.2.f3.f1))=w8 at HS Br B7 B8 Bg ⊢
   refine fF (bQ aC.out (by kernel_rfl)) ?_
   obtain⟨e1,e2⟩:=ZF (p:=p) (xs:=pre) (x:=x) hpx
   refine⟨HS.out.ko.from _,HS.out.keep (.inl (.inl rfl)) h4s,⟨by rw[e1,uy,uC,HSM.out,abj.out];exact Br.out⟩,⟨by rw[e2];exact HS.out.blk i2.out (by omega)⟩,⟨HS.out.seq i3.out (by omega) (by have:=kY.out.size;omega)⟩,⟨i4.out.trans (HS.out.keep (.inl (.inl rfl)) h4s)⟩,⟨HS.out.Ol i5.out⟩,⟨i6.out.snoc HWX.out⟩⟩
 case done=>
  rintro D W hD ⟨i1,i2,i3,i4,i5,i6⟩ uW
  have hw4:=kY.out.size
  have HM:=aa.mk (Marks.cons (lo:=w.heap.size) (a:=w4) (b:=W) (ds:=[]) trivial i5.out hD hw4 uW)
  have B3:=aa.mk (Ur.out.move (i4.out.block _ (by omega) (by omega)))
  have B6:=aa.mk (YU.out.move (i4.out.block _ (by omega) (by omega)))
  obtain⟨ad,e,hx⟩:=Kd.dz (H.out.below i3.out).PY (d:Int) (by omega) (by omega)
  cases e
  simp only[Int.toNat_natCast] at hx
  have HF:=aa.mk (show je old ss (d:Int) p=(max (gK (lV p (dI ss d ss.length))) (rd old d-gL (kD p (dI ss d ss.length))),min (gL (lV p (dI ss d ss.length))) (rd old d-gK (kD p (dI ss d ss.length)))) from rfl)
  have hrd:=NM.out (rd old (d:Int)) (by rw[LV old d hd];exact List.getElem_mem hd)
  have q1:=kL (qd (p:=p) i6.out).1
  have q2:=kL (qd (p:=p) i6.out).2
  have q3:=AQ p (dI ss (d:Int) ss.length)
  have q4:=Az ss (d:Int) ss.length
  have hw1:wrap64 (rd old (d:Int)-gL (kD p (dI ss d ss.length)))=rd old (d:Int)-gL (kD p (dI ss d ss.length)):=IntWalk.wrap64_in _ (by omega)
  have hw2:wrap64 (rd old (d:Int)-gK (kD p (dI ss d ss.length)))=rd old (d:Int)-gK (kD p (dI ss d ss.length)):=IntWalk.wrap64_in _ (by omega)
  obtain⟨a0,ha0⟩:∃a,gK (lV p (dI ss (d:Int) ss.length))=a:=⟨_,rfl⟩
  obtain⟨a1,ha1⟩:∃a,gL (lV p (dI ss (d:Int) ss.length))=a:=⟨_,rfl⟩
  obtain⟨o0,ho0⟩:∃a,gK (kD p (dI ss (d:Int) ss.length))=a:=⟨_,rfl⟩
  obtain⟨o1,ho1⟩:∃a,gL (kD p (dI ss (d:Int) ss.length))=a:=⟨_,rfl⟩
  obtain⟨cnt,hcnt⟩:∃a,rd old (d:Int)=a:=⟨_,rfl⟩
  rw[ha0,ha1] at i1
  rw[ho0,ho1] at i2
  rw[ha0,ha1,ho0,ho1,hcnt] at HF
  rw[hcnt] at hx
  rw[hcnt,ho1] at hw1
  rw[hcnt,ho0] at hw2
  clear q1 q2 q3 q4 hrd ha0 ha1 ho0 ho1 hcnt i4 i5 i6 uW hD Ur B54 YU YT B84 B94 BA4 xC uT hsz HC hlo
  have I1:=i1
  have I2:=i2
  have QQ:=i3
  clear i1 i2 i3
  have hd0:(0:Int)<=(d:Int):=by omega
  have hdl:(d:Int)<(old.length:Int):=by omega
  dsimp only
  go_wp2_with (with_reducible refine wpIn_wide.2 ?_)
  refine gz (n:=25) (S:=fun w'=>w'.cell? ⟨s1+1+1,0,none⟩=some (.int .i64 a0)/\w'.cell? ⟨s1+1+1,1,none⟩=some (.int .i64 a1)/\w'.cell? ⟨s1+1+1+1,0,none⟩=some (.int .i64 o0)/\w'.cell? ⟨s1+1+1+1,1,none⟩=some (.int .i64 o1)/\w'.cell? ⟨w.heap.size,0,none⟩=some (.slice (some ad) old.length c0)/\w'.cell? (ad.add d)=some (.int .i64 cnt)) (ds:=[24]) #[O,O,O,O,O,O,O,O,O,O,O,O,O,O,O,O,O,O,O,O,O,O,O,O,O] (by kernel_rfl) rfl rfl ⟨(by simpa using I1.out.cell 0),(by simpa using I1.out.cell 1),(by simpa using I2.out.cell 0),(by simpa using I2.out.cell 1),(by simpa using B3.out.cell 0),hx⟩ (fun hHeld=>?_);refine bK pt.zS pt.uQ (fun aC bW=>?_)
  have B6:=aa.mk (B6.out.move rfl:aR W.drew _ _ _)
  have HM:=aa.mk HM.out.drew
  have QQ:=aa.mk (bG QQ.out)
  have I1:=aa.mk (I1.out.move rfl:aR W.drew _ _ _)
  have I2:=aa.mk (I2.out.move rfl:aR W.drew _ _ _)
  have B3:=aa.mk (B3.out.move rfl:aR W.drew _ _ _)
  replace hx:W.drew.cell? (ad.add d)=some (.int .i64 cnt):=hx
  generalize W.drew=Wd at B6 HM QQ I1 I2 B3 hx hHeld ⊢
  refine bI 0 50 #[I,O,O,O,O,O,O,O,O,O,O,O,O,O,O,O,O,O,O,O,O,O,O,O,O] aC (h:=?_)
  refine eP 1 51 #[I,I,O,O,O,O,O,O,O,O,O,O,O,O,O,O,O,O,O,O,O,O,O,O,O] aC bW hHeld (hy:=by(rintro w' ⟨s0,s1,s2,s3,s4,s5⟩;go_simp;with_reducible rfl)) (h:=?_)
  refine bI 2 52 #[I,I,I,O,O,O,O,O,O,O,O,O,O,O,O,O,O,O,O,O,O,O,O,O,O] aC (h:=?_)
  refine eP 3 53 #[I,I,I,I,O,O,O,O,O,O,O,O,O,O,O,O,O,O,O,O,O,O,O,O,O] aC bW hHeld (hy:=by(rintro w' ⟨s0,s1,s2,s3,s4,s5⟩;go_simp;with_reducible rfl)) (h:=?_)
  refine bI 4 54 #[I,I,I,I,I,O,O,O,O,O,O,O,O,O,O,O,O,O,O,O,O,O,O,O,O] aC (h:=?_)
  refine bI 5 55 #[I,I,I,I,I,I,O,O,O,O,O,O,O,O,O,O,O,O,O,O,O,O,O,O,O] aC (h:=?_)
  refine eP 6 56 #[I,I,I,I,I,I,I,O,O,O,O,O,O,O,O,O,O,O,O,O,O,O,O,O,O] aC bW hHeld (hy:=by(rintro w' ⟨s0,s1,s2,s3,s4,s5⟩;go_simp;with_reducible rfl)) (h:=?_)
  refine bI 7 57 #[I,I,I,I,I,I,I,I,O,O,O,O,O,O,O,O,O,O,O,O,O,O,O,O,O] aC (h:=?_)
  refine eP 8 58 #[I,I,I,I,I,I,I,I,I,O,O,O,O,O,O,O,O,O,O,O,O,O,O,O,O] aC bW hHeld (hy:=by(rintro w' ⟨s0,s1,s2,s3,s4,s5⟩;go_simp;with_reducible rfl)) (h:=?_)
  refine bI 9 59 #[I,I,I,I,I,I,I,I,I,I,O,O,O,O,O,O,O,O,O,O,O,O,O,O,O] aC (h:=?_)
  refine oO (i:=10) (N:=some 60) (v:= .int .i64 (max a0 (cnt-o1))) (a':=?_) #[I,I,I,I,I,I,I,I,I,I,I,O,O,O,O,O,O,O,O,O,O,O,O,O,O] rfl rfl (dQ aC.out (by kernel_rfl)) (fun _ _ _ h=>h) (Or.inl ⟨by rfl,?_⟩) ?_ ?_
  .intro w'
   go_simp
   exact Zw _ _
  rotate_left
  .simp only[Act.put,List.setIfInBounds_toArray,List.set_cons_zero,List.set_cons_succ,dL,ed]
   rfl
  refine bI 11 61 #[I,I,I,I,I,I,I,I,I,I,I,I,O,O,O,O,O,O,O,O,O,O,O,O,O] aC (h:=?_)
  refine eP 12 62 #[I,I,I,I,I,I,I,I,I,I,I,I,I,O,O,O,O,O,O,O,O,O,O,O,O] aC bW hHeld (hy:=by(rintro w' ⟨s0,s1,s2,s3,s4,s5⟩;go_simp;with_reducible rfl)) (h:=?_)
  refine bI 13 63 #[I,I,I,I,I,I,I,I,I,I,I,I,I,I,O,O,O,O,O,O,O,O,O,O,O] aC (h:=?_)
  refine eP 14 64 #[I,I,I,I,I,I,I,I,I,I,I,I,I,I,I,O,O,O,O,O,O,O,O,O,O] aC bW hHeld (hy:=by(rintro w' ⟨s0,s1,s2,s3,s4,s5⟩;go_simp;with_reducible rfl)) (h:=?_)
  refine bI 15 65 #[I,I,I,I,I,I,I,I,I,I,I,I,I,I,I,I,O,O,O,O,O,O,O,O,O] aC (h:=?_)
  refine bI 16 66 #[I,I,I,I,I,I,I,I,I,I,I,I,I,I,I,I,I,O,O,O,O,O,O,O,O] aC (h:=?_)
  refine eP 17 67 #[I,I,I,I,I,I,I,I,I,I,I,I,I,I,I,I,I,I,O,O,O,O,O,O,O] aC bW hHeld (hy:=by(rintro w' ⟨s0,s1,s2,s3,s4,s5⟩;go_simp;with_reducible rfl)) (h:=?_)
  refine bI 18 68 #[I,I,I,I,I,I,I,I,I,I,I,I,I,I,I,I,I,I,I,O,O,O,O,O,O] aC (h:=?_)
  refine eP 19 69 #[I,I,I,I,I,I,I,I,I,I,I,I,I,I,I,I,I,I,I,I,O,O,O,O,O] aC bW hHeld (hy:=by(rintro w' ⟨s0,s1,s2,s3,s4,s5⟩;go_simp;with_reducible rfl)) (h:=?_)
  refine bI 20 70 #[I,I,I,I,I,I,I,I,I,I,I,I,I,I,I,I,I,I,I,I,I,O,O,O,O] aC (h:=?_)
  refine iC (i:=21) (N:=some 71) #[I,I,I,I,I,I,I,I,I,I,I,I,I,I,I,I,I,I,I,I,I,I,O,O,O] rfl rfl (aN aC.out (by kernel_rfl)) (by decide) (fun K hK=>?_)
  refine dV (w1:=?_) (v:=?_) (by rfl) rfl ?_ ?_
  rotate_left 2
  .go_simp
   constructor<;>rfl
  refine hK.out _ _ ⟨(by simpa using (I1.out.alloc (.cells #[.int .i64 a1,.int .i64 (cnt-o0)] 3)).cell 0),(by simpa using (I1.out.alloc (.cells #[.int .i64 a1,.int .i64 (cnt-o0)] 3)).cell 1),(by simpa using (I2.out.alloc (.cells #[.int .i64 a1,.int .i64 (cnt-o0)] 3)).cell 0),(by simpa using (I2.out.alloc (.cells #[.int .i64 a1,.int .i64 (cnt-o0)] 3)).cell 1),(by simpa using (B3.out.alloc (.cells #[.int .i64 a1,.int .i64 (cnt-o0)] 3)).cell 0),((World.cell?_alloc_old _ _ _ (Nat.ne_of_lt (World.block_lt_of_cell? _ _ hx))).trans hx)⟩ (fun hHeld=>?_)
  clear hK K
  have B6e:=aa.mk (B6.out.alloc (.cells #[.int .i64 a1,.int .i64 (cnt-o0)] 3))
  have HMe:=aa.mk (HM.out.alloc (.cells #[.int .i64 a1,.int .i64 (cnt-o0)] 3))
  have QP:=aa.mk (ae QQ.out (.cells #[.int .i64 a1,.int .i64 (cnt-o0)] 3))
  have Bl:=aa.mk (aR.new Wd [.int .i64 a1,.int .i64 (cnt-o0)] 3)
  clear B6 HM QQ I1 I2 B3
  generalize Wd.alloc (.cells #[.int .i64 a1,.int .i64 (cnt-o0)] 3)=wb at B6e HMe QP Bl hHeld ⊢
  obtain⟨gb,hgb⟩:∃g,Wd.heap.size=g:=⟨_,rfl⟩
  rw[hgb] at Bl ⊢
  refine bF (by simp only[Act.put,List.setIfInBounds_toArray,List.set_cons_zero,List.set_cons_succ];rfl) ?_
  refine iC (i:=22) (N:=some 72) #[I,I,I,I,I,I,I,I,I,I,I,I,I,I,I,I,I,I,I,I,I,I,I,O,O] rfl rfl (aN aC.out (by kernel_rfl)) (by decide) (fun K hK=>?_)
  refine fD Tryz.func85 (by kernel_rfl) rfl #[.slice (some ⟨gb,0,none⟩) 2 2] (by rfl) rfl rfl (by(try simp only[List.map_toArray,List.map_cons,List.map_nil]);rfl) ?_
  refine(zW gb a1 (cnt-o0) wb (by simpa using Bl.out.cell 0) (by simpa using Bl.out.cell 1)).mono ?_
  rintro e_ w_ ⟨rfl,rfl⟩
  refine⟨_,rfl,hK.out _ _ ⟨hHeld.1,hHeld.2.1,hHeld.2.2.1,hHeld.2.2.2.1,hHeld.2.2.2.2.1,hHeld.2.2.2.2.2⟩ (fun hHeld=>?_)⟩
  clear hK K
  refine bF (by simp only[Act.put,List.setIfInBounds_toArray,List.set_cons_zero,List.set_cons_succ];rfl) ?_
  refine bI 23 73 #[I,I,I,I,I,I,I,I,I,I,I,I,I,I,I,I,I,I,I,I,I,I,I,I,O] aC (h:=?_)
  refine dW (i:=24) (N:=none) #[I,I,I,I,I,I,I,I,I,I,I,I,I,I,I,I,I,I,I,I,I,I,I,I,I] rfl rfl (aN aC.out (by kernel_rfl)) (by decide) (fun K hK=>?_)
  have eB:=(show w_.cell? ⟨w.heap.size+1+1,0,none⟩=some (.int .i64 0) by simpa using B6e.out.cell 0)
  have gP:=B6e.out.frozen 0
  have rH:w_.cell? ⟨w.heap.size+1+1,1,none⟩=some (.int .i64 0):=by simpa using B6e.out.cell 1
  have rM:w_.frozen? ⟨w.heap.size+1+1,1,none⟩=false:=B6e.out.frozen 1
  refine ib (w1:=?_) (by rfl) rfl ?_ ?_
  rotate_left
  .go_simp
   rfl
  refine hK.out _ _ ?_
  clear hK K eB gP rH rM
  have B6f:=aa.mk (B6e.out.set2 (.int .i64 (max a0 (cnt-o1))) (.int .i64 (min a1 (cnt-o0))))
  have HMf:=aa.mk ((HMe.out.setCell ⟨w.heap.size+1+1,0,none⟩ (.int .i64 (max a0 (cnt-o1)))).setCell ⟨w.heap.size+1+1,1,none⟩ (.int .i64 (min a1 (cnt-o0))))
  have xM:=aa.mk ((QP.out.setCell (p:=⟨w.heap.size+1+1,0,none⟩) (by simp only;omega) (.int .i64 (max a0 (cnt-o1)))).setCell (p:=⟨w.heap.size+1+1,1,none⟩) (by simp only;omega) (.int .i64 (min a1 (cnt-o0))))
  clear B6e HMe QP Bl
  refine fF (bQ aC.out (by kernel_rfl)) ?_
  go_wp2_with (with_reducible refine wpIn_wide.2 ?_)
  refine Marks.leaves (lo:=w.heap.size) (Inv:=fun W=>Below w.heap.size w W/\aR W (w.heap.size+1+1) [.int .i64 (max a0 (cnt-o1)),.int .i64 (min a1 (cnt-o0))] 52) (fun W D hlo hD hi=>⟨hi.1.grown (grownBy_putObj' W D _) hi.1.size (fun k e=>by cases e;exact hlo),Tj hi.2 hD _⟩) (fun W hi=>?_) _ _ HMf.out ⟨xM.out,B6f.out⟩
  refine⟨_,results_cell_row rfl _ _ (w.heap.size+1+1) 52 #[.int .i64 (max a0 (cnt-o1)),.int .i64 (min a1 (cnt-o0))] (0,0) _ rfl hi.2 Tryz.underlying52 rfl (by kernel_rfl),?_,hi.1⟩
  rw[HF.out]
end Go.Proofs.YtkjoilgpmngndaaGreat
