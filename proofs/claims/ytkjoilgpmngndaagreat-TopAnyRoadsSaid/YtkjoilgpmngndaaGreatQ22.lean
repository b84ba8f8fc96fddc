import Derived.Test.YtkjoilgpmngndaaGreatQ21
set_option linter.all false
namespace Go.Proofs.YtkjoilgpmngndaaGreat
open Go.RowKit Go.Shelf au YtkjoilgpmngndaaGreatW.aj YtkjoilgpmngndaaGreatW.aJ YtkjoilgpmngndaaGreatW.ek
attribute [local go_sem] Oper.semAt_some o5 rX
def pt.T9:Bool×List (List Nat×List Nat):=(true,[([],[]),([0],[0]),([1],[1]),([2],[2]),([],[]),([4],[4]),([],[]),([6],[6]),([5,7],[5,7]),([3,8],[3,8]),([0,0,1,2,3,4,5,6,7,8,9],[0]),([10,0,1,2,3,4,5,6,7,8,9],[10]),([11,9,8,0,1,2,3,4,5,6,7,8,9],[9,11])])
def pt.B9:List Nat:=[0,1,3,7,0,16,0,64,240,511,1023,2047,4095]
theorem pt.Dk:dW .any (opsOf Tryz.f41 9)=pt.T9:=by kernel_rfl
theorem pt.vO:bJ pt.T9.2 pt.B9=true:=by kernel_rfl
def pt.W9:Bool×List (List Nat×List Nat):=(true,[([],[]),([0],[0]),([1],[1]),([2],[2]),([],[]),([4],[4]),([],[]),([6],[6]),([5,7],[5,7]),([3,8],[3,8]),([0,0,1,2,3,4,5,6,7,8,9],[0]),([10,0,1,2,3,4,5,6,7,8,9],[10]),([11,9,8,0,1,2,3,4,5,6,7,8,9],[9,11])])
def pt.B10:List Nat:=[0,1,3,7,0,16,0,64,240,511,1023,2047,4095]
theorem pt.D9:dW .any (opsOf Tryz.f41 10)=pt.W9:=by kernel_rfl
theorem pt.zf:bJ pt.W9.2 pt.B10=true:=by kernel_rfl
def pt.Sd:Bool×List (List Nat×List Nat):=(true,[([],[]),([0],[0]),([],[]),([2],[2]),([],[]),([3,4],[3,4]),([5],[5]),([],[]),([7],[7]),([6,8],[6,8]),([1,9],[1,9]),([],[]),([11],[11]),([],[]),([13],[13]),([],[]),([14,15],[14,15]),([16],[16]),([],[]),([18],[18]),([17,19],[17,19]),([12,20],[12,20]),([21],[21]),([10,22],[10,22]),([23,22,0,1,2,3,4,5,6,7,8,9,10,11,12,13,14,15,16,17,18,19,20,21,22,23],[23])])
def pt.B11:List Nat:=[0,1,0,4,0,28,60,0,128,508,1023,0,2048,0,8192,0,57344,122880,0,262144,1040384,2095104,4192256,8388607,16777215]
theorem pt.vE:dW .any (opsOf Tryz.f41 11)=pt.Sd:=by kernel_rfl
theorem pt.qH:bJ pt.Sd.2 pt.B11=true:=by kernel_rfl
def ZI(n:Nat)(g:Nat)(cap:Array Value)(p:Int->Bool)(w:World):Prop:=
 ∀(W:World) (x:Nat),x<n->Below w.heap.size w W->Calls Tryz.prog g (#[.int .i64 (x:Int)]++cap) W λe w'=>e= .returned (.bool (p (x:Int)))/\Below W.heap.size W w'
def pQ(p:Int->Bool)(xs:List IS):List IS:=xs.filter (λx=>p (x.1:Int))
def nK(p:Int->Bool)(xs:List IS):List IS:=xs.filter (λx=>!p (x.1:Int))
theorem Yk{p:Int->Bool}{xs:List IS}{x:IS}(h:p (x.1:Int)=true):pQ p (xs++[x])=pQ p xs++[x]/\nK p (xs++[x])=nK p xs:=by
 unfold pQ nK
 simp[List.filter_append,List.filter_cons,h]
theorem Yl{p:Int->Bool}{xs:List IS}{x:IS}(h:p (x.1:Int)=false):pQ p (xs++[x])=pQ p xs/\nK p (xs++[x])=nK p xs++[x]:=by
 unfold pQ nK
 simp[List.filter_append,List.filter_cons,h]
theorem rq{p:Int->Bool}{xs:List IS}(h:Sm xs):Sm (pQ p xs)/\Sm (nK p xs):=⟨λx hx=>h x (List.mem_filter.1 hx).1,λx hx=>h x (List.mem_filter.1 hx).1⟩
theorem BA(p:Int->Bool)(xs:List IS):(pQ p xs).length<=xs.length/\(nK p xs).length<=xs.length:=⟨List.length_filter_le _ _,List.length_filter_le _ _⟩
def nJ(old:List Int)(ss:List dQ)(d:Int)(p:Int->Bool):Int×Int:=
 (max (jJ (pQ p (iR ss d ss.length))) (rd old d-jL (nK p (iR ss d ss.length))),min (jL (pQ p (iR ss d ss.length))) (rd old d-jJ (nK p (iR ss d ss.length))))
structure Stp(gr:Nat)(W W':World):Prop where
 ko:KeepsOthers W W'
 os:W'.os=W.os
 tape:W'.tape=W.tape
 output:W'.output=W.output
 block:∀k,k<W.heap.size->k≠gr->W'.heap[k]?=W.heap[k]?
theorem Stp.refl(gr:Nat)(W:World):Stp gr W W:=⟨KeepsOthers.refl W,rfl,rfl,rfl,λ_ _ _=>rfl⟩
theorem Stp.below{gr:Nat}{W A B:World}(h:Stp gr W A)(hb:Below A.heap.size A B):Stp gr W B:=
 ⟨h.ko.trans ⟨hb.size,λk o hk _=>(hb.block k (Array.getElem?_eq_some_iff.1 hk).1).trans hk⟩,hb.os.trans h.os,hb.tape.trans h.tape,hb.output.trans h.output,λk hk hne=>(hb.block k (by have:=h.ko.size;omega)).trans (h.block k hk hne)⟩
theorem Stp.drew{gr:Nat}{W A:World}(h:Stp gr W A):Stp gr W A.drew:=⟨⟨h.ko.size,h.ko.same⟩,h.os,h.tape,h.output,h.block⟩
theorem Stp.set{gr:Nat}{W A:World}(h:Stp gr W A)(i:Nat)(v:Value):Stp gr W (A.setCell ⟨gr,i,none⟩ v):=
 ⟨h.ko.trans (KeepsOthers.setCell A _ v),h.os,h.tape,h.output,λk hk hne=>(Below.heap_setCell _ _ _ _ (by simpa using hne)).trans (h.block k hk hne)⟩
theorem Stp.keep{gr n:Nat}{S:Nat->Prop}{W W':World}(h:Stp gr W W')(hS:S gr\/n<=gr)(hn:n<=W.heap.size):bq n S W W':=
 ⟨h.os,h.tape,h.output,h.ko.size,λk hk hs=>h.block k (by omega) (λe=>by subst e;cases hS<;>first|contradiction|omega)⟩
theorem Stp.blk{gr g:Nat}{W W':World}{cs:List Value}{t:TypeId}(h:Stp gr W W')(hb:aR W g cs t)(hne:g≠gr):aR W' g cs t:=hb.move (h.block _ hb.lt hne)
theorem Stp.We{gr:Nat}{W W' w:World}(h:Stp gr W W')(hm:gN w W):gN w W':=λD hd=>h.ko.same D _ (hm D hd) rfl
theorem Stp.seq{gr B:Nat}{w W W':World}(h:Stp gr W W')(hb:Below B w W)(hB:B<=gr)(hBs:B<=W.heap.size):Below B w W':=
 ⟨h.os.trans hb.os,h.tape.trans hb.tape,h.output.trans hb.output,Nat.le_trans hb.size h.ko.size,λk hk=>(h.block k (by omega) (by omega)).trans (hb.block k hk)⟩
theorem Sm.snoc{pre:List IS}{x:IS}(h:Sm pre)(hx:0<=x.2.f3.f0/\x.2.f3.f0<=x.2.f3.f1/\x.2.f3.f1<=10000):Sm (pre++[x]):=λy hy=>by
 rcases List.mem_append.1 hy with hy|hy
 .exact h y hy
 .obtain rfl:=List.mem_singleton.1 hy
  exact hx
theorem Oj{p:Int->Bool}{pre:List IS}{x:IS}(h:Sm pre)(hl:pre.length<8)(hx:0<=x.2.f3.f0/\x.2.f3.f0<=x.2.f3.f1/\x.2.f3.f1<=10000)(b:Bool):
  wrap64 (jJ (if b then pQ p pre else nK p pre)+x.2.f3.f0)=jJ (if b then pQ p pre else nK p pre)+x.2.f3.f0/\wrap64 (jL (if b then pQ p pre else nK p pre)+x.2.f3.f1)=jL (if b then pQ p pre else nK p pre)+x.2.f3.f1:=by
 have h1:=lK (rq (p:=p) h).1
 have h2:=lK (rq (p:=p) h).2
 have h3:=BA p pre
 cases b
 .simp only[Bool.false_eq_true,if_false]
  constructor<;>exact wrap_small (by omega) (by omega)
 .simp only[if_true]
  constructor<;>exact wrap_small (by omega) (by omega)
theorem X6(a b:Int):(if a<b then b else a)=max a b:=by
 by_cases h:a<b
 .rw[if_pos h];omega
 .rw[if_neg h];omega
theorem RN{W:World}{D g:Nat}{cs:List Value}{t:TypeId}(h:aR W g cs t)(hD:W.heap[D]?=some (.deferred (some [])))(o:Obj):aR (W.putObj D o) g cs t:=by
 have hne:g≠D:=λe=>by
  subst e
  have h':W.heap[g]?=some (.cells cs.toArray t):=h
  rw[hD] at h'
  cases h'
 exact h.move ((grownBy_putObj' W D o).block g h.lt (λe=>hne (by cases e;rfl)))
set_option maxRecDepth 100000 in
set_option maxHeartbeats 40000000 in
theorem JL{A0:Option Addr}{c0:Nat}{old:List Int}{nw:Int}{A2:Option Addr}{c2:Nat}{ss:List dQ}{A3:Option Addr}{c3:Nat}{js:List jO}{w:World}(h:Nr w A0 c0 old A2 c2 ss A3 c3 js)(hss:ss.length<=8)(hst:∀s ∈ ss,kH old.length nw s)(hol:∀n ∈ old,0<=n/\n<=10000)
  (d:Nat) (hd:d<old.length) (gf:Nat) (cap:Array Value) (hg:∀args w,(callFunc gf args).run Tryz.prog w= .ok (.enter gf args) w) (p:Int->Bool) (hp:ZI ss.length gf cap p w):
  Calls Tryz.prog 41 #[.agg #[.slice A0 old.length c0,.int .i64 nw,.slice A2 ss.length c2,.slice A3 js.length c3],.int .i64 (d:Int),.func (.func gf) #[] cap] w λe w'=>e= .returned (.agg #[.int .i64 (nJ old ss (d:Int) p).1,.int .i64 (nJ old ss (d:Int) p).2])/\Below w.heap.size w w':=by
 have H:=aa.mk h
 have HP:=aa.mk hp
 have HST:=aa.mk hst
 have HOL:=aa.mk hol
 have hb2:=h.b2
 clear h hp hst hol
 refine(callsIn_wide (n:=9)).1 (dS Tryz.func41 rfl trivial ?_ rfl)
 simp only[Tryz.ntmps41,List.size_toArray,List.length_cons,List.length_nil,Nat.reduceAdd,Nat.reduceSub,Array.replicate_succ,Array.replicate_zero,List.push_toArray,List.append_toArray,List.nil_append,List.cons_append]
 refine wpIn_wide.2 ?_
 go_wp2_with (with_reducible refine wpIn_wide.2 ?_)
 have HB0:=aa.mk (ae (ae (ae (Below.refl w.heap.size w) (.cells #[.slice A0 old.length c0,.int .i64 nw,.slice A2 ss.length c2,.slice A3 js.length c3] 43)) (.cells #[.func (.func gf) #[] cap] 118)) (.cells #[.int .i64 0,.int .i64 0] 52))
 have Tm:=aa.mk (((aR.new w [.slice A0 old.length c0,.int .i64 nw,.slice A2 ss.length c2,.slice A3 js.length c3] 43).alloc (.cells #[.func (.func gf) #[] cap] 118)).alloc (.cells #[.int .i64 0,.int .i64 0] 52))
 have B50:=aa.mk (show aR _ (w.heap.size+1) _ _ by have hB:=(aR.new (w.alloc (.cells #[.slice A0 old.length c0,.int .i64 nw,.slice A2 ss.length c2,.slice A3 js.length c3] 43)) [.func (.func gf) #[] cap] 118).alloc (.cells #[.int .i64 0,.int .i64 0] 52);simp only[World.size_alloc] at hB;exact hB)
 have B60:=aa.mk (show aR _ (w.heap.size+1+1) _ _ by have hB:=aR.new ((w.alloc (.cells #[.slice A0 old.length c0,.int .i64 nw,.slice A2 ss.length c2,.slice A3 js.length c3] 43)).alloc (.cells #[.func (.func gf) #[] cap] 118)) [.int .i64 0,.int .i64 0] 52;simp only[World.size_alloc] at hB;exact hB)
 have hs0:w.heap.size+3=(((w.alloc (.cells #[.slice A0 old.length c0,.int .i64 nw,.slice A2 ss.length c2,.slice A3 js.length c3] 43)).alloc (.cells #[.func (.func gf) #[] cap] 118)).alloc (.cells #[.int .i64 0,.int .i64 0] 52)).heap.size:=by simp
 generalize((w.alloc (.cells #[.slice A0 old.length c0,.int .i64 nw,.slice A2 ss.length c2,.slice A3 js.length c3] 43)).alloc (.cells #[.func (.func gf) #[] cap] 118)).alloc (.cells #[.int .i64 0,.int .i64 0] 52)=w0 at HB0 Tm B50 B60 hs0 ⊢
 refine(KO w0).mono ?_
 rintro e w1 ⟨rfl,mK⟩
 have HB1:=aa.mk (HB0.out.trans (mK.mono HB0.out.size))
 have Db:=aa.mk (Tm.out.below mK)
 have B51:=aa.mk (B50.out.below mK)
 have B61:=aa.mk (B60.out.below mK)
 have hs1:w.heap.size+3<=w1.heap.size:=by have:=mK.size;omega
 clear mK HB0 Tm B50 B60 hs0
 have hl3:=Db.out.lt
 have HB2:=aa.mk (ae (ae (ae (ae HB1.out (.cells #[.func (.func 119) #[] #[]] 186)) (.cells #[.func (.func 120) #[] #[]] 186)) (.cells #[.int .i64 0,.int .i64 0] 52)) (.cells #[.int .i64 0,.int .i64 0] 52))
 have AB:=aa.mk ((((Db.out.alloc (.cells #[.func (.func 119) #[] #[]] 186)).alloc (.cells #[.func (.func 120) #[] #[]] 186)).alloc (.cells #[.int .i64 0,.int .i64 0] 52)).alloc (.cells #[.int .i64 0,.int .i64 0] 52))
 have TH:=aa.mk ((((B51.out.alloc (.cells #[.func (.func 119) #[] #[]] 186)).alloc (.cells #[.func (.func 120) #[] #[]] 186)).alloc (.cells #[.int .i64 0,.int .i64 0] 52)).alloc (.cells #[.int .i64 0,.int .i64 0] 52))
 have LJ:=aa.mk ((((B61.out.alloc (.cells #[.func (.func 119) #[] #[]] 186)).alloc (.cells #[.func (.func 120) #[] #[]] 186)).alloc (.cells #[.int .i64 0,.int .i64 0] 52)).alloc (.cells #[.int .i64 0,.int .i64 0] 52))
 have B72:=aa.mk ((((aR.new w1 [.func (.func 119) #[] #[]] 186).alloc (.cells #[.func (.func 120) #[] #[]] 186)).alloc (.cells #[.int .i64 0,.int .i64 0] 52)).alloc (.cells #[.int .i64 0,.int .i64 0] 52))
 have B82:=aa.mk (show aR _ (w1.heap.size+1) _ _ by have hB:=((aR.new (w1.alloc (.cells #[.func (.func 119) #[] #[]] 186)) [.func (.func 120) #[] #[]] 186).alloc (.cells #[.int .i64 0,.int .i64 0] 52)).alloc (.cells #[.int .i64 0,.int .i64 0] 52);simp only[World.size_alloc] at hB;exact hB)
 have B92:=aa.mk (show aR _ (w1.heap.size+1+1) _ _ by have hB:=(aR.new ((w1.alloc (.cells #[.func (.func 119) #[] #[]] 186)).alloc (.cells #[.func (.func 120) #[] #[]] 186)) [.int .i64 0,.int .i64 0] 52).alloc (.cells #[.int .i64 0,.int .i64 0] 52);simp only[World.size_alloc] at hB;exact hB)
 have BA2:=aa.mk (show aR _ (w1.heap.size+1+1+1) _ _ by have hB:=aR.new (((w1.alloc (.cells #[.func (.func 119) #[] #[]] 186)).alloc (.cells #[.func (.func 120) #[] #[]] 186)).alloc (.cells #[.int .i64 0,.int .i64 0] 52)) [.int .i64 0,.int .i64 0] 52;simp only[World.size_alloc] at hB;exact hB)
 have hs2:((((w1.alloc (.cells #[.func (.func 119) #[] #[]] 186)).alloc (.cells #[.func (.func 120) #[] #[]] 186)).alloc (.cells #[.int .i64 0,.int .i64 0] 52)).alloc (.cells #[.int .i64 0,.int .i64 0] 52)).heap.size=w1.heap.size+4:=by simp
 have jB:=AB.out.cell 0
 have h31:=AB.out.cell 1
 have h32:=AB.out.cell 2
 have Tz:=AB.out.cell 3
 simp only[eP,eO] at jB h31 h32 Tz
 have HS2:=aa.mk hs2
 clear hs2
 go_wp2_with (with_reducible refine wpIn_wide.2 ?_)
 have hs2:=HS2.out
 clear HB1 Db B51 B61 jB h31 h32 Tz hl3
 generalize((((w1.alloc (.cells #[.func (.func 119) #[] #[]] 186)).alloc (.cells #[.func (.func 120) #[] #[]] 186)).alloc (.cells #[.int .i64 0,.int .i64 0] 52)).alloc (.cells #[.int .i64 0,.int .i64 0] 52))=w2 at HB2 AB TH LJ B72 B82 B92 BA2 hs2 ⊢
 generalize w1.heap.size=s1 at B72 B82 B92 BA2 hs1 hs2 ⊢
 refine((callsIn_wide (n:=8)).1 (Mr Fence.wide 8 trivial rfl (.slice A0 old.length c0) (.int .i64 nw) (.slice A2 ss.length c2) (.slice A3 js.length c3) (d:Int) rfl rfl rfl rfl w2)).mono ?_
 rintro e w4 ⟨rfl,rfl⟩
 have jd:=aa.mk (ae (ae HB2.out (.cells #[.slice A0 old.length c0,.int .i64 nw,.slice A2 ss.length c2,.slice A3 js.length c3] 43)) (.cells #[.int .i64 (d:Int)] 3))
 have CS:=aa.mk ((AB.out.alloc (.cells #[.slice A0 old.length c0,.int .i64 nw,.slice A2 ss.length c2,.slice A3 js.length c3] 43)).alloc (.cells #[.int .i64 (d:Int)] 3))
 have B54:=aa.mk ((TH.out.alloc (.cells #[.slice A0 old.length c0,.int .i64 nw,.slice A2 ss.length c2,.slice A3 js.length c3] 43)).alloc (.cells #[.int .i64 (d:Int)] 3))
 have Xw:=aa.mk ((LJ.out.alloc (.cells #[.slice A0 old.length c0,.int .i64 nw,.slice A2 ss.length c2,.slice A3 js.length c3] 43)).alloc (.cells #[.int .i64 (d:Int)] 3))
 have Xv:=aa.mk ((B72.out.alloc (.cells #[.slice A0 old.length c0,.int .i64 nw,.slice A2 ss.length c2,.slice A3 js.length c3] 43)).alloc (.cells #[.int .i64 (d:Int)] 3))
 have B84:=aa.mk ((B82.out.alloc (.cells #[.slice A0 old.length c0,.int .i64 nw,.slice A2 ss.length c2,.slice A3 js.length c3] 43)).alloc (.cells #[.int .i64 (d:Int)] 3))
 have B94:=aa.mk ((B92.out.alloc (.cells #[.slice A0 old.length c0,.int .i64 nw,.slice A2 ss.length c2,.slice A3 js.length c3] 43)).alloc (.cells #[.int .i64 (d:Int)] 3))
 have BA4:=aa.mk ((BA2.out.alloc (.cells #[.slice A0 old.length c0,.int .i64 nw,.slice A2 ss.length c2,.slice A3 js.length c3] 43)).alloc (.cells #[.int .i64 (d:Int)] 3))
 have zS:=aa.mk ((aR.new w2 [.slice A0 old.length c0,.int .i64 nw,.slice A2 ss.length c2,.slice A3 js.length c3] 43).alloc (.cells #[.int .i64 (d:Int)] 3))
 have zI:=aa.mk (aR.new (w2.alloc (.cells #[.slice A0 old.length c0,.int .i64 nw,.slice A2 ss.length c2,.slice A3 js.length c3] 43)) [.int .i64 (d:Int)] 3)
 simp only[World.size_alloc] at zI
 have hsz:((w2.alloc (.cells #[.slice A0 old.length c0,.int .i64 nw,.slice A2 ss.length c2,.slice A3 js.length c3] 43)).alloc (.cells #[.int .i64 (d:Int)] 3)).heap.size=w2.heap.size+1+1:=by simp
 clear HB2 AB TH LJ B72 B82 B92 BA2
 generalize(w2.alloc (.cells #[.slice A0 old.length c0,.int .i64 nw,.slice A2 ss.length c2,.slice A3 js.length c3] 43)).alloc (.cells #[.int .i64 (d:Int)] 3)=w4 at jd CS B54 Xw Xv B84 B94 BA4 zS zI hsz ⊢
 obtain⟨gx,hgx⟩:∃gx,w2.heap.size=gx:=⟨_,rfl⟩
 rw[hgx] at zS zI hsz hs2 ⊢
 have hsg:s1+1+1+1<gx:=by omega
 clear hgx hs2
 have HC:=aa.mk (H.out.below jd.out)
 have hlo:=rQ H.out.PV
 go_wp2_with (with_reducible refine wpIn_wide.2 ?_)
 refine(wpIn_wide (n:=9)).1 ?_
 refine xu (gm:=gx) (gn:=gx+1) (by decide) (by decide) rfl (n₀:=w4.heap.size) (S:=λb=>b=s1+1+1\/b=s1+1+1+1) (u0:= .slice A0 old.length c0) (u1:= .int .i64 nw) (u3:= .slice A3 js.length c3) (A2:=A2) (c2:=c2) (ss:=ss) (old:=(d:Int)) hb2 (Nat.le_refl _) ?reads
  (λt x=>(t.setIfInBounds 21 (.int .i64 (x.1:Int))).setIfInBounds 22 (encS x.2)) (λt x g=>(((t.setIfInBounds 21 (.int .i64 (x.1:Int))).setIfInBounds 22 (encS x.2)).setIfInBounds 11 (.int .i64 (x.1:Int))).setIfInBounds 12 (.pointer (some ⟨g,0,none⟩))) (λt x=>NH t 21 22 _ _)
  (λpre W=>aa (aR W (s1+1+1) [.int .i64 (jJ (pQ p pre)),.int .i64 (jL (pQ p pre))] 52)/\aa (aR W (s1+1+1+1) [.int .i64 (jJ (nK p pre)),.int .i64 (jL (nK p pre))] 52)/\aa (Below w.heap.size w W)/\aa (bq w4.heap.size (λb=>b=s1+1+1\/b=s1+1+1+1) w4 W)/\aa (gN w4 W)/\aa (Sm pre)) ?own (λxs W hi=>hi.2.2.2.1.out.size) ⟨B94,BA4,jd,⟨bq.refl _ _ _⟩,⟨gN.refl _⟩,⟨λx hx=>by cases hx⟩⟩ ?assign ?body ?done
 case reads=>exact⟨zS.out,by simpa using zI.out.cell 0,HC.out.PV,⟨by omega,by omega⟩,⟨by omega,by omega⟩,λh0 ad e=>⟨by have:=hlo h0 ad e;omega,by have:=hlo h0 ad e;omega⟩⟩
 case own=>
  rintro xs W W' row ⟨i1,i2,i3,i4,i5,i6⟩ PY hr
  have hr':=λr e=>(hr r e).1
  have h5:=i4.out.size
  exact⟨⟨i1.out.kept (B:=w4.heap.size) (by omega) PY hr'⟩,⟨i2.out.kept (B:=w4.heap.size) (by omega) PY hr'⟩,⟨i3.out.grown PY i3.out.size (λk e=>by have:=hr' k e;have:=jd.out.size;omega)⟩,⟨i4.out.trans ⟨PY.os,PY.tape,PY.output,PY.size,λk hk _=>PY.block k (by omega) (λe=>by have:=hr' k e.symm;omega)⟩⟩,⟨i5.out.kept (Nat.le_refl _) PY hr'⟩,i6⟩
 case assign=>
  intro l x W K hx hK
  simp only[sb0,sb1,dD,cellsS,encS] at hK ⊢
  gi_wp2_with fail
  exact hK
 case body=>
  rintro l pre x g W hx hlen ⟨i1,i2,i3,i4,i5,i6⟩ PY hBg
  simp only[sb0,sb1,dD,encS]
  have B5:=aa.mk (B54.out.move (i4.out.block _ (by omega) (by omega)))
  have h50:=B5.out.cell 0
  simp only[eP,eO] at h50
  have hok:kH old.length nw x.2:=HST.out _ (by rw[hx.2.1];exact oO ss x.1 hx.1)
  have ZK:=aa.mk (show 0<=x.2.f3.f0/\x.2.f3.f0<=x.2.f3.f1/\x.2.f3.f1<=10000 from⟨hok.p0,hok.p1,hok.p2⟩)
  have hpl:pre.length<8:=by omega
  have CE:=aa.mk (λb=>Oj (p:=p) i6.out hpl ZK.out b)
  have B7:=aa.mk (Xv.out.move (i4.out.block _ (by omega) (by omega)))
  have B8:=aa.mk (B84.out.move (i4.out.block _ (by omega) (by omega)))
  clear hok hpl B54
  gi_wp2_with fail
  clear h50
  refine⟨trivial,CallsIn.inRound l (callsIn_wide.2 ((HP.out W x.1 hx.1 i3.out).mono ?_))⟩
  rintro e w6 ⟨rfl,hb6⟩
  have h4s:=i4.out.size
  have Bg:=aa.mk (hBg.below hb6)
  replace B7:=aa.mk (B7.out.below hb6)
  replace B8:=aa.mk (B8.out.below hb6)
  have hgw:=hBg.lt
  have hgs:s1+1+1+1<g:=by omega
  cases hpx:p (x.1:Int)
  .have HS:=aa.mk ((Stp.refl (s1+1+1+1) W).below hb6)
   have Br:=aa.mk (i2.out.below hb6)
   have hsum:=(CE.out false).1
   have BD:=(CE.out false).2
   simp only[Bool.false_eq_true,if_false] at hsum BD
   obtain⟨sm,hsm⟩:∃s,jJ (nK p pre)=s:=⟨_,rfl⟩
   obtain⟨Dm,yU⟩:∃s,jL (nK p pre)=s:=⟨_,rfl⟩
   rw[hsm] at hsum Br
   rw[yU] at BD Br
   have FZ:=aa.mk hsm
   have ZN:=aa.mk yU
   clear hsm yU hb6 hBg B5 CE
   gi_wp2_with fail
   refine lG (by rintro⟨_,_,h⟩;exact h) (by kernel_rfl) (n:=13) (S:=λw'=>w'.cell? ⟨s1+1+1+1,0,none⟩=some (.int .i64 sm)/\w'.cell? ⟨s1,0,none⟩=some (.func (.func 119) #[] #[])/\w'.cell? ⟨g,3,none⟩=some (.int .i64 x.2.f3.f0)/\w'.cell? ⟨g,4,none⟩=some (.int .i64 x.2.f3.f1)) (ds:=[12]) #[O,O,O,O,O,O,O,O,O,O,O,O,O] (by kernel_rfl) rfl rfl ⟨(by simpa using Br.out.cell 0),(by simpa using B7.out.cell 0),(by simpa[cellsS] using Bg.out.cell 3),(by simpa[cellsS] using Bg.out.cell 4)⟩ (λhHeld=>?_);refine bu pt.Dk pt.vO (λak bN=>?_)
   have Lj:=aa.mk HS.out.drew
   have Gd:=aa.mk (Br.out.move rfl:aR w6.drew _ _ _)
   have B7d:=aa.mk (B7.out.move rfl:aR w6.drew _ _ _)
   have IV:=aa.mk (B8.out.move rfl:aR w6.drew _ _ _)
   have CP:=aa.mk (Bg.out.move rfl:aR w6.drew _ _ _)
   clear HS Br B7 B8 Bg
   generalize w6.drew=wd at Lj Gd B7d IV CP hHeld ⊢
   refine aZ 0 26 #[I,O,O,O,O,O,O,O,O,O,O,O,O] ak (h:=?_)
   refine aZ 1 27 #[I,I,O,O,O,O,O,O,O,O,O,O,O] ak (h:=?_)
   refine aZ 2 28 #[I,I,I,O,O,O,O,O,O,O,O,O,O] ak (h:=?_)
   refine dG 3 29 #[I,I,I,I,O,O,O,O,O,O,O,O,O] ak bN hHeld (hy:=by(rintro w' ⟨s0,s1,s2,s3⟩;go_simp;with_reducible rfl)) (h:=?_)
   refine aZ 4 30 #[I,I,I,I,I,O,O,O,O,O,O,O,O] ak (h:=?_)
   refine dG 5 31 #[I,I,I,I,I,I,O,O,O,O,O,O,O] ak bN hHeld (hy:=by(rintro w' ⟨s0,s1,s2,s3⟩;go_simp;with_reducible rfl)) (h:=?_)
   refine aZ 6 32 #[I,I,I,I,I,I,I,O,O,O,O,O,O] ak (h:=?_)
   refine dG 7 33 #[I,I,I,I,I,I,I,I,O,O,O,O,O] ak bN hHeld (hy:=by(rintro w' ⟨s0,s1,s2,s3⟩;go_simp;with_reducible rfl)) (h:=?_)
   refine dO (i:=8) (N:=some 34) #[I,I,I,I,I,I,I,I,I,O,O,O,O] rfl rfl (aI ak.out (by kernel_rfl)) (by decide) (λK hK=>?_)
   refine call_ 119 #[.agg #[.int .i64 x.2.f3.f0,.int .i64 x.2.f3.f1]] (by rfl) rfl ?_ ?_
   .have he:=enters Tryz.func119 (by kernel_rfl) rfl #[.agg #[.int .i64 x.2.f3.f0,.int .i64 x.2.f3.f1]]
    go_simp
   refine(Ef x.2.f3.f0 x.2.f3.f1 _).mono ?_
   rintro e_ w_ ⟨rfl,hbc⟩
   refine⟨_,rfl,hK.out _ _ ⟨(by simpa using (Gd.out.below hbc).cell 0),(by simpa using (B7d.out.below hbc).cell 0),(by simpa[cellsS] using (CP.out.below hbc).cell 3),(by simpa[cellsS] using (CP.out.below hbc).cell 4)⟩ (λhHeld=>?_)⟩
   clear hK K
   have SA:=aa.mk (Lj.out.below hbc)
   have Gc:=aa.mk (Gd.out.below hbc)
   have Gf:=aa.mk (B7d.out.below hbc)
   have Tj:=aa.mk (IV.out.below hbc)
   have Ti:=aa.mk (CP.out.below hbc)
   clear hbc Lj Gd B7d IV CP
   refine iY ?_
   refine aZ 9 35 #[I,I,I,I,I,I,I,I,I,I,O,O,O] ak (h:=?_)
   refine aZ 10 36 #[I,I,I,I,I,I,I,I,I,I,I,O,O] ak (h:=?_)
   refine aZ 11 37 #[I,I,I,I,I,I,I,I,I,I,I,I,O] ak (h:=?_)
   refine dE (i:=12) (N:=none) #[I,I,I,I,I,I,I,I,I,I,I,I,I] rfl rfl (aI ak.out (by kernel_rfl)) (by decide) (λK hK=>?_)
   have eY:=(show w_.cell? ⟨s1+1+1+1,0,none⟩=some (.int .i64 sm) by simpa using Gc.out.cell 0)
   have ig:=Gc.out.frozen 0
   refine gW (w1:=?_) (by rfl) rfl ?_ ?_
   rotate_left
   .go_simp
    rfl
   refine hK.out _ _ ?_
   clear hK K eY ig
   have HS:=aa.mk (SA.out.set 0 (.int .i64 (sm+x.2.f3.f0)))
   have Br:=aa.mk (Gc.out.setAt 0 (.int .i64 (sm+x.2.f3.f0)))
   have B7:=aa.mk (Gf.out.move (w':=w_.setCell ⟨s1+1+1+1,0,none⟩ (.int .i64 (sm+x.2.f3.f0))) (Below.heap_setCell _ _ _ _ (by simp only;omega)))
   have B8:=aa.mk (Tj.out.move (w':=w_.setCell ⟨s1+1+1+1,0,none⟩ (.int .i64 (sm+x.2.f3.f0))) (Below.heap_setCell _ _ _ _ (by simp only;omega)))
   have Bg:=aa.mk (Ti.out.move (w':=w_.setCell ⟨s1+1+1+1,0,none⟩ (.int .i64 (sm+x.2.f3.f0))) (Below.heap_setCell _ _ _ _ (by simp only;omega)))
   simp only[List.set_cons_zero,List.set_cons_succ] at Br
   clear SA Gc Gf Tj Ti
   generalize w_.setCell ⟨s1+1+1+1,0,none⟩ (.int .i64 (sm+x.2.f3.f0))=w7 at HS Br B7 B8 Bg ⊢
   refine dK (bG ak.out (by kernel_rfl)) ?_
   gi_wp2_with fail
   refine lG (by rintro⟨_,_,h⟩;exact h) (by kernel_rfl) (n:=13) (S:=λw'=>w'.cell? ⟨s1+1+1+1,1,none⟩=some (.int .i64 Dm)/\w'.cell? ⟨s1+1,0,none⟩=some (.func (.func 120) #[] #[])/\w'.cell? ⟨g,3,none⟩=some (.int .i64 x.2.f3.f0)/\w'.cell? ⟨g,4,none⟩=some (.int .i64 x.2.f3.f1)) (ds:=[12]) #[O,O,O,O,O,O,O,O,O,O,O,O,O] (by kernel_rfl) rfl rfl ⟨(by simpa using Br.out.cell 1),(by simpa using B8.out.cell 0),(by simpa[cellsS] using Bg.out.cell 3),(by simpa[cellsS] using Bg.out.cell 4)⟩ (λhHeld=>?_);refine bu pt.D9 pt.zf (λak bN=>?_)
   have Lj:=aa.mk HS.out.drew
   have Gd:=aa.mk (Br.out.move rfl:aR w7.drew _ _ _)
   have B7d:=aa.mk (B7.out.move rfl:aR w7.drew _ _ _)
   have IV:=aa.mk (B8.out.move rfl:aR w7.drew _ _ _)
   have CP:=aa.mk (Bg.out.move rfl:aR w7.drew _ _ _)
   clear HS Br B7 B8 Bg
   generalize w7.drew=wd at Lj Gd B7d IV CP hHeld ⊢
   refine aZ 0 38 #[I,O,O,O,O,O,O,O,O,O,O,O,O] ak (h:=?_)
   refine aZ 1 39 #[I,I,O,O,O,O,O,O,O,O,O,O,O] ak (h:=?_)
   refine aZ 2 40 #[I,I,I,O,O,O,O,O,O,O,O,O,O] ak (h:=?_)
   refine dG 3 41 #[I,I,I,I,O,O,O,O,O,O,O,O,O] ak bN hHeld (hy:=by(rintro w' ⟨s0,s1,s2,s3⟩;go_simp;with_reducible rfl)) (h:=?_)
   refine aZ 4 42 #[I,I,I,I,I,O,O,O,O,O,O,O,O] ak (h:=?_)
   refine dG 5 43 #[I,I,I,I,I,I,O,O,O,O,O,O,O] ak bN hHeld (hy:=by(rintro w' ⟨s0,s1,s2,s3⟩;go_simp;with_reducible rfl)) (h:=?_)
   refine aZ 6 44 #[I,I,I,I,I,I,I,O,O,O,O,O,O] ak (h:=?_)
   refine dG 7 45 #[I,I,I,I,I,I,I,I,O,O,O,O,O] ak bN hHeld (hy:=by(rintro w' ⟨s0,s1,s2,s3⟩;go_simp;with_reducible rfl)) (h:=?_)
   refine dO (i:=8) (N:=some 46) #[I,I,I,I,I,I,I,I,I,O,O,O,O] rfl rfl (aI ak.out (by kernel_rfl)) (by decide) (λK hK=>?_)
   refine call_ 120 #[.agg #[.int .i64 x.2.f3.f0,.int .i64 x.2.f3.f1]] (by rfl) rfl ?_ ?_
   .have he:=enters Tryz.func120 (by kernel_rfl) rfl #[.agg #[.int .i64 x.2.f3.f0,.int .i64 x.2.f3.f1]]
    go_simp
   refine(BJ x.2.f3.f0 x.2.f3.f1 _).mono ?_
   rintro e_ w_ ⟨rfl,hbc⟩
   refine⟨_,rfl,hK.out _ _ ⟨(by simpa using (Gd.out.below hbc).cell 1),(by simpa using (IV.out.below hbc).cell 0),(by simpa[cellsS] using (CP.out.below hbc).cell 3),(by simpa[cellsS] using (CP.out.below hbc).cell 4)⟩ (λhHeld=>?_)⟩
   clear hK K
   have SA:=aa.mk (Lj.out.below hbc)
   have Gc:=aa.mk (Gd.out.below hbc)
   have Gf:=aa.mk (B7d.out.below hbc)
   have Tj:=aa.mk (IV.out.below hbc)
   have Ti:=aa.mk (CP.out.below hbc)
   clear hbc Lj Gd B7d IV CP
   refine iY ?_
   refine aZ 9 47 #[I,I,I,I,I,I,I,I,I,I,O,O,O] ak (h:=?_)
   refine aZ 10 48 #[I,I,I,I,I,I,I,I,I,I,I,O,O] ak (h:=?_)
   refine aZ 11 49 #[I,I,I,I,I,I,I,I,I,I,I,I,O] ak (h:=?_)
   refine dE (i:=12) (N:=none) #[I,I,I,I,I,I,I,I,I,I,I,I,I] rfl rfl (aI ak.out (by kernel_rfl)) (by decide) (λK hK=>?_)
   have eY:=(show w_.cell? ⟨s1+1+1+1,1,none⟩=some (.int .i64 Dm) by simpa using Gc.out.cell 1)
   have ig:=Gc.out.frozen 1
   refine gW (w1:=?_) (by rfl) rfl ?_ ?_
   rotate_left
   .go_simp
    rfl
   refine hK.out _ _ ?_
   clear hK K eY ig
   have HS:=aa.mk (SA.out.set 1 (.int .i64 (Dm+x.2.f3.f1)))
   have Br:=aa.mk (Gc.out.setAt 1 (.int .i64 (Dm+x.2.f3.f1)))
   have B7:=aa.mk (Gf.out.move (w':=w_.setCell ⟨s1+1+1+1,1,none⟩ (.int .i64 (Dm+x.2.f3.f1))) (Below.heap_setCell _ _ _ _ (by simp only;omega)))
   have B8:=aa.mk (Tj.out.move (w':=w_.setCell ⟨s1+1+1+1,1,none⟩ (.int .i64 (Dm+x.2.f3.f1))) (Below.heap_setCell _ _ _ _ (by simp only;omega)))
   have Bg:=aa.mk (Ti.out.move (w':=w_.setCell ⟨s1+1+1+1,1,none⟩ (.int .i64 (Dm+x.2.f3.f1))) (Below.heap_setCell _ _ _ _ (by simp only;omega)))
   simp only[List.set_cons_zero,List.set_cons_succ] at Br
   clear SA Gc Gf Tj Ti
   generalize w_.setCell ⟨s1+1+1+1,1,none⟩ (.int .i64 (Dm+x.2.f3.f1))=w8 at HS Br B7 B8 Bg ⊢
   refine dK (bG ak.out (by kernel_rfl)) ?_
   obtain⟨e1,e2⟩:=Yl (p:=p) (xs:=pre) (x:=x) hpx
   refine⟨HS.out.ko.from _,HS.out.keep (.inl (.inr rfl)) h4s,⟨by rw[e1];exact HS.out.blk i1.out (by omega)⟩,⟨by rw[e2,wF,wJ,FZ.out,ZN.out];exact Br.out⟩,⟨HS.out.seq i3.out (by omega) (by have:=jd.out.size;omega)⟩,⟨i4.out.trans (HS.out.keep (.inl (.inr rfl)) h4s)⟩,⟨HS.out.We i5.out⟩,⟨i6.out.snoc ZK.out⟩⟩
  .have HS:=aa.mk ((Stp.refl (s1+1+1) W).below hb6)
   have Br:=aa.mk (i1.out.below hb6)
   have hsum:=(CE.out true).1
   have BD:=(CE.out true).2
   simp only[if_true] at hsum BD
   obtain⟨sm,hsm⟩:∃s,jJ (pQ p pre)=s:=⟨_,rfl⟩
   obtain⟨Dm,yU⟩:∃s,jL (pQ p pre)=s:=⟨_,rfl⟩
   rw[hsm] at hsum Br
   rw[yU] at BD Br
   have FZ:=aa.mk hsm
   have ZN:=aa.mk yU
   clear hsm yU hb6 hBg B5 CE
   gi_wp2_with fail
   refine lG (by rintro⟨_,_,h⟩;exact h) (by kernel_rfl) (n:=13) (S:=λw'=>w'.cell? ⟨s1+1+1,0,none⟩=some (.int .i64 sm)/\w'.cell? ⟨s1,0,none⟩=some (.func (.func 119) #[] #[])/\w'.cell? ⟨g,3,none⟩=some (.int .i64 x.2.f3.f0)/\w'.cell? ⟨g,4,none⟩=some (.int .i64 x.2.f3.f1)) (ds:=[12]) #[O,O,O,O,O,O,O,O,O,O,O,O,O] (by kernel_rfl) rfl rfl ⟨(by simpa using Br.out.cell 0),(by simpa using B7.out.cell 0),(by simpa[cellsS] using Bg.out.cell 3),(by simpa[cellsS] using Bg.out.cell 4)⟩ (λhHeld=>?_);refine bu pt.Dk pt.vO (λak bN=>?_)
   have Lj:=aa.mk HS.out.drew
   have Gd:=aa.mk (Br.out.move rfl:aR w6.drew _ _ _)
   have B7d:=aa.mk (B7.out.move rfl:aR w6.drew _ _ _)
   have IV:=aa.mk (B8.out.move rfl:aR w6.drew _ _ _)
   have CP:=aa.mk (Bg.out.move rfl:aR w6.drew _ _ _)
   clear HS Br B7 B8 Bg
   generalize w6.drew=wd at Lj Gd B7d IV CP hHeld ⊢
   refine aZ 0 26 #[I,O,O,O,O,O,O,O,O,O,O,O,O] ak (h:=?_)
   refine aZ 1 27 #[I,I,O,O,O,O,O,O,O,O,O,O,O] ak (h:=?_)
   refine aZ 2 28 #[I,I,I,O,O,O,O,O,O,O,O,O,O] ak (h:=?_)
   refine dG 3 29 #[I,I,I,I,O,O,O,O,O,O,O,O,O] ak bN hHeld (hy:=by(rintro w' ⟨s0,s1,s2,s3⟩;go_simp;with_reducible rfl)) (h:=?_)
   refine aZ 4 30 #[I,I,I,I,I,O,O,O,O,O,O,O,O] ak (h:=?_)
   refine dG 5 31 #[I,I,I,I,I,I,O,O,O,O,O,O,O] ak bN hHeld (hy:=by(rintro w' ⟨s0,s1,s2,s3⟩;go_simp;with_reducible rfl)) (h:=?_)
   refine aZ 6 32 #[I,I,I,I,I,I,I,O,O,O,O,O,O] ak (h:=?_)
   refine dG 7 33 #[I,I,I,I,I,I,I,I,O,O,O,O,O] ak bN hHeld (hy:=by(rintro w' ⟨s0,s1,s2,s3⟩;go_simp;with_reducible rfl)) (h:=?_)
   refine dO (i:=8) (N:=some 34) #[I,I,I,I,I,I,I,I,I,O,O,O,O] rfl rfl (aI ak.out (by kernel_rfl)) (by decide) (λK hK=>?_)
   refine call_ 119 #[.agg #[.int .i64 x.2.f3.f0,.int .i64 x.2.f3.f1]] (by rfl) rfl ?_ ?_
   .have he:=enters Tryz.func119 (by kernel_rfl) rfl #[.agg #[.int .i64 x.2.f3.f0,.int .i64 x.2.f3.f1]]
    go_simp
   refine(Ef x.2.f3.f0 x.2.f3.f1 _).mono ?_
   rintro e_ w_ ⟨rfl,hbc⟩
   refine⟨_,rfl,hK.out _ _ ⟨(by simpa using (Gd.out.below hbc).cell 0),(by simpa using (B7d.out.below hbc).cell 0),(by simpa[cellsS] using (CP.out.below hbc).cell 3),(by simpa[cellsS] using (CP.out.below hbc).cell 4)⟩ (λhHeld=>?_)⟩
   clear hK K
   have SA:=aa.mk (Lj.out.below hbc)
   have Gc:=aa.mk (Gd.out.below hbc)
   have Gf:=aa.mk (B7d.out.below hbc)
   have Tj:=aa.mk (IV.out.below hbc)
   have Ti:=aa.mk (CP.out.below hbc)
   clear hbc Lj Gd B7d IV CP
   refine iY ?_
   refine aZ 9 35 #[I,I,I,I,I,I,I,I,I,I,O,O,O] ak (h:=?_)
   refine aZ 10 36 #[I,I,I,I,I,I,I,I,I,I,I,O,O] ak (h:=?_)
   refine aZ 11 37 #[I,I,I,I,I,I,I,I,I,I,I,I,O] ak (h:=?_)
   refine dE (i:=12) (N:=none) #[I,I,I,I,I,I,I,I,I,I,I,I,I] rfl rfl (aI ak.out (by kernel_rfl)) (by decide) (λK hK=>?_)
   have eY:=(show w_.cell? ⟨s1+1+1,0,none⟩=some (.int .i64 sm) by simpa using Gc.out.cell 0)
   have ig:=Gc.out.frozen 0
   refine gW (w1:=?_) (by rfl) rfl ?_ ?_
   rotate_left
   .go_simp
    rfl
   refine hK.out _ _ ?_
   clear hK K eY ig
   have HS:=aa.mk (SA.out.set 0 (.int .i64 (sm+x.2.f3.f0)))
   have Br:=aa.mk (Gc.out.setAt 0 (.int .i64 (sm+x.2.f3.f0)))
   have B7:=aa.mk (Gf.out.move (w':=w_.setCell ⟨s1+1+1,0,none⟩ (.int .i64 (sm+x.2.f3.f0))) (Below.heap_setCell _ _ _ _ (by simp only;omega)))
   have B8:=aa.mk (Tj.out.move (w':=w_.setCell ⟨s1+1+1,0,none⟩ (.int .i64 (sm+x.2.f3.f0))) (Below.heap_setCell _ _ _ _ (by simp only;omega)))
   have Bg:=aa.mk (Ti.out.move (w':=w_.setCell ⟨s1+1+1,0,none⟩ (.int .i64 (sm+x.2.f3.f0))) (Below.heap_setCell _ _ _ _ (by simp only;omega)))
   simp only[List.set_cons_zero,List.set_cons_succ] at Br
   clear SA Gc Gf Tj Ti
   generalize w_.setCell ⟨s1+1+1,0,none⟩ (.int .i64 (sm+x.2.f3.f0))=w7 at HS Br B7 B8 Bg ⊢
   refine dK (bG ak.out (by kernel_rfl)) ?_
   gi_wp2_with fail
   refine lG (by rintro⟨_,_,h⟩;exact h) (by kernel_rfl) (n:=13) (S:=λw'=>w'.cell? ⟨s1+1+1,1,none⟩=some (.int .i64 Dm)/\w'.cell? ⟨s1+1,0,none⟩=some (.func (.func 120) #[] #[])/\w'.cell? ⟨g,3,none⟩=some (.int .i64 x.2.f3.f0)/\w'.cell? ⟨g,4,none⟩=some (.int .i64 x.2.f3.f1)) (ds:=[12]) #[O,O,O,O,O,O,O,O,O,O,O,O,O] (by kernel_rfl) rfl rfl ⟨(by simpa using Br.out.cell 1),(by simpa using B8.out.cell 0),(by simpa[cellsS] using Bg.out.cell 3),(by simpa[cellsS] using Bg.out.cell 4)⟩ (λhHeld=>?_);refine bu pt.D9 pt.zf (λak bN=>?_)
   have Lj:=aa.mk HS.out.drew
   have Gd:=aa.mk (Br.out.move rfl:aR w7.drew _ _ _)
   have B7d:=aa.mk (B7.out.move rfl:aR w7.drew _ _ _)
   have IV:=aa.mk (B8.out.move rfl:aR w7.drew _ _ _)
   have CP:=aa.mk (Bg.out.move rfl:aR w7.drew _ _ _)
   clear HS Br B7 B8 Bg
   generalize w7.drew=wd at Lj Gd B7d IV CP hHeld ⊢
   refine aZ 0 38 #[I,O,O,O,O,O,O,O,O,O,O,O,O] ak (h:=?_)
   refine aZ 1 39 #[I,I,O,O,O,O,O,O,O,O,O,O,O] ak (h:=?_)
   refine aZ 2 40 #[I,I,I,O,O,O,O,O,O,O,O,O,O] ak (h:=?_)
   refine dG 3 41 #[I,I,I,I,O,O,O,O,O,O,O,O,O] ak bN hHeld (hy:=by(rintro w' ⟨s0,s1,s2,s3⟩;go_simp;with_reducible rfl)) (h:=?_)
   refine aZ 4 42 #[I,I,I,I,I,O,O,O,O,O,O,O,O] ak (h:=?_)
   refine dG 5 43 #[I,I,I,I,I,I,O,O,O,O,O,O,O] ak bN hHeld (hy:=by(rintro w' ⟨s0,s1,s2,s3⟩;go_simp;with_reducible rfl)) (h:=?_)
   refine aZ 6 44 #[I,I,I,I,I,I,I,O,O,O,O,O,O] ak (h:=?_)
   refine dG 7 45 #[I,I,I,I,I,I,I,I,O,O,O,O,O] ak bN hHeld (hy:=by(rintro w' ⟨s0,s1,s2,s3⟩;go_simp;with_reducible rfl)) (h:=?_)
   refine dO (i:=8) (N:=some 46) #[I,I,I,I,I,I,I,I,I,O,O,O,O] rfl rfl (aI ak.out (by kernel_rfl)) (by decide) (λK hK=>?_)
   refine call_ 120 #[.agg #[.int .i64 x.2.f3.f0,.int .i64 x.2.f3.f1]] (by rfl) rfl ?_ ?_
   .have he:=enters Tryz.func120 (by kernel_rfl) rfl #[.agg #[.int .i64 x.2.f3.f0,.int .i64 x.2.f3.f1]]
    go_simp
   refine(BJ x.2.f3.f0 x.2.f3.f1 _).mono ?_
   rintro e_ w_ ⟨rfl,hbc⟩
   refine⟨_,rfl,hK.out _ _ ⟨(by simpa using (Gd.out.below hbc).cell 1),(by simpa using (IV.out.below hbc).cell 0),(by simpa[cellsS] using (CP.out.below hbc).cell 3),(by simpa[cellsS] using (CP.out.below hbc).cell 4)⟩ (λhHeld=>?_)⟩
   clear hK K
   have SA:=aa.mk (Lj.out.below hbc)
   have Gc:=aa.mk (Gd.out.below hbc)
   have Gf:=aa.mk (B7d.out.below hbc)
   have Tj:=aa.mk (IV.out.below hbc)
   have Ti:=aa.mk (CP.out.below hbc)
   clear hbc Lj Gd B7d IV CP
   refine iY ?_
   refine aZ 9 47 #[I,I,I,I,I,I,I,I,I,I,O,O,O] ak (h:=?_)
   refine aZ 10 48 #[I,I,I,I,I,I,I,I,I,I,I,O,O] ak (h:=?_)
   refine aZ 11 49 #[I,I,I,I,I,I,I,I,I,I,I,I,O] ak (h:=?_)
   refine dE (i:=12) (N:=none) #[I,I,I,I,I,I,I,I,I,I,I,I,I] rfl rfl (aI ak.out (by kernel_rfl)) (by decide) (λK hK=>?_)
   have eY:=(show w_.cell? ⟨s1+1+1,1,none⟩=some (.int .i64 Dm) by simpa using Gc.out.cell 1)
   have ig:=Gc.out.frozen 1
   refine gW (w1:=?_) (by rfl) rfl ?_ ?_
   rotate_left
   .go_simp
    rfl
   refine hK.out _ _ ?_
   clear hK K eY ig
   have HS:=aa.mk (SA.out.set 1 (.int .i64 (Dm+x.2.f3.f1)))
   have Br:=aa.mk (Gc.out.setAt 1 (.int .i64 (Dm+x.2.f3.f1)))
   have B7:=aa.mk (Gf.out.move (w':=w_.setCell ⟨s1+1+1,1,none⟩ (.int .i64 (Dm+x.2.f3.f1))) (Below.heap_setCell _ _ _ _ (by simp only;omega)))
   have B8:=aa.mk (Tj.out.move (w':=w_.setCell ⟨s1+1+1,1,none⟩ (.int .i64 (Dm+x.2.f3.f1))) (Below.heap_setCell _ _ _ _ (by simp only;omega)))
   have Bg:=aa.mk (Ti.out.move (w':=w_.setCell ⟨s1+1+1,1,none⟩ (.int .i64 (Dm+x.2.f3.f1))) (Below.heap_setCell _ _ _ _ (by simp only;omega)))
   simp only[List.set_cons_zero,List.set_cons_succ] at Br
   clear SA Gc Gf Tj Ti
   generalize w_.setCell ⟨s1+1+1,1,none⟩ (.int .i64 (Dm+x.2.f3.f1))=w8 at HS Br B7 B8 Bg ⊢
   refine dK (bG ak.out (by kernel_rfl)) ?_
   obtain⟨e1,e2⟩:=Yk (p:=p) (xs:=pre) (x:=x) hpx
   refine⟨HS.out.ko.from _,HS.out.keep (.inl (.inl rfl)) h4s,⟨by rw[e1,wF,wJ,FZ.out,ZN.out];exact Br.out⟩,⟨by rw[e2];exact HS.out.blk i2.out (by omega)⟩,⟨HS.out.seq i3.out (by omega) (by have:=jd.out.size;omega)⟩,⟨i4.out.trans (HS.out.keep (.inl (.inl rfl)) h4s)⟩,⟨HS.out.We i5.out⟩,⟨i6.out.snoc ZK.out⟩⟩
 case done=>
  rintro D W hD ⟨i1,i2,i3,i4,i5,i6⟩ CX
  have hw4:=jd.out.size
  have HM:=aa.mk (Marks.cons (lo:=w.heap.size) (a:=w4) (b:=W) (ds:=[]) trivial i5.out hD hw4 CX)
  have B3:=aa.mk (CS.out.move (i4.out.block _ (by omega) (by omega)))
  have B6:=aa.mk (Xw.out.move (i4.out.block _ (by omega) (by omega)))
  obtain⟨ad,e,hx⟩:=Kd.cK (H.out.below i3.out).QR (d:Int) (by omega) (by omega)
  cases e
  simp only[Int.toNat_natCast] at hx
  have HF:=aa.mk (show nJ old ss (d:Int) p=(max (jJ (pQ p (iR ss d ss.length))) (rd old d-jL (nK p (iR ss d ss.length))),min (jL (pQ p (iR ss d ss.length))) (rd old d-jJ (nK p (iR ss d ss.length)))) from rfl)
  have hrd:=HOL.out (rd old (d:Int)) (by rw[Bc old d hd];exact List.getElem_mem hd)
  have q1:=lK (rq (p:=p) i6.out).1
  have q2:=lK (rq (p:=p) i6.out).2
  have q3:=BA p (iR ss (d:Int) ss.length)
  have q4:=Bp ss (d:Int) ss.length
  have hw1:wrap64 (rd old (d:Int)-jL (nK p (iR ss d ss.length)))=rd old (d:Int)-jL (nK p (iR ss d ss.length)):=IntWalk.wrap64_in _ (by omega)
  have hw2:wrap64 (rd old (d:Int)-jJ (nK p (iR ss d ss.length)))=rd old (d:Int)-jJ (nK p (iR ss d ss.length)):=IntWalk.wrap64_in _ (by omega)
  obtain⟨a0,ha0⟩:∃a,jJ (pQ p (iR ss (d:Int) ss.length))=a:=⟨_,rfl⟩
  obtain⟨a1,ha1⟩:∃a,jL (pQ p (iR ss (d:Int) ss.length))=a:=⟨_,rfl⟩
  obtain⟨o0,ho0⟩:∃a,jJ (nK p (iR ss (d:Int) ss.length))=a:=⟨_,rfl⟩
  obtain⟨o1,ho1⟩:∃a,jL (nK p (iR ss (d:Int) ss.length))=a:=⟨_,rfl⟩
  obtain⟨cnt,hcnt⟩:∃a,rd old (d:Int)=a:=⟨_,rfl⟩
  rw[ha0,ha1] at i1
  rw[ho0,ho1] at i2
  rw[ha0,ha1,ho0,ho1,hcnt] at HF
  rw[hcnt] at hx
  rw[hcnt,ho1] at hw1
  rw[hcnt,ho0] at hw2
  clear q1 q2 q3 q4 hrd ha0 ha1 ho0 ho1 hcnt i4 i5 i6 CX hD CS B54 Xw Xv B84 B94 BA4 zS zI hsz HC hlo
  have I1:=i1
  have I2:=i2
  have VH:=i3
  clear i1 i2 i3
  have hd0:(0:Int)<=(d:Int):=by omega
  have hdl:(d:Int)<(old.length:Int):=by omega
  dsimp only
  go_wp2_with (with_reducible refine wpIn_wide.2 ?_)
  refine dB (n:=25) (S:=λw'=>w'.cell? ⟨s1+1+1,0,none⟩=some (.int .i64 a0)/\w'.cell? ⟨s1+1+1,1,none⟩=some (.int .i64 a1)/\w'.cell? ⟨s1+1+1+1,0,none⟩=some (.int .i64 o0)/\w'.cell? ⟨s1+1+1+1,1,none⟩=some (.int .i64 o1)/\w'.cell? ⟨w.heap.size,0,none⟩=some (.slice (some ad) old.length c0)/\w'.cell? (ad.add d)=some (.int .i64 cnt)) (ds:=[24]) #[O,O,O,O,O,O,O,O,O,O,O,O,O,O,O,O,O,O,O,O,O,O,O,O,O] (by kernel_rfl) rfl rfl ⟨(by simpa using I1.out.cell 0),(by simpa using I1.out.cell 1),(by simpa using I2.out.cell 0),(by simpa using I2.out.cell 1),(by simpa using B3.out.cell 0),hx⟩ (λhHeld=>?_);refine bu pt.vE pt.qH (λak bN=>?_)
  have B6:=aa.mk (B6.out.move rfl:aR W.drew _ _ _)
  have HM:=aa.mk HM.out.drew
  have VH:=aa.mk (aM VH.out)
  have I1:=aa.mk (I1.out.move rfl:aR W.drew _ _ _)
  have I2:=aa.mk (I2.out.move rfl:aR W.drew _ _ _)
  have B3:=aa.mk (B3.out.move rfl:aR W.drew _ _ _)
  replace hx:W.drew.cell? (ad.add d)=some (.int .i64 cnt):=hx
  generalize W.drew=Wd at B6 HM VH I1 I2 B3 hx hHeld ⊢
  refine aZ 0 50 #[I,O,O,O,O,O,O,O,O,O,O,O,O,O,O,O,O,O,O,O,O,O,O,O,O] ak (h:=?_)
  refine dG 1 51 #[I,I,O,O,O,O,O,O,O,O,O,O,O,O,O,O,O,O,O,O,O,O,O,O,O] ak bN hHeld (hy:=by(rintro w' ⟨s0,s1,s2,s3,s4,s5⟩;go_simp;with_reducible rfl)) (h:=?_)
  refine aZ 2 52 #[I,I,I,O,O,O,O,O,O,O,O,O,O,O,O,O,O,O,O,O,O,O,O,O,O] ak (h:=?_)
  refine dG 3 53 #[I,I,I,I,O,O,O,O,O,O,O,O,O,O,O,O,O,O,O,O,O,O,O,O,O] ak bN hHeld (hy:=by(rintro w' ⟨s0,s1,s2,s3,s4,s5⟩;go_simp;with_reducible rfl)) (h:=?_)
  refine aZ 4 54 #[I,I,I,I,I,O,O,O,O,O,O,O,O,O,O,O,O,O,O,O,O,O,O,O,O] ak (h:=?_)
  refine aZ 5 55 #[I,I,I,I,I,I,O,O,O,O,O,O,O,O,O,O,O,O,O,O,O,O,O,O,O] ak (h:=?_)
  refine dG 6 56 #[I,I,I,I,I,I,I,O,O,O,O,O,O,O,O,O,O,O,O,O,O,O,O,O,O] ak bN hHeld (hy:=by(rintro w' ⟨s0,s1,s2,s3,s4,s5⟩;go_simp;with_reducible rfl)) (h:=?_)
  refine aZ 7 57 #[I,I,I,I,I,I,I,I,O,O,O,O,O,O,O,O,O,O,O,O,O,O,O,O,O] ak (h:=?_)
  refine dG 8 58 #[I,I,I,I,I,I,I,I,I,O,O,O,O,O,O,O,O,O,O,O,O,O,O,O,O] ak bN hHeld (hy:=by(rintro w' ⟨s0,s1,s2,s3,s4,s5⟩;go_simp;with_reducible rfl)) (h:=?_)
  refine aZ 9 59 #[I,I,I,I,I,I,I,I,I,I,O,O,O,O,O,O,O,O,O,O,O,O,O,O,O] ak (h:=?_)
  refine pW (i:=10) (N:=some 60) (v:= .int .i64 (max a0 (cnt-o1))) (a':=?_) #[I,I,I,I,I,I,I,I,I,I,I,O,O,O,O,O,O,O,O,O,O,O,O,O,O] rfl rfl (eF ak.out (by kernel_rfl)) (λ_ _ _ h=>h) (Or.inl ⟨by rfl,?_⟩) ?_ ?_
  .intro w'
   go_simp
   exact X6 _ _
  rotate_left
  .simp only[Act.put,sb0,sb1,dD,dI,dY]
   rfl
  refine aZ 11 61 #[I,I,I,I,I,I,I,I,I,I,I,I,O,O,O,O,O,O,O,O,O,O,O,O,O] ak (h:=?_)
  refine dG 12 62 #[I,I,I,I,I,I,I,I,I,I,I,I,I,O,O,O,O,O,O,O,O,O,O,O,O] ak bN hHeld (hy:=by(rintro w' ⟨s0,s1,s2,s3,s4,s5⟩;go_simp;with_reducible rfl)) (h:=?_)
  refine aZ 13 63 #[I,I,I,I,I,I,I,I,I,I,I,I,I,I,O,O,O,O,O,O,O,O,O,O,O] ak (h:=?_)
  refine dG 14 64 #[I,I,I,I,I,I,I,I,I,I,I,I,I,I,I,O,O,O,O,O,O,O,O,O,O] ak bN hHeld (hy:=by(rintro w' ⟨s0,s1,s2,s3,s4,s5⟩;go_simp;with_reducible rfl)) (h:=?_)
  refine aZ 15 65 #[I,I,I,I,I,I,I,I,I,I,I,I,I,I,I,I,O,O,O,O,O,O,O,O,O] ak (h:=?_)
  refine aZ 16 66 #[I,I,I,I,I,I,I,I,I,I,I,I,I,I,I,I,I,O,O,O,O,O,O,O,O] ak (h:=?_)
  refine dG 17 67 #[I,I,I,I,I,I,I,I,I,I,I,I,I,I,I,I,I,I,O,O,O,O,O,O,O] ak bN hHeld (hy:=by(rintro w' ⟨s0,s1,s2,s3,s4,s5⟩;go_simp;with_reducible rfl)) (h:=?_)
  refine aZ 18 68 #[I,I,I,I,I,I,I,I,I,I,I,I,I,I,I,I,I,I,I,O,O,O,O,O,O] ak (h:=?_)
  refine dG 19 69 #[I,I,I,I,I,I,I,I,I,I,I,I,I,I,I,I,I,I,I,I,O,O,O,O,O] ak bN hHeld (hy:=by(rintro w' ⟨s0,s1,s2,s3,s4,s5⟩;go_simp;with_reducible rfl)) (h:=?_)
  refine aZ 20 70 #[I,I,I,I,I,I,I,I,I,I,I,I,I,I,I,I,I,I,I,I,I,O,O,O,O] ak (h:=?_)
  refine dO (i:=21) (N:=some 71) #[I,I,I,I,I,I,I,I,I,I,I,I,I,I,I,I,I,I,I,I,I,I,O,O,O] rfl rfl (aI ak.out (by kernel_rfl)) (by decide) (λK hK=>?_)
  refine bT (w1:=?_) (v:=?_) (by rfl) rfl ?_ ?_
  rotate_left 2
  .go_simp
   constructor<;>rfl
  have e_:=I1.out.alloc (.cells #[.int .i64 a1,.int .i64 (cnt-o0)] 3)
  refine hK.out _ _ ⟨(by simpa using e_.cell 0),(by simpa using e_.cell 1),(by simpa using (I2.out.alloc (.cells #[.int .i64 a1,.int .i64 (cnt-o0)] 3)).cell 0),(by simpa using (I2.out.alloc (.cells #[.int .i64 a1,.int .i64 (cnt-o0)] 3)).cell 1),(by simpa using (B3.out.alloc (.cells #[.int .i64 a1,.int .i64 (cnt-o0)] 3)).cell 0),((World.cell?_alloc_old _ _ _ (Nat.ne_of_lt (World.block_lt_of_cell? _ _ hx))).trans hx)⟩ (λhHeld=>?_)
  clear hK K
  have B6e:=aa.mk (B6.out.alloc (.cells #[.int .i64 a1,.int .i64 (cnt-o0)] 3))
  have ZU:=aa.mk (HM.out.alloc (.cells #[.int .i64 a1,.int .i64 (cnt-o0)] 3))
  have Xq:=aa.mk (ae VH.out (.cells #[.int .i64 a1,.int .i64 (cnt-o0)] 3))
  have Bl:=aa.mk (aR.new Wd [.int .i64 a1,.int .i64 (cnt-o0)] 3)
  clear B6 HM VH I1 I2 B3
  generalize Wd.alloc (.cells #[.int .i64 a1,.int .i64 (cnt-o0)] 3)=wb at B6e ZU Xq Bl hHeld ⊢
  obtain⟨gb,hgb⟩:∃g,Wd.heap.size=g:=⟨_,rfl⟩
  rw[hgb] at Bl ⊢
  refine iY ?_
  refine dO (i:=22) (N:=some 72) #[I,I,I,I,I,I,I,I,I,I,I,I,I,I,I,I,I,I,I,I,I,I,I,O,O] rfl rfl (aI ak.out (by kernel_rfl)) (by decide) (λK hK=>?_)
  refine bW Tryz.func85 (by kernel_rfl) rfl #[.slice (some ⟨gb,0,none⟩) 2 2] (by rfl) rfl rfl (by(try simp only[List.map_toArray,List.map_cons,List.map_nil]);rfl) ?_
  refine(oP gb a1 (cnt-o0) wb (by simpa using Bl.out.cell 0) (by simpa using Bl.out.cell 1)).mono ?_
  rintro e_ w_ ⟨rfl,rfl⟩
  refine⟨_,rfl,hK.out _ _ ⟨hHeld.1,hHeld.2.1,hHeld.2.2.1,hHeld.2.2.2.1,hHeld.2.2.2.2.1,hHeld.2.2.2.2.2⟩ (λhHeld=>?_)⟩
  clear hK K
  refine iY ?_
  refine aZ 23 73 #[I,I,I,I,I,I,I,I,I,I,I,I,I,I,I,I,I,I,I,I,I,I,I,I,O] ak (h:=?_)
  refine dE (i:=24) (N:=none) #[I,I,I,I,I,I,I,I,I,I,I,I,I,I,I,I,I,I,I,I,I,I,I,I,I] rfl rfl (aI ak.out (by kernel_rfl)) (by decide) (λK hK=>?_)
  have eY:=(show w_.cell? ⟨w.heap.size+1+1,0,none⟩=some (.int .i64 0) by simpa using B6e.out.cell 0)
  have ig:=B6e.out.frozen 0
  have BI:w_.cell? ⟨w.heap.size+1+1,1,none⟩=some (.int .i64 0):=by simpa using B6e.out.cell 1
  have BP:w_.frozen? ⟨w.heap.size+1+1,1,none⟩=false:=B6e.out.frozen 1
  refine gW (w1:=?_) (by rfl) rfl ?_ ?_
  rotate_left
  .go_simp
   rfl
  refine hK.out _ _ ?_
  clear hK K eY ig BI BP
  have B6f:=aa.mk (B6e.out.set2 (.int .i64 (max a0 (cnt-o1))) (.int .i64 (min a1 (cnt-o0))))
  have HMf:=aa.mk ((ZU.out.setCell ⟨w.heap.size+1+1,0,none⟩ (.int .i64 (max a0 (cnt-o1)))).setCell ⟨w.heap.size+1+1,1,none⟩ (.int .i64 (min a1 (cnt-o0))))
  have VG:=aa.mk ((Xq.out.setCell (p:=⟨w.heap.size+1+1,0,none⟩) (by simp only;omega) (.int .i64 (max a0 (cnt-o1)))).setCell (p:=⟨w.heap.size+1+1,1,none⟩) (by simp only;omega) (.int .i64 (min a1 (cnt-o0))))
  clear B6e ZU Xq Bl
  refine dK (bG ak.out (by kernel_rfl)) ?_
  go_wp2_with (with_reducible refine wpIn_wide.2 ?_)
  refine Marks.leaves (lo:=w.heap.size) (Inv:=λW=>Below w.heap.size w W/\aR W (w.heap.size+1+1) [.int .i64 (max a0 (cnt-o1)),.int .i64 (min a1 (cnt-o0))] 52) (λW D hlo hD hi=>⟨hi.1.grown (grownBy_putObj' W D _) hi.1.size (λk e=>by cases e;exact hlo),RN hi.2 hD _⟩) (λW hi=>?_) _ _ HMf.out ⟨VG.out,B6f.out⟩
  refine⟨_,results_cell_row rfl _ _ (w.heap.size+1+1) 52 #[.int .i64 (max a0 (cnt-o1)),.int .i64 (min a1 (cnt-o0))] (0,0) _ rfl hi.2 Tryz.underlying52 rfl (by kernel_rfl),?_,hi.1⟩
  rw[HF.out]
end Go.Proofs.YtkjoilgpmngndaaGreat
