import Derived.Laws.Cover3
import Derived.Test.YtdekaocdmjndaaaGreatQ13
set_option maxRecDepth 100000
set_option linter.all false
namespace Go.Proofs.YtdekaocdmjndaaaGreat
open Go.RowKit Go.Shelf ah YtdekaocdmjndaaaGreatW.aj YtdekaocdmjndaaaGreatW.aH
attribute [local go_sem] Oper.semAt_some
def tY.T2:Bool×List (List Nat×List Nat):=(true,[([],[]),([0],[0]),([1],[1]),([2],[2]),([],[]),([4],[4]),([],[]),([6,5],[6]),([3,5,7,7],[3,5,7]),([8],[8]),([9,8],[9]),([10],[10]),([11,10],[10,11]),([12,10],[10,12]),([13,10],[10,13]),([10],[10]),([10],[10]),([14,15,16,10,10],[10,14,15,16]),([17,10],[10,17]),([10,18],[10,18]),([19,17],[19]),([20],[20]),([20],[20]),([22,20,20],[20,22]),([21,23,23,20],[20,21,23]),([20,24],[20,24]),([25,24,0,1,2,3,4,5,6,7,8,9,10,11,12,13,14,15,16,17,18,19,20,21,22,23,24,25],[25])])
def tY.B2:List Nat:=[0,1,3,7,0,16,0,112,255,511,1023,2047,4095,8191,16383,2047,2047,131071,262143,524287,1048575,2097151,2097151,6291455,16777215,33554431,67108863]
theorem tY.DW:eB .any (opsOf Tryz.f145 2)=tY.T2:=by kernel_rfl
theorem tY.xP:bI tY.T2.2 tY.B2=true:=by kernel_rfl
def tY.T4:Bool×List (List Nat×List Nat):=(true,[([],[]),([0],[0]),([1],[1]),([2],[2]),([],[]),([3,4],[3,4]),([],[]),([6],[6]),([7],[7]),([8],[8]),([],[]),([9,10,5],[9,10]),([5,11,0,1,2,3,4,5],[5]),([11,12,0,1,2,3,4,5,6,7,8,9,10,11,12],[11])])
def tY.B4:List Nat:=[0,1,3,7,0,31,0,64,192,448,0,2047,4095,8191]
theorem tY.MC:eB .any (opsOf Tryz.f145 4)=tY.T4:=by kernel_rfl
theorem tY.Fj:bI tY.T4.2 tY.B4=true:=by kernel_rfl
def tY.T5:Bool×List (List Nat×List Nat):=(true,[([],[]),([],[]),([],[]),([2],[2]),([1,3],[1,3]),([0,4,4],[0,4]),([5,5],[5]),([6],[6]),([6],[6]),([7,8,6],[6,7,8]),([9,6,6],[6,9]),([10],[10]),([10],[10]),([10],[10]),([13,10],[10,13]),([12,14,10,10],[10,12,14]),([11,15,15,10],[10,11,15]),([10,16,6],[6,10,16]),([6,17],[6,17]),([18,16,0,1,2,3,4,5,6,7,8,9,10,11,12,13,14,15,16,17,18],[18])])
def tY.B5:List Nat:=[0,0,0,4,14,31,63,127,127,511,1023,2047,2047,2047,10239,30719,65535,131071,262143,524287]
theorem tY.yV:eB .any (opsOf Tryz.f145 5)=tY.T5:=by kernel_rfl
theorem tY.rP:bI tY.T5.2 tY.B5=true:=by kernel_rfl
def zl(base:Int)(cells:List Int)(fx:List dh)(row:Int)(l:List Int):Bool:=pq base l.sum cells.sum&&j6 fx row l
def dF(base:Int)(ok:List Int->Bool):List Int->List Int->List (List Int)
 |[],l=>if ok l then [l] else []
 |n::rest,l=>dF base ok rest (l++[iR base n])++if iR base n=lJ base n then [] else dF base ok rest (l++[lJ base n])
abbrev E3:Type:=List Int×Option Addr×Nat
def enc3(x:E3):Array Value:=#[.slice x.2.1 x.1.length x.2.2]
def X3(B0:Nat)(all:List (List Int))(x:E3)(W:World):Prop:=(Kd.int .i64).R 3 W B0 (λ_=>True) (.slice x.2.1 x.1.length x.2.2) x.1/\x.1 ∈ all/\B0<=W.heap.size
def uh(T:Nat->Prop)(W:World)(E:World->Prop):Prop:=∀W',aY W.heap.size T W W'->E W'
theorem uh.now{T:Nat->Prop}{W:World}{E:World->Prop}(h:uh T W E):E W:=h W (aY.refl _ _ _)
theorem uh.step{T:Nat->Prop}{W W':World}{E:World->Prop}(h:uh T W E)(hk:aY W.heap.size T W W'):uh T W' E:=λW2 h2=>h W2 (hk.trans (h2.mono hk.size (λ_ _ h=>h)))
theorem uh.below{T:Nat->Prop}{W W':World}{E:World->Prop}(h:uh T W E)(hb:Below W.heap.size W W'):uh T W' E:=h.step (aY.of_below hb (Nat.le_refl _))
structure rV(gc gw gr gy wK gk g m c cr cf rl:Nat)(Ac Ar Af:Option Addr)(cells:List Int)(base row:Int)(fx:List dh)(vm:Value)(W:World):Prop where
 c:W.cell? ⟨gc,0,none⟩=some (.slice Ac m c)
 w:W.cell? ⟨gw,0,none⟩=some (.pointer (some ⟨gk,0,none⟩))
 k0:W.cell? ⟨gk,0,none⟩=some (.int .i64 base)
 k1:W.cell? ⟨gk,1,none⟩=some (.slice Ar rl cr)
 k2:W.cell? ⟨gk,2,none⟩=some (.slice Af fx.length cf)
 r:W.cell? ⟨gr,0,none⟩=some (.int .i64 row)
 y:W.cell? ⟨gy,0,none⟩=some (.func (.yield g) #[] #[])
 h:W.cell? ⟨wK,0,none⟩=some (.func (.func 145) #[] #[.pointer (some ⟨gc,0,none⟩),.pointer (some ⟨gw,0,none⟩),.pointer (some ⟨gr,0,none⟩),.pointer (some ⟨gy,0,none⟩),.pointer (some ⟨wK,0,none⟩)])
 kc:(Kd.int .i64).C W Ac m cells
 kf:zt.C W Af fx.length fx
theorem rV.reads{gc gw gr gy wK gk g m c cr cf rl:Nat}{Ac Ar Af:Option Addr}{cells:List Int}{base row:Int}{fx:List dh}{vm:Value}{W:World}(h:rV gc gw gr gy wK gk g m c cr cf rl Ac Ar Af cells base row fx vm W):
  W.cell? ⟨gc,0,none⟩=some (.slice Ac m c)/\W.cell? ⟨gw,0,none⟩=some (.pointer (some ⟨gk,0,none⟩))/\W.cell? ⟨gk,0,none⟩=some (.int .i64 base)/\W.cell? ⟨gk,1,none⟩=some (.slice Ar rl cr)/\W.cell? ⟨gk,2,none⟩=some (.slice Af fx.length cf)/\W.cell? ⟨gr,0,none⟩=some (.int .i64 row)/\W.cell? ⟨gy,0,none⟩=some (.func (.yield g) #[] #[])/\W.cell? ⟨wK,0,none⟩=some (.func (.func 145) #[] #[.pointer (some ⟨gc,0,none⟩),.pointer (some ⟨gw,0,none⟩),.pointer (some ⟨gr,0,none⟩),.pointer (some ⟨gy,0,none⟩),.pointer (some ⟨wK,0,none⟩)]):=
 ⟨h.c,h.w,h.k0,h.k1,h.k2,h.r,h.y,h.h⟩
def LB(W:World)(gl m:Nat)(l:List Int):Prop:=∃vs:List Value,aV W gl vs 3/\vs.length=m/\vs.take l.length=l.map (Value.int .i64)/\l.length<=m/\m<=1000
theorem LB.pre{W:World}{gl m:Nat}{l l':List Int}(h:LB W gl m (l++l')):LB W gl m l:=by
 obtain⟨vs,h1,h2,h3,h4,h5⟩:=h
 rw[List.length_append] at h4
 refine⟨vs,h1,h2,?_,by omega,h5⟩
 have:=congrArg (List.take l.length) h3
 rw[List.take_take,List.length_append,Nat.min_eq_left (by omega),List.map_append,List.take_left' (by simp)] at this
 exact this
theorem LB.move{W W':World}{gl m:Nat}{l:List Int}(h:LB W gl m l)(e:W'.heap[gl]?=W.heap[gl]?):LB W' gl m l:=by
 obtain⟨vs,h1,h2⟩:=h
 exact⟨vs,h1.move e,h2⟩
theorem LB.lt{W:World}{gl m:Nat}{l:List Int}(h:LB W gl m l):gl<W.heap.size:=by
 obtain⟨vs,h1,h2⟩:=h
 exact h1.lt
theorem LB.set{W:World}{gl m:Nat}{l:List Int}(h:LB W gl m l)(hl:l.length<m)(y:Int):LB (W.setCell ⟨gl,l.length,none⟩ (.int .i64 y)) gl m (l++[y]):=by
 obtain⟨vs,h1,h2,h3,h4,h5⟩:=h
 refine⟨vs.set l.length (.int .i64 y),h1.setAt _ _,by rw[List.length_set];exact h2,?_,by simp;omega,h5⟩
 rw[List.length_append,List.length_singleton,List.map_append,<- h3,List.take_succ_eq_append_getElem (by rw[List.length_set];omega),List.getElem_set_self,List.take_set_of_le (Nat.le_refl _)]
 rfl
theorem LB.spare{W:World}{gl m:Nat}{l:List Int}(h:LB W gl m l)(hl:l.length<m):(W.cell? ⟨gl,l.length,none⟩).isSome=true/\W.frozen? ⟨gl,l.length,none⟩=false:=by
 obtain⟨vs,h1,h2,h3,h4,h5⟩:=h
 refine⟨?_,h1.frozen _⟩
 rw[h1.cell,List.getElem?_eq_getElem (by omega)]
 rfl
theorem LB.C{W:World}{gl m:Nat}{l:List Int}(h:LB W gl m l):(Kd.int .i64).C W (some ⟨gl,0,none⟩) l.length l:=by
 obtain⟨vs,h1,h2,h3,h4,h5⟩:=h
 refine⟨rfl,by omega,λh0=>⟨_,rfl,λj p hj=>?_⟩⟩
 obtain⟨hjl,hjp⟩:=List.getElem?_eq_some_iff.1 hj
 refine⟨[.int .i64 p],rfl,rfl,λi u hu=>?_⟩
 obtain rfl:i=0:=by
  rcases Nat.eq_zero_or_pos i with e|e
  .exact e
  .rw[List.getElem?_eq_none (by simp only[List.length_cons,List.length_nil];omega)] at hu
   cases hu
 obtain rfl:Value.int .i64 p=u:=by simpa using hu
 rw[Ie]
 have hc:=h1.cell j
 have he:(vs.take l.length)[j]?=some (.int .i64 p):=by rw[h3];simp[hj]
 rw[List.getElem?_take,if_pos hjl] at he
 rw[he] at hc
 rw[show j*(Kd.int .i64).sz+0=j from by show j*1+0=j;omega]
 simpa using hc
theorem wP{b:Int}(hb:0<=b):∀{xs:List Int},(∀x ∈ xs,0<=x/\x<=b)->0<=xs.sum/\xs.sum<=b*xs.length
 |[],_=>by simp
 |x::xs,h=>by
  have h1:=h x List.mem_cons_self
  have h2:=wP hb (xs:=xs) (λy hy=>h y (List.mem_cons_of_mem _ hy))
  rw[List.sum_cons,List.length_cons]
  push_cast
  have:b*((xs.length:Int)+1)=b*xs.length+b:=by rw[Int.mul_add,Int.mul_one]
  omega
theorem wC{base n:Int}(hb:2<=base):n<=lJ base n/\lJ base n<n+base:=by
 unfold lJ
 have:=mO (base:=base) (n:=n+base-1) hb
 omega
theorem rY{A:Option Addr}{c:Nat}(n:Nat)(xs:List Int)(hn:xs.length=n)(w:World)(hx:(Kd.int .i64).C w A n xs)(hc:n<=c)(h:∀x ∈ xs,0<=x/\x<=100000)(hl:n<=10):
  Calls Tryz.prog 72 #[.slice A n c] w λe w'=>e= .returned (.int .i64 xs.sum)/\Below w.heap.size w w':=by
 subst hn
 exact qW xs w hx hc h hl
structure o9(T:Nat->Prop)(E:World->Prop)(J:List E3->World->Prop)(gl m B0:Nat)(l:List Int)(pre:List E3)(W0 W:World):Prop where
 st:uh T W E
 lb:LB W gl m l
 j:J pre W
 b0:B0<=W.heap.size
 kw:aY W0.heap.size T W0 W
theorem o9.below{T:Nat->Prop}{E:World->Prop}{J:List E3->World->Prop}{gl m B0:Nat}{l:List Int}{pre:List E3}{W0 W W':World}{lo hi:Nat}(h:o9 T E J gl m B0 l pre W0 W)(hJ:lu lo hi J)(hb:Below W.heap.size W W'):o9 T E J gl m B0 l pre W0 W':=
 ⟨h.st.below hb,h.lb.move (hb.block _ h.lb.lt),hJ _ _ _ none h.j (jy hb none) (by simp),Nat.le_trans h.b0 hb.size,h.kw.trans (aY.of_below hb h.kw.size)⟩
theorem o9.drew{T:Nat->Prop}{E:World->Prop}{J:List E3->World->Prop}{gl m B0:Nat}{l:List Int}{pre:List E3}{W0 W:World}{lo hi:Nat}(h:o9 T E J gl m B0 l pre W0 W)(hJ:lu lo hi J):o9 T E J gl m B0 l pre W0 W.drew:=h.below hJ (aN (Below.refl _ _))
theorem o9.set{T:Nat->Prop}{E:World->Prop}{J:List E3->World->Prop}{gl m B0:Nat}{l:List Int}{pre:List E3}{W0 W:World}{lo hi:Nat}(h:o9 T E J gl m B0 l pre W0 W)(hJ:lu lo hi J)(hlo:lo<=gl/\gl<hi)(hT:T gl)(hl:l.length<m)(y:Int):o9 T E J gl m B0 (l++[y]) pre W0 (W.setCell ⟨gl,l.length,none⟩ (.int .i64 y)):=
 ⟨h.st.step ((aY.refl _ _ _).setCell (.inl hT) _),h.lb.set hl y,hJ.setCell _ h.j hlo.1 hlo.2,by have:=h.b0;simp[World.setCell];omega,h.kw.setCell (.inl hT) _⟩
theorem o9.back{T:Nat->Prop}{E:World->Prop}{J:List E3->World->Prop}{gl m B0:Nat}{l l':List Int}{pre pre':List E3}{W0 W W':World}(h:o9 T E J gl m B0 l' pre W0 W)(hj:J pre' W')(hk:aY W.heap.size T W W')(hb:LB W' gl m l):o9 T E J gl m B0 l pre' W0 W':=
 ⟨h.st.step hk,hb,hj,Nat.le_trans h.b0 hk.size,h.kw.trans (hk.mono h.kw.size (λ_ _ h=>h))⟩
theorem o9.fresh{T:Nat->Prop}{E:World->Prop}{J:List E3->World->Prop}{gl m B0:Nat}{l:List Int}{pre:List E3}{W0 W:World}(h:o9 T E J gl m B0 l pre W0 W):o9 T E J gl m B0 l pre W W:=⟨h.st,h.lb,h.j,h.b0,aY.refl _ _ _⟩
theorem sM:(Tryz.prog.info? 3).map (λi=>(i.zero,i.size,i.bytes))=some (some (.int .i64 0),1,8):=by kernel_rfl
theorem xz(a:Option Addr)(l c:Nat)(w:World):(binOp .eql 30 (.slice a l c) (.slice none 0 0)).run Tryz.prog w= .ok (.bool a.isNone) w:=by
 simp only[binOp]
 simp[run_equal_slice_nil w 30 3 a l c Tryz.underlying30]
attribute [local go_sem] xz
set_option maxHeartbeats 4000000 in
theorem wh{ad:Addr}{n c:Nat}{xs:List Int}(hn:xs.length=n)(w:World)(hC:(Kd.int .i64).C w (some ad) n xs)(hx:n<=1000):
  Calls Tryz.prog 61 #[.slice (some ad) n c] w λe w'=>∃v,e= .returned v/\(Kd.int .i64).R 3 w' w.heap.size (λ_=>True) v xs/\Below w.heap.size w w':=by
 subst hn
 have HC:=aa.mk hC
 clear hC
 go_enter Tryz.func61,Tryz.ntmps61
 go_wp2_with (first|((with_reducible refine dM (N:=5) rfl ?_);refine Kd.Jz (Kd.int .i64) w.heap.size 3 ?hg (N:=5) ?hd (xs:=([]:List Int)) (inner:=[]) (ok:=λ_=>True) (okp:=λ_=>True) ?hr ?hp (λ_ hk=>hk) trivial (Below.refl _ _) (Nat.le_refl _) (by simp) ?_;(case hd=>rfl);(case hg=>rfl);(case hr=>first|(go_simp;done)|(go_simp;rfl));(case hp=>exact(dH.none _ _));intro v1 w1 hr1 hb1 hg1 vN;have wL:=aa.mk (Kd.aC HC.out hb1);have hsz1:=hb1.size;have HR1:=aa.mk hr1;have HB1:=aa.mk hb1;clear hr1 hb1 hg1 vN)|((with_reducible refine dN (b:= .append) (xs:=#[.tmp 5,.tmp 6]) rfl ?_);refine Kd.o7 (Kd.int .i64) (w0:=w) w.heap.size rfl (.tmp 5) (.tmp 6) 30 3 (.int .i64 0) 8 rfl Tryz.underlying30 sM rfl (by decide) (by omega) v1 [] xs _ _ _ (λ_=>True) (λ_=>False) rfl rfl HR1.out wL.out (λx cs h=>h) (λ_ hk=>hk.elim) (λ_ _=>trivial) HB1.out hsz1 ?aL ?_;(case aL=>(simp only[List.length_nil];omega));intro vn wn hon hbn hgn iP;have FJ:=aa.mk hon;have JG:=aa.mk hbn;clear hon hbn hgn iP))
 go_ret
 exact⟨_,rfl,FJ.out,JG.out⟩
theorem Ry(base n y:Int)(hy:iR base n=y)(u1 u2:Value)(w:World)(hb:2<=base)(hb1:base<=100)(hn:0<=n)(hn1:n<=1000000):
  Calls Tryz.prog 146 #[.agg #[.int .i64 base,u1,u2],.int .i64 n] w λe w'=>e= .returned (.int .i64 y)/\Below w.heap.size w w':=by
 subst hy
 exact rR base n u1 u2 w hb hb1 hn hn1
theorem RL(base n y:Int)(hy:lJ base n=y)(u1 u2:Value)(w:World)(hb:2<=base)(hb1:base<=100)(hn:0<=n)(hn1:n<=999000):
  Calls Tryz.prog 147 #[.agg #[.int .i64 base,u1,u2],.int .i64 n] w λe w'=>e= .returned (.int .i64 y)/\Below w.heap.size w w':=by
 subst hy
 exact xU base n u1 u2 w hb hb1 hn hn1
theorem I7{Af:Option Addr}{cf:Nat}{fx:List dh}{A:Option Addr}{c:Nat}(b:Bool)(u0 u1:Value)(row:Int)(xs:List Int)(hb2:j6 fx row xs=b)(w:World)(hF:zt.C w Af fx.length fx)(hcf:fx.length<=cf)(hx:(Kd.int .i64).C w A xs.length xs)(hb:∀f ∈ fx,f.f0=row->0<=f.f1/\f.f1<xs.length)(hf:fx.length<=1000)(hu0:u0.cells=#[u0])(hu1:u1.cells=#[u1]):
  Calls Tryz.prog 73 #[.agg #[u0,u1,.slice Af fx.length cf],.int .i64 row,.slice A xs.length c] w λe w'=>e= .returned (.bool b)/\Below w.heap.size w w':=by
 subst hb2
 exact ER u0 u1 row xs w hF hcf hx hb hf hu0 hu1
set_option maxHeartbeats 40000000 in
theorem Dp{gc gw gr gy wK gk g m c cr cf rl gl B0 lo hi N:Nat}{Ac Ar Af:Option Addr}{cells:List Int}{base row:Int}{fx:List dh}{vm:Value}{S:Nat->Prop}{J:List E3->World->Prop}{all:List (List Int)}
  (hJ:lu lo hi J) (hlo:lo<=gl/\gl<hi) (hm:cells.length=m) (hmc:m<=c) (PV:m<=4) (hb:2<=base) (hb1:base<=100) (hcl:∀x ∈ cells,0<=x/\x<=10100) (hfx:∀f ∈ fx,0<=f.f1/\f.f1<m) (hf:fx.length<=1000) (hcf:fx.length<=cf)
  (hY:∀pre x W1,J pre W1->X3 B0 all x W1->pre.length<N->YieldAt Fence.wide 0 Tryz.prog g (enc3 x) W1 λe W'=>e= .returned (.bool true)/\J (pre++[x]) W'/\aY W1.heap.size S W1 W') (YO:¬S gl):
  ∀(rest l done:List Int) (k:Nat) (pre:List E3) (W:World),cells=done++rest->done.length=k->l.length=k->(∀x ∈ l,0<=x/\x<=100000)->(∀x ∈ dF base (zl base cells fx row) rest l,x ∈ all)->pre.length+(dF base (zl base cells fx row) rest l).length<=N->o9 (λb=>S b\/b=gl) (rV gc gw gr gy wK gk g m c cr cf rl Ac Ar Af cells base row fx vm) J gl m B0 l pre W W ->
  Calls Tryz.prog 145 #[.slice (some ⟨gl,0,none⟩) k m,.pointer (some ⟨gc,0,none⟩),.pointer (some ⟨gw,0,none⟩),.pointer (some ⟨gr,0,none⟩),.pointer (some ⟨gy,0,none⟩),.pointer (some ⟨wK,0,none⟩)] W λe W'=>e= .returned (.bool true)/\∃ys,ys.map (·.1)=dF base (zl base cells fx row) rest l/\o9 (λb=>S b\/b=gl) (rV gc gw gr gy wK gk g m c cr cf rl Ac Ar Af cells base row fx vm) J gl m B0 l (pre++ys) W W':=by
 have HJ:=aa.mk hJ
 have Pq:=aa.mk hcl
 have HFX:=aa.mk hfx
 have HY:=aa.mk hY
 have HM:=aa.mk hm
 have HSG:=aa.mk YO
 clear hJ hcl hfx hY YO
 intro rest
 induction rest with
 |nil=>
  intro l done k pre W hcd hdk hlk hlb hall hN hST
  obtain rfl:=hlk
  have hlm:l.length=m:=by rw[<- hm,hcd,List.append_nil,hdk]
  have hkm:((l.length:Int)==(m:Int))=true:=by simp[hlm]
  have hsl:=wP (by omega) hlb
  have hsc:=wP (by omega) (xs:=cells) (b:=10100) Pq.out
  rw[hm] at hsc
  have hle:l.length<=m:=by omega
  have hge:m<=l.length:=by omega
  have HLB:=aa.mk hlb
  have IG:=aa.mk hall
  have HN:=aa.mk hN
  have HST:=aa.mk hST
  clear hcd hdk hlb hall hN hST hlm hm
  have HNR:=aa.mk (show ∀b,pq base l.sum cells.sum=b->∀w,Calls _ _ _ w _ from λb dK w=>rq base l.sum cells.sum b dK (.slice Ar rl cr) (.slice Af fx.length cf) w hb hb1 (by omega) (by omega))
  obtain⟨b1,Vp⟩:∃b,pq base l.sum cells.sum=b:=⟨_,rfl⟩
  obtain⟨b2,Hf⟩:∃b,j6 fx row l=b:=⟨_,rfl⟩
  have HV:=aa.mk (show dF base (zl base cells fx row) [] l=if(b1&&b2)=true then [l] else [] by rw[<- Vp,<- Hf];rfl)
  have HB1:=aa.mk Vp
  have HB2:=aa.mk Hf
  clear Vp Hf hsl hsc
  refine callsIn_wide.1 (callsIn_of_wp (F:=Fence.wide) (n:=9) Tryz.func145 rfl trivial ?_ rfl)
  simp only[Tryz.ntmps145,List.size_toArray,List.length_cons,List.length_nil,Nat.reduceAdd,Nat.reduceSub,Array.replicate_succ,Array.replicate_zero,List.push_toArray,List.append_toArray,List.nil_append,List.cons_append]
  have h1:=HST.out.st.now.c
  gi_wp2_with fail
  clear h1
  cases b1
  .refine rZ (m:=27) (S:=λw'=>w'.cell? ⟨gc,0,none⟩=some (.slice Ac m c)/\w'.cell? ⟨gw,0,none⟩=some (.pointer (some ⟨gk,0,none⟩))/\w'.cell? ⟨gk,0,none⟩=some (.int .i64 base)/\w'.cell? ⟨gk,1,none⟩=some (.slice Ar rl cr)/\w'.cell? ⟨gk,2,none⟩=some (.slice Af fx.length cf)/\w'.cell? ⟨gr,0,none⟩=some (.int .i64 row)/\w'.cell? ⟨gy,0,none⟩=some (.func (.yield g) #[] #[])/\w'.cell? ⟨wK,0,none⟩=some (.func (.func 145) #[] #[.pointer (some ⟨gc,0,none⟩),.pointer (some ⟨gw,0,none⟩),.pointer (some ⟨gr,0,none⟩),.pointer (some ⟨gy,0,none⟩),.pointer (some ⟨wK,0,none⟩)])) (ds:=[8]) #[O,O,O,O,O,O,O,O,O,O,O,O,O,O,O,O,O,O,O,O,O,O,O,O,O,O,O] (by kernel_rfl) rfl rfl HST.out.st.now.reads (λhHeld=>?_);refine lC tY.DW tY.xP (λau cz=>?_)
   replace HST:=aa.mk (HST.out.drew HJ.out)
   generalize W.drew=wd at HST hHeld ⊢
   refine mY 0 16 #[I,O,O,O,O,O,O,O,O,O,O,O,O,O,O,O,O,O,O,O,O,O,O,O,O,O,O] au cz hHeld (hy:=by(rintro w' ⟨s0,s1,s2,s3,s4,s5,s6,s7⟩;go_simp;with_reducible rfl)) (h:=?_)
   refine ed 1 17 #[I,I,O,O,O,O,O,O,O,O,O,O,O,O,O,O,O,O,O,O,O,O,O,O,O,O,O] au (h:=?_)
   refine ed 2 18 #[I,I,I,O,O,O,O,O,O,O,O,O,O,O,O,O,O,O,O,O,O,O,O,O,O,O,O] au (h:=?_)
   refine mY 3 19 #[I,I,I,I,O,O,O,O,O,O,O,O,O,O,O,O,O,O,O,O,O,O,O,O,O,O,O] au cz hHeld (hy:=by(rintro w' ⟨s0,s1,s2,s3,s4,s5,s6,s7⟩;go_simp;with_reducible rfl)) (h:=?_)
   refine ed 4 20 #[I,I,I,I,I,O,O,O,O,O,O,O,O,O,O,O,O,O,O,O,O,O,O,O,O,O,O] au (h:=?_)
   refine mY 6 22 #[I,I,I,I,I,O,I,O,O,O,O,O,O,O,O,O,O,O,O,O,O,O,O,O,O,O,O] au cz hHeld (hy:=by(rintro w' ⟨s0,s1,s2,s3,s4,s5,s6,s7⟩;go_simp;with_reducible rfl)) (h:=?_)
   refine lq (i:=5) (N:=some 21) #[I,I,I,I,I,I,I,O,O,O,O,O,O,O,O,O,O,O,O,O,O,O,O,O,O,O,O] rfl rfl (aM au.out (by kernel_rfl)) (by decide) (λK hK=>?_)
   refine kS Tryz.func72 (by kernel_rfl) rfl #[.slice (some ⟨gl,0,none⟩) l.length m] (by rfl) rfl rfl (by(try simp only[List.map_toArray,List.map_cons,List.map_nil]);rfl) ?_
   refine(rY l.length l rfl _ HST.out.lb.C hle HLB.out (by omega)).mono ?_
   rintro e_ w_ ⟨rfl,hbx⟩
   refine⟨_,rfl,hK.out _ _ ((HST.out.below HJ.out hbx).st.now.reads) (λhHeld=>?_)⟩
   clear hK K
   replace HST:=aa.mk (HST.out.below HJ.out hbx)
   clear hbx
   refine gJ (by simp only[Act.put,sb0,sb1,bR];rfl) ?_
   refine lq (i:=7) (N:=some 23) #[I,I,I,I,I,I,I,I,O,O,O,O,O,O,O,O,O,O,O,O,O,O,O,O,O,O,O] rfl rfl (aM au.out (by kernel_rfl)) (by decide) (λK hK=>?_)
   refine kS Tryz.func72 (by kernel_rfl) rfl #[.slice Ac m c] (by rfl) rfl rfl (by(try simp only[List.map_toArray,List.map_cons,List.map_nil]);rfl) ?_
   refine(rY m cells HM.out _ HST.out.st.now.kc hmc (λx hx=>by have:=Pq.out x hx;omega) (by omega)).mono ?_
   rintro e_ w_ ⟨rfl,hbx⟩
   refine⟨_,rfl,hK.out _ _ ((HST.out.below HJ.out hbx).st.now.reads) (λhHeld=>?_)⟩
   clear hK K
   replace HST:=aa.mk (HST.out.below HJ.out hbx)
   clear hbx
   refine gJ (by simp only[Act.put,sb0,sb1,bR];rfl) ?_
   refine wX (i:=8) (N:=some 24) #[I,I,I,I,I,I,I,I,I,O,O,O,O,O,O,O,O,O,O,O,O,O,O,O,O,O,O] rfl rfl (aM au.out (by kernel_rfl)) (by decide) (λK hK=>?_)
   refine kS Tryz.func71 (by kernel_rfl) rfl #[.agg #[.int .i64 base,.slice Ar rl cr,.slice Af fx.length cf],.int .i64 l.sum,.int .i64 cells.sum] (by rfl) rfl rfl (by(try simp only[List.map_toArray,List.map_cons,List.map_nil]);rfl) ?_
   refine(HNR.out false HB1.out _).mono ?_
   rintro e_ w_ ⟨rfl,hbx⟩
   refine⟨_,rfl,hK.out _ _ ?_⟩
   clear hK K
   replace HST:=aa.mk (HST.out.below HJ.out hbx)
   clear hbx
   refine gJ (by simp only[Act.put,sb0,sb1,bR];rfl) ?_
   refine ed 9 25 #[I,I,I,I,I,I,I,I,I,I,O,O,O,O,O,O,O,O,O,O,O,O,O,O,O,O,O] au (h:=?_)
   refine ed 10 26 #[I,I,I,I,I,I,I,I,I,I,I,O,O,O,O,O,O,O,O,O,O,O,O,O,O,O,O] au (h:=?_)
   refine gV (i:=11) (N:=some 27) (v:=undef) (a':=?_) #[I,I,I,I,I,I,I,I,I,I,I,I,O,O,O,O,O,O,O,O,O,O,O,O,O,O,O] rfl rfl (dI au.out (by kernel_rfl)) (λ_ _ _ h=>h) (Or.inr ⟨by rfl,rfl⟩) ?_ ?_
   rotate_left
   .simp only[Act.put,sb0,sb1,bR,cB,dX]
    rfl
   refine gV (i:=12) (N:=some 28) (v:=undef) (a':=?_) #[I,I,I,I,I,I,I,I,I,I,I,I,I,O,O,O,O,O,O,O,O,O,O,O,O,O,O] rfl rfl (dI au.out (by kernel_rfl)) (λ_ _ _ h=>h) (Or.inr ⟨by rfl,rfl⟩) ?_ ?_
   rotate_left
   .simp only[Act.put,sb0,sb1,bR,cB,dX]
    rfl
   refine gV (i:=13) (N:=some 29) (v:=undef) (a':=?_) #[I,I,I,I,I,I,I,I,I,I,I,I,I,I,O,O,O,O,O,O,O,O,O,O,O,O,O] rfl rfl (dI au.out (by kernel_rfl)) (λ_ _ _ h=>h) (Or.inr ⟨by rfl,rfl⟩) ?_ ?_
   rotate_left
   .simp only[Act.put,sb0,sb1,bR,cB,dX]
    rfl
   refine gV (i:=14) (N:=some 30) (v:=undef) (a':=?_) #[I,I,I,I,I,I,I,I,I,I,I,I,I,I,I,O,O,O,O,O,O,O,O,O,O,O,O] rfl rfl (dI au.out (by kernel_rfl)) (λ_ _ _ h=>h) (Or.inr ⟨by rfl,rfl⟩) ?_ ?_
   rotate_left
   .simp only[Act.put,sb0,sb1,bR,cB,dX]
    rfl
   refine gV (i:=15) (N:=some 31) (v:=undef) (a':=?_) #[I,I,I,I,I,I,I,I,I,I,I,I,I,I,I,I,O,O,O,O,O,O,O,O,O,O,O] rfl rfl (dI au.out (by kernel_rfl)) (λ_ _ _ h=>h) (Or.inr ⟨by rfl,rfl⟩) ?_ ?_
   rotate_left
   .simp only[Act.put,sb0,sb1,bR,cB,dX]
    rfl
   refine gV (i:=16) (N:=some 32) (v:=undef) (a':=?_) #[I,I,I,I,I,I,I,I,I,I,I,I,I,I,I,I,I,O,O,O,O,O,O,O,O,O,O] rfl rfl (dI au.out (by kernel_rfl)) (λ_ _ _ h=>h) (Or.inr ⟨by rfl,rfl⟩) ?_ ?_
   rotate_left
   .simp only[Act.put,sb0,sb1,bR,cB,dX]
    rfl
   refine gV (i:=17) (N:=some 33) (v:=undef) (a':=?_) #[I,I,I,I,I,I,I,I,I,I,I,I,I,I,I,I,I,I,O,O,O,O,O,O,O,O,O] rfl rfl (dI au.out (by kernel_rfl)) (λ_ _ _ h=>h) (Or.inr ⟨by rfl,rfl⟩) ?_ ?_
   rotate_left
   .simp only[Act.put,sb0,sb1,bR,cB,dX]
    rfl
   refine gV (i:=18) (N:=some 34) (v:=undef) (a':=?_) #[I,I,I,I,I,I,I,I,I,I,I,I,I,I,I,I,I,I,I,O,O,O,O,O,O,O,O] rfl rfl (dI au.out (by kernel_rfl)) (λ_ _ _ h=>h) (Or.inr ⟨by rfl,rfl⟩) ?_ ?_
   rotate_left
   .simp only[Act.put,sb0,sb1,bR,cB,dX]
    rfl
   refine ed 19 35 #[I,I,I,I,I,I,I,I,I,I,I,I,I,I,I,I,I,I,I,I,O,O,O,O,O,O,O] au (h:=?_)
   refine ed 20 36 #[I,I,I,I,I,I,I,I,I,I,I,I,I,I,I,I,I,I,I,I,I,O,O,O,O,O,O] au (h:=?_)
   refine gV (i:=21) (N:=some 37) (v:=undef) (a':=?_) #[I,I,I,I,I,I,I,I,I,I,I,I,I,I,I,I,I,I,I,I,I,I,O,O,O,O,O] rfl rfl (dI au.out (by kernel_rfl)) (λ_ _ _ h=>h) (Or.inr ⟨by rfl,rfl⟩) ?_ ?_
   rotate_left
   .simp only[Act.put,sb0,sb1,bR,cB,dX]
    rfl
   refine gV (i:=22) (N:=some 38) (v:=undef) (a':=?_) #[I,I,I,I,I,I,I,I,I,I,I,I,I,I,I,I,I,I,I,I,I,I,I,O,O,O,O] rfl rfl (dI au.out (by kernel_rfl)) (λ_ _ _ h=>h) (Or.inr ⟨by rfl,rfl⟩) ?_ ?_
   rotate_left
   .simp only[Act.put,sb0,sb1,bR,cB,dX]
    rfl
   refine gV (i:=23) (N:=some 39) (v:=undef) (a':=?_) #[I,I,I,I,I,I,I,I,I,I,I,I,I,I,I,I,I,I,I,I,I,I,I,I,O,O,O] rfl rfl (dI au.out (by kernel_rfl)) (λ_ _ _ h=>h) (Or.inr ⟨by rfl,rfl⟩) ?_ ?_
   rotate_left
   .simp only[Act.put,sb0,sb1,bR,cB,dX]
    rfl
   refine gV (i:=24) (N:=some 40) (v:=undef) (a':=?_) #[I,I,I,I,I,I,I,I,I,I,I,I,I,I,I,I,I,I,I,I,I,I,I,I,I,O,O] rfl rfl (dI au.out (by kernel_rfl)) (λ_ _ _ h=>h) (Or.inr ⟨by rfl,rfl⟩) ?_ ?_
   rotate_left
   .simp only[Act.put,sb0,sb1,bR,cB,dX]
    rfl
   refine ed 25 41 #[I,I,I,I,I,I,I,I,I,I,I,I,I,I,I,I,I,I,I,I,I,I,I,I,I,I,O] au (h:=?_)
   refine ed 26 7 #[I,I,I,I,I,I,I,I,I,I,I,I,I,I,I,I,I,I,I,I,I,I,I,I,I,I,I] au (h:=?_)
   refine xq (bP au.out (by kernel_rfl)) ?_
   gi_wp2_with fail
   go_ret
   exact⟨rfl,[],by rw[HV.out];rfl,by rw[List.append_nil];exact HST.out⟩
  cases b2
  .refine rZ (m:=27) (S:=λw'=>w'.cell? ⟨gc,0,none⟩=some (.slice Ac m c)/\w'.cell? ⟨gw,0,none⟩=some (.pointer (some ⟨gk,0,none⟩))/\w'.cell? ⟨gk,0,none⟩=some (.int .i64 base)/\w'.cell? ⟨gk,1,none⟩=some (.slice Ar rl cr)/\w'.cell? ⟨gk,2,none⟩=some (.slice Af fx.length cf)/\w'.cell? ⟨gr,0,none⟩=some (.int .i64 row)/\w'.cell? ⟨gy,0,none⟩=some (.func (.yield g) #[] #[])/\w'.cell? ⟨wK,0,none⟩=some (.func (.func 145) #[] #[.pointer (some ⟨gc,0,none⟩),.pointer (some ⟨gw,0,none⟩),.pointer (some ⟨gr,0,none⟩),.pointer (some ⟨gy,0,none⟩),.pointer (some ⟨wK,0,none⟩)])) (ds:=[17]) #[O,O,O,O,O,O,O,O,O,O,O,O,O,O,O,O,O,O,O,O,O,O,O,O,O,O,O] (by kernel_rfl) rfl rfl HST.out.st.now.reads (λhHeld=>?_);refine lC tY.DW tY.xP (λau cz=>?_)
   replace HST:=aa.mk (HST.out.drew HJ.out)
   generalize W.drew=wd at HST hHeld ⊢
   refine mY 0 16 #[I,O,O,O,O,O,O,O,O,O,O,O,O,O,O,O,O,O,O,O,O,O,O,O,O,O,O] au cz hHeld (hy:=by(rintro w' ⟨s0,s1,s2,s3,s4,s5,s6,s7⟩;go_simp;with_reducible rfl)) (h:=?_)
   refine ed 1 17 #[I,I,O,O,O,O,O,O,O,O,O,O,O,O,O,O,O,O,O,O,O,O,O,O,O,O,O] au (h:=?_)
   refine ed 2 18 #[I,I,I,O,O,O,O,O,O,O,O,O,O,O,O,O,O,O,O,O,O,O,O,O,O,O,O] au (h:=?_)
   refine mY 3 19 #[I,I,I,I,O,O,O,O,O,O,O,O,O,O,O,O,O,O,O,O,O,O,O,O,O,O,O] au cz hHeld (hy:=by(rintro w' ⟨s0,s1,s2,s3,s4,s5,s6,s7⟩;go_simp;with_reducible rfl)) (h:=?_)
   refine ed 4 20 #[I,I,I,I,I,O,O,O,O,O,O,O,O,O,O,O,O,O,O,O,O,O,O,O,O,O,O] au (h:=?_)
   refine mY 6 22 #[I,I,I,I,I,O,I,O,O,O,O,O,O,O,O,O,O,O,O,O,O,O,O,O,O,O,O] au cz hHeld (hy:=by(rintro w' ⟨s0,s1,s2,s3,s4,s5,s6,s7⟩;go_simp;with_reducible rfl)) (h:=?_)
   refine lq (i:=5) (N:=some 21) #[I,I,I,I,I,I,I,O,O,O,O,O,O,O,O,O,O,O,O,O,O,O,O,O,O,O,O] rfl rfl (aM au.out (by kernel_rfl)) (by decide) (λK hK=>?_)
   refine kS Tryz.func72 (by kernel_rfl) rfl #[.slice (some ⟨gl,0,none⟩) l.length m] (by rfl) rfl rfl (by(try simp only[List.map_toArray,List.map_cons,List.map_nil]);rfl) ?_
   refine(rY l.length l rfl _ HST.out.lb.C hle HLB.out (by omega)).mono ?_
   rintro e_ w_ ⟨rfl,hbx⟩
   refine⟨_,rfl,hK.out _ _ ((HST.out.below HJ.out hbx).st.now.reads) (λhHeld=>?_)⟩
   clear hK K
   replace HST:=aa.mk (HST.out.below HJ.out hbx)
   clear hbx
   refine gJ (by simp only[Act.put,sb0,sb1,bR];rfl) ?_
   refine lq (i:=7) (N:=some 23) #[I,I,I,I,I,I,I,I,O,O,O,O,O,O,O,O,O,O,O,O,O,O,O,O,O,O,O] rfl rfl (aM au.out (by kernel_rfl)) (by decide) (λK hK=>?_)
   refine kS Tryz.func72 (by kernel_rfl) rfl #[.slice Ac m c] (by rfl) rfl rfl (by(try simp only[List.map_toArray,List.map_cons,List.map_nil]);rfl) ?_
   refine(rY m cells HM.out _ HST.out.st.now.kc hmc (λx hx=>by have:=Pq.out x hx;omega) (by omega)).mono ?_
   rintro e_ w_ ⟨rfl,hbx⟩
   refine⟨_,rfl,hK.out _ _ ((HST.out.below HJ.out hbx).st.now.reads) (λhHeld=>?_)⟩
   clear hK K
   replace HST:=aa.mk (HST.out.below HJ.out hbx)
   clear hbx
   refine gJ (by simp only[Act.put,sb0,sb1,bR];rfl) ?_
   refine lq (i:=8) (N:=some 24) #[I,I,I,I,I,I,I,I,I,O,O,O,O,O,O,O,O,O,O,O,O,O,O,O,O,O,O] rfl rfl (aM au.out (by kernel_rfl)) (by decide) (λK hK=>?_)
   refine kS Tryz.func71 (by kernel_rfl) rfl #[.agg #[.int .i64 base,.slice Ar rl cr,.slice Af fx.length cf],.int .i64 l.sum,.int .i64 cells.sum] (by rfl) rfl rfl (by(try simp only[List.map_toArray,List.map_cons,List.map_nil]);rfl) ?_
   refine(HNR.out true HB1.out _).mono ?_
   rintro e_ w_ ⟨rfl,hbx⟩
   refine⟨_,rfl,hK.out _ _ ((HST.out.below HJ.out hbx).st.now.reads) (λhHeld=>?_)⟩
   clear hK K
   replace HST:=aa.mk (HST.out.below HJ.out hbx)
   clear hbx
   refine gJ (by simp only[Act.put,sb0,sb1,bR];rfl) ?_
   refine ed 9 25 #[I,I,I,I,I,I,I,I,I,I,O,O,O,O,O,O,O,O,O,O,O,O,O,O,O,O,O] au (h:=?_)
   refine ed 10 26 #[I,I,I,I,I,I,I,I,I,I,I,O,O,O,O,O,O,O,O,O,O,O,O,O,O,O,O] au (h:=?_)
   refine mY 11 27 #[I,I,I,I,I,I,I,I,I,I,I,I,O,O,O,O,O,O,O,O,O,O,O,O,O,O,O] au cz hHeld (hy:=by(rintro w' ⟨s0,s1,s2,s3,s4,s5,s6,s7⟩;go_simp;with_reducible rfl)) (h:=?_)
   refine ed 12 28 #[I,I,I,I,I,I,I,I,I,I,I,I,I,O,O,O,O,O,O,O,O,O,O,O,O,O,O] au (h:=?_)
   refine ed 13 29 #[I,I,I,I,I,I,I,I,I,I,I,I,I,I,O,O,O,O,O,O,O,O,O,O,O,O,O] au (h:=?_)
   refine mY 14 30 #[I,I,I,I,I,I,I,I,I,I,I,I,I,I,I,O,O,O,O,O,O,O,O,O,O,O,O] au cz hHeld (hy:=by(rintro w' ⟨s0,s1,s2,s3,s4,s5,s6,s7⟩;go_simp;with_reducible rfl)) (h:=?_)
   refine mY 15 31 #[I,I,I,I,I,I,I,I,I,I,I,I,I,I,I,I,O,O,O,O,O,O,O,O,O,O,O] au cz hHeld (hy:=by(rintro w' ⟨s0,s1,s2,s3,s4,s5,s6,s7⟩;go_simp;with_reducible rfl)) (h:=?_)
   refine ed 16 32 #[I,I,I,I,I,I,I,I,I,I,I,I,I,I,I,I,I,O,O,O,O,O,O,O,O,O,O] au (h:=?_)
   refine wX (i:=17) (N:=some 33) #[I,I,I,I,I,I,I,I,I,I,I,I,I,I,I,I,I,I,O,O,O,O,O,O,O,O,O] rfl rfl (aM au.out (by kernel_rfl)) (by decide) (λK hK=>?_)
   refine kS Tryz.func73 (by kernel_rfl) rfl #[.agg #[.int .i64 base,.slice Ar rl cr,.slice Af fx.length cf],.int .i64 row,.slice (some ⟨gl,0,none⟩) l.length m] (by rfl) rfl rfl (by(try simp only[List.map_toArray,List.map_cons,List.map_nil]);rfl) ?_
   refine(I7 false (.int .i64 base) (.slice Ar rl cr) row l HB2.out _ HST.out.st.now.kf hcf HST.out.lb.C (λf hf_ _=>by have:=HFX.out f hf_;omega) hf rfl rfl).mono ?_
   rintro e_ w_ ⟨rfl,hbx⟩
   refine⟨_,rfl,hK.out _ _ ?_⟩
   clear hK K
   replace HST:=aa.mk (HST.out.below HJ.out hbx)
   clear hbx
   refine gJ (by simp only[Act.put,sb0,sb1,bR];rfl) ?_
   refine ed 18 34 #[I,I,I,I,I,I,I,I,I,I,I,I,I,I,I,I,I,I,I,O,O,O,O,O,O,O,O] au (h:=?_)
   refine ed 19 35 #[I,I,I,I,I,I,I,I,I,I,I,I,I,I,I,I,I,I,I,I,O,O,O,O,O,O,O] au (h:=?_)
   refine ed 20 36 #[I,I,I,I,I,I,I,I,I,I,I,I,I,I,I,I,I,I,I,I,I,O,O,O,O,O,O] au (h:=?_)
   refine gV (i:=21) (N:=some 37) (v:=undef) (a':=?_) #[I,I,I,I,I,I,I,I,I,I,I,I,I,I,I,I,I,I,I,I,I,I,O,O,O,O,O] rfl rfl (dI au.out (by kernel_rfl)) (λ_ _ _ h=>h) (Or.inr ⟨by rfl,rfl⟩) ?_ ?_
   rotate_left
   .simp only[Act.put,sb0,sb1,bR,cB,dX]
    rfl
   refine gV (i:=22) (N:=some 38) (v:=undef) (a':=?_) #[I,I,I,I,I,I,I,I,I,I,I,I,I,I,I,I,I,I,I,I,I,I,I,O,O,O,O] rfl rfl (dI au.out (by kernel_rfl)) (λ_ _ _ h=>h) (Or.inr ⟨by rfl,rfl⟩) ?_ ?_
   rotate_left
   .simp only[Act.put,sb0,sb1,bR,cB,dX]
    rfl
   refine gV (i:=23) (N:=some 39) (v:=undef) (a':=?_) #[I,I,I,I,I,I,I,I,I,I,I,I,I,I,I,I,I,I,I,I,I,I,I,I,O,O,O] rfl rfl (dI au.out (by kernel_rfl)) (λ_ _ _ h=>h) (Or.inr ⟨by rfl,rfl⟩) ?_ ?_
   rotate_left
   .simp only[Act.put,sb0,sb1,bR,cB,dX]
    rfl
   refine gV (i:=24) (N:=some 40) (v:=undef) (a':=?_) #[I,I,I,I,I,I,I,I,I,I,I,I,I,I,I,I,I,I,I,I,I,I,I,I,I,O,O] rfl rfl (dI au.out (by kernel_rfl)) (λ_ _ _ h=>h) (Or.inr ⟨by rfl,rfl⟩) ?_ ?_
   rotate_left
   .simp only[Act.put,sb0,sb1,bR,cB,dX]
    rfl
   refine ed 25 41 #[I,I,I,I,I,I,I,I,I,I,I,I,I,I,I,I,I,I,I,I,I,I,I,I,I,I,O] au (h:=?_)
   refine ed 26 7 #[I,I,I,I,I,I,I,I,I,I,I,I,I,I,I,I,I,I,I,I,I,I,I,I,I,I,I] au (h:=?_)
   refine xq (bP au.out (by kernel_rfl)) ?_
   gi_wp2_with fail
   go_ret
   exact⟨rfl,[],by rw[HV.out];rfl,by rw[List.append_nil];exact HST.out⟩
  .refine rZ (m:=27) (S:=λw'=>w'.cell? ⟨gc,0,none⟩=some (.slice Ac m c)/\w'.cell? ⟨gw,0,none⟩=some (.pointer (some ⟨gk,0,none⟩))/\w'.cell? ⟨gk,0,none⟩=some (.int .i64 base)/\w'.cell? ⟨gk,1,none⟩=some (.slice Ar rl cr)/\w'.cell? ⟨gk,2,none⟩=some (.slice Af fx.length cf)/\w'.cell? ⟨gr,0,none⟩=some (.int .i64 row)/\w'.cell? ⟨gy,0,none⟩=some (.func (.yield g) #[] #[])/\w'.cell? ⟨wK,0,none⟩=some (.func (.func 145) #[] #[.pointer (some ⟨gc,0,none⟩),.pointer (some ⟨gw,0,none⟩),.pointer (some ⟨gr,0,none⟩),.pointer (some ⟨gy,0,none⟩),.pointer (some ⟨wK,0,none⟩)])) (ds:=[24]) #[O,O,O,O,O,O,O,O,O,O,O,O,O,O,O,O,O,O,O,O,O,O,O,O,O,O,O] (by kernel_rfl) rfl rfl HST.out.st.now.reads (λhHeld=>?_);refine lC tY.DW tY.xP (λau cz=>?_)
   replace HST:=aa.mk (HST.out.drew HJ.out)
   generalize W.drew=wd at HST hHeld ⊢
   refine mY 0 16 #[I,O,O,O,O,O,O,O,O,O,O,O,O,O,O,O,O,O,O,O,O,O,O,O,O,O,O] au cz hHeld (hy:=by(rintro w' ⟨s0,s1,s2,s3,s4,s5,s6,s7⟩;go_simp;with_reducible rfl)) (h:=?_)
   refine ed 1 17 #[I,I,O,O,O,O,O,O,O,O,O,O,O,O,O,O,O,O,O,O,O,O,O,O,O,O,O] au (h:=?_)
   refine ed 2 18 #[I,I,I,O,O,O,O,O,O,O,O,O,O,O,O,O,O,O,O,O,O,O,O,O,O,O,O] au (h:=?_)
   refine mY 3 19 #[I,I,I,I,O,O,O,O,O,O,O,O,O,O,O,O,O,O,O,O,O,O,O,O,O,O,O] au cz hHeld (hy:=by(rintro w' ⟨s0,s1,s2,s3,s4,s5,s6,s7⟩;go_simp;with_reducible rfl)) (h:=?_)
   refine ed 4 20 #[I,I,I,I,I,O,O,O,O,O,O,O,O,O,O,O,O,O,O,O,O,O,O,O,O,O,O] au (h:=?_)
   refine mY 6 22 #[I,I,I,I,I,O,I,O,O,O,O,O,O,O,O,O,O,O,O,O,O,O,O,O,O,O,O] au cz hHeld (hy:=by(rintro w' ⟨s0,s1,s2,s3,s4,s5,s6,s7⟩;go_simp;with_reducible rfl)) (h:=?_)
   refine lq (i:=5) (N:=some 21) #[I,I,I,I,I,I,I,O,O,O,O,O,O,O,O,O,O,O,O,O,O,O,O,O,O,O,O] rfl rfl (aM au.out (by kernel_rfl)) (by decide) (λK hK=>?_)
   refine kS Tryz.func72 (by kernel_rfl) rfl #[.slice (some ⟨gl,0,none⟩) l.length m] (by rfl) rfl rfl (by(try simp only[List.map_toArray,List.map_cons,List.map_nil]);rfl) ?_
   refine(rY l.length l rfl _ HST.out.lb.C hle HLB.out (by omega)).mono ?_
   rintro e_ w_ ⟨rfl,hbx⟩
   refine⟨_,rfl,hK.out _ _ ((HST.out.below HJ.out hbx).st.now.reads) (λhHeld=>?_)⟩
   clear hK K
   replace HST:=aa.mk (HST.out.below HJ.out hbx)
   clear hbx
   refine gJ (by simp only[Act.put,sb0,sb1,bR];rfl) ?_
   refine lq (i:=7) (N:=some 23) #[I,I,I,I,I,I,I,I,O,O,O,O,O,O,O,O,O,O,O,O,O,O,O,O,O,O,O] rfl rfl (aM au.out (by kernel_rfl)) (by decide) (λK hK=>?_)
   refine kS Tryz.func72 (by kernel_rfl) rfl #[.slice Ac m c] (by rfl) rfl rfl (by(try simp only[List.map_toArray,List.map_cons,List.map_nil]);rfl) ?_
   refine(rY m cells HM.out _ HST.out.st.now.kc hmc (λx hx=>by have:=Pq.out x hx;omega) (by omega)).mono ?_
   rintro e_ w_ ⟨rfl,hbx⟩
   refine⟨_,rfl,hK.out _ _ ((HST.out.below HJ.out hbx).st.now.reads) (λhHeld=>?_)⟩
   clear hK K
   replace HST:=aa.mk (HST.out.below HJ.out hbx)
   clear hbx
   refine gJ (by simp only[Act.put,sb0,sb1,bR];rfl) ?_
   refine lq (i:=8) (N:=some 24) #[I,I,I,I,I,I,I,I,I,O,O,O,O,O,O,O,O,O,O,O,O,O,O,O,O,O,O] rfl rfl (aM au.out (by kernel_rfl)) (by decide) (λK hK=>?_)
   refine kS Tryz.func71 (by kernel_rfl) rfl #[.agg #[.int .i64 base,.slice Ar rl cr,.slice Af fx.length cf],.int .i64 l.sum,.int .i64 cells.sum] (by rfl) rfl rfl (by(try simp only[List.map_toArray,List.map_cons,List.map_nil]);rfl) ?_
   refine(HNR.out true HB1.out _).mono ?_
   rintro e_ w_ ⟨rfl,hbx⟩
   refine⟨_,rfl,hK.out _ _ ((HST.out.below HJ.out hbx).st.now.reads) (λhHeld=>?_)⟩
   clear hK K
   replace HST:=aa.mk (HST.out.below HJ.out hbx)
   clear hbx
   refine gJ (by simp only[Act.put,sb0,sb1,bR];rfl) ?_
   refine ed 9 25 #[I,I,I,I,I,I,I,I,I,I,O,O,O,O,O,O,O,O,O,O,O,O,O,O,O,O,O] au (h:=?_)
   refine ed 10 26 #[I,I,I,I,I,I,I,I,I,I,I,O,O,O,O,O,O,O,O,O,O,O,O,O,O,O,O] au (h:=?_)
   refine mY 11 27 #[I,I,I,I,I,I,I,I,I,I,I,I,O,O,O,O,O,O,O,O,O,O,O,O,O,O,O] au cz hHeld (hy:=by(rintro w' ⟨s0,s1,s2,s3,s4,s5,s6,s7⟩;go_simp;with_reducible rfl)) (h:=?_)
   refine ed 12 28 #[I,I,I,I,I,I,I,I,I,I,I,I,I,O,O,O,O,O,O,O,O,O,O,O,O,O,O] au (h:=?_)
   refine ed 13 29 #[I,I,I,I,I,I,I,I,I,I,I,I,I,I,O,O,O,O,O,O,O,O,O,O,O,O,O] au (h:=?_)
   refine mY 14 30 #[I,I,I,I,I,I,I,I,I,I,I,I,I,I,I,O,O,O,O,O,O,O,O,O,O,O,O] au cz hHeld (hy:=by(rintro w' ⟨s0,s1,s2,s3,s4,s5,s6,s7⟩;go_simp;with_reducible rfl)) (h:=?_)
   refine mY 15 31 #[I,I,I,I,I,I,I,I,I,I,I,I,I,I,I,I,O,O,O,O,O,O,O,O,O,O,O] au cz hHeld (hy:=by(rintro w' ⟨s0,s1,s2,s3,s4,s5,s6,s7⟩;go_simp;with_reducible rfl)) (h:=?_)
   refine ed 16 32 #[I,I,I,I,I,I,I,I,I,I,I,I,I,I,I,I,I,O,O,O,O,O,O,O,O,O,O] au (h:=?_)
   refine lq (i:=17) (N:=some 33) #[I,I,I,I,I,I,I,I,I,I,I,I,I,I,I,I,I,I,O,O,O,O,O,O,O,O,O] rfl rfl (aM au.out (by kernel_rfl)) (by decide) (λK hK=>?_)
   refine kS Tryz.func73 (by kernel_rfl) rfl #[.agg #[.int .i64 base,.slice Ar rl cr,.slice Af fx.length cf],.int .i64 row,.slice (some ⟨gl,0,none⟩) l.length m] (by rfl) rfl rfl (by(try simp only[List.map_toArray,List.map_cons,List.map_nil]);rfl) ?_
   refine(I7 true (.int .i64 base) (.slice Ar rl cr) row l HB2.out _ HST.out.st.now.kf hcf HST.out.lb.C (λf hf_ _=>by have:=HFX.out f hf_;omega) hf rfl rfl).mono ?_
   rintro e_ w_ ⟨rfl,hbx⟩
   refine⟨_,rfl,hK.out _ _ ((HST.out.below HJ.out hbx).st.now.reads) (λhHeld=>?_)⟩
   clear hK K
   replace HST:=aa.mk (HST.out.below HJ.out hbx)
   clear hbx
   refine gJ (by simp only[Act.put,sb0,sb1,bR];rfl) ?_
   refine ed 18 34 #[I,I,I,I,I,I,I,I,I,I,I,I,I,I,I,I,I,I,I,O,O,O,O,O,O,O,O] au (h:=?_)
   refine ed 19 35 #[I,I,I,I,I,I,I,I,I,I,I,I,I,I,I,I,I,I,I,I,O,O,O,O,O,O,O] au (h:=?_)
   refine ed 20 36 #[I,I,I,I,I,I,I,I,I,I,I,I,I,I,I,I,I,I,I,I,I,O,O,O,O,O,O] au (h:=?_)
   refine mY 21 37 #[I,I,I,I,I,I,I,I,I,I,I,I,I,I,I,I,I,I,I,I,I,I,O,O,O,O,O] au cz hHeld (hy:=by(rintro w' ⟨s0,s1,s2,s3,s4,s5,s6,s7⟩;go_simp;with_reducible rfl)) (h:=?_)
   refine ed 22 38 #[I,I,I,I,I,I,I,I,I,I,I,I,I,I,I,I,I,I,I,I,I,I,I,O,O,O,O] au (h:=?_)
   refine lq (i:=23) (N:=some 39) #[I,I,I,I,I,I,I,I,I,I,I,I,I,I,I,I,I,I,I,I,I,I,I,I,O,O,O] rfl rfl (aM au.out (by kernel_rfl)) (by decide) (λK hK=>?_)
   refine kS Tryz.func61 (by kernel_rfl) rfl #[.slice (some ⟨gl,0,none⟩) l.length m] (by rfl) rfl rfl (by(try simp only[List.map_toArray,List.map_cons,List.map_nil]);rfl) ?_
   refine(wh rfl _ HST.out.lb.C (by omega)).mono ?_
   rintro e_ w_ ⟨v_,rfl,hR,hbx⟩
   refine⟨_,rfl,hK.out _ _ ((HST.out.below HJ.out hbx).st.now.reads) (λhHeld=>?_)⟩
   clear hK K
   have HR:=aa.mk (Kd.dG hR HST.out.b0)
   replace HST:=aa.mk (HST.out.below HJ.out hbx)
   clear hbx
   clear hR
   obtain⟨Av,cv,hv_,-,-⟩:=Kd.dB HR.out
   subst hv_
   refine gJ (by simp only[Act.put,sb0,sb1,bR];rfl) ?_
   refine wX (i:=24) (N:=some 40) #[I,I,I,I,I,I,I,I,I,I,I,I,I,I,I,I,I,I,I,I,I,I,I,I,I,O,O] rfl rfl (aM au.out (by kernel_rfl)) (by decide) (λK hK=>?_)
   refine Qi #[.slice Av l.length cv] (by rfl) rfl rfl (by rfl) (by(try simp only[List.map_toArray,List.map_cons,List.map_nil]);rfl) (YieldAt.mono (HY.out pre (l,Av,cv) _ HST.out.j ⟨HR.out,IG.out l (by rw[HV.out];simp),HST.out.b0⟩ (by have:=HN.out;rw[HV.out] at this;simp at this;omega)) ?_)
   rintro e_ w_ ⟨rfl,hj,hk⟩
   have hback:=HST.out.back hj (hk.mono (Nat.le_refl _) (λ_ _ h=> .inl h)) (HST.out.lb.move (hk.block gl HST.out.lb.lt HSG.out))
   refine⟨_,rfl,hK.out _ _ ?_⟩
   clear hK K
   replace HST:=aa.mk hback
   clear hback hj hk
   refine gJ (by simp only[Act.put,sb0,sb1,bR];rfl) ?_
   refine ed 25 41 #[I,I,I,I,I,I,I,I,I,I,I,I,I,I,I,I,I,I,I,I,I,I,I,I,I,I,O] au (h:=?_)
   refine ed 26 7 #[I,I,I,I,I,I,I,I,I,I,I,I,I,I,I,I,I,I,I,I,I,I,I,I,I,I,I] au (h:=?_)
   refine xq (bP au.out (by kernel_rfl)) ?_
   gi_wp2_with fail
   go_ret
   exact⟨rfl,[(l,Av,cv)],by rw[HV.out];rfl,HST.out⟩
 |cons n rest ih=>
  intro l done k pre W hcd hdk hlk hlb hall hN hST
  obtain rfl:=hlk
  have hlen:done.length+(rest.length+1)=m:=by rw[<- hm,hcd,List.length_append,List.length_cons]
  have hlt:l.length<m:=by omega
  have hkm:((l.length:Int)==(m:Int))=false:=by simpa using (show(l.length:Int)≠(m:Int) by omega)
  have Yt:rd cells (l.length:Int)=n:=by
   show cells.getD (l.length:Int).toNat 0=n
   rw[Int.toNat_natCast,<- hdk,hcd,List.getD_eq_getElem?_getD,List.getElem?_append_right (Nat.le_refl _),Nat.sub_self]
   rfl
  have hnb:=Pq.out n (by rw[hcd];simp)
  obtain⟨low,hlow⟩:∃y,iR base n=y:=⟨_,rfl⟩
  obtain⟨high,hhigh⟩:∃y,lJ base n=y:=⟨_,rfl⟩
  have hlr:=mO (n:=n) hb
  have hhr:=wC (n:=n) hb
  have hl0:0<=iR base n:=by
   unfold iR
   have h1:=Int.mul_ediv_add_emod n base
   have h2:=Int.mul_nonneg (show 0<=base by omega) (Int.ediv_nonneg hnb.1 (show 0<=base by omega))
   omega
  rw[hlow] at hlr hl0
  rw[hhigh] at hhr
  have hV:dF base (zl base cells fx row) (n::rest) l=dF base (zl base cells fx row) rest (l++[low])++if low=high then [] else dF base (zl base cells fx row) rest (l++[high]):=by
   rw[<- hlow,<- hhigh]
   rfl
  rw[hV] at hall hN ⊢
  obtain⟨v1,hv1⟩:∃v,dF base (zl base cells fx row) rest (l++[low])=v:=⟨_,rfl⟩
  obtain⟨v2,hv2⟩:∃v,dF base (zl base cells fx row) rest (l++[high])=v:=⟨_,rfl⟩
  rw[hv1,hv2] at hall hN ⊢
  have HI1:=aa.mk (λpre W hN hS=>by
   have:=ih (l++[low]) (done++[n]) (l.length+1) pre W (by rw[hcd];simp) (by simp;omega) (by simp) (λx hx=>by
    rcases List.mem_append.1 hx with h|h
    .exact hlb x h
    .rw[List.mem_singleton.1 h];omega) (λx hx=>hall x (List.mem_append_left _ (by rw[<- hv1];exact hx))) (by rw[hv1];exact hN) hS
   rw[hv1] at this
   exact this:∀pre W,pre.length+v1.length<=N->o9 (λb=>S b\/b=gl) (rV gc gw gr gy wK gk g m c cr cf rl Ac Ar Af cells base row fx vm) J gl m B0 (l++[low]) pre W W->Calls Tryz.prog 145 #[.slice (some ⟨gl,0,none⟩) (l.length+1) m,.pointer (some ⟨gc,0,none⟩),.pointer (some ⟨gw,0,none⟩),.pointer (some ⟨gr,0,none⟩),.pointer (some ⟨gy,0,none⟩),.pointer (some ⟨wK,0,none⟩)] W λe W'=>e= .returned (.bool true)/\∃ys,ys.map (·.1)=v1/\o9 (λb=>S b\/b=gl) (rV gc gw gr gy wK gk g m c cr cf rl Ac Ar Af cells base row fx vm) J gl m B0 (l++[low]) (pre++ys) W W')
  have HI2:=aa.mk (λhne pre W hN hS=>by
   have:=ih (l++[high]) (done++[n]) (l.length+1) pre W (by rw[hcd];simp) (by simp;omega) (by simp) (λx hx=>by
    rcases List.mem_append.1 hx with h|h
    .exact hlb x h
    .rw[List.mem_singleton.1 h];omega) (λx hx=>hall x (List.mem_append_right _ (by rw[if_neg hne,<- hv2];exact hx))) (by rw[hv2];exact hN) hS
   rw[hv2] at this
   exact this:low≠high->∀pre W,pre.length+v2.length<=N->o9 (λb=>S b\/b=gl) (rV gc gw gr gy wK gk g m c cr cf rl Ac Ar Af cells base row fx vm) J gl m B0 (l++[high]) pre W W->Calls Tryz.prog 145 #[.slice (some ⟨gl,0,none⟩) (l.length+1) m,.pointer (some ⟨gc,0,none⟩),.pointer (some ⟨gw,0,none⟩),.pointer (some ⟨gr,0,none⟩),.pointer (some ⟨gy,0,none⟩),.pointer (some ⟨wK,0,none⟩)] W λe W'=>e= .returned (.bool true)/\∃ys,ys.map (·.1)=v2/\o9 (λb=>S b\/b=gl) (rV gc gw gr gy wK gk g m c cr cf rl Ac Ar Af cells base row fx vm) J gl m B0 (l++[high]) (pre++ys) W W')
  have HBL:=aa.mk (show ∀w,Calls _ _ _ w _ from λw=>Ry base n low hlow (.slice Ar rl cr) (.slice Af fx.length cf) w hb hb1 (by omega) (by omega))
  have HAB:=aa.mk (show ∀w,Calls _ _ _ w _ from λw=>RL base n high hhigh (.slice Ar rl cr) (.slice Af fx.length cf) w hb hb1 (by omega) (by omega))
  obtain⟨vv,hvv⟩:∃v,v1++(if low=high then [] else v2)=v:=⟨_,rfl⟩
  have HVV:=aa.mk hvv
  have HN:=aa.mk hN
  have HST:=aa.mk hST
  rw[hvv]
  clear hvv ih hall hN hST hv1 hv2 hV hlow hhigh hhr hlr hl0 hcd hdk hlen hlb hm
  refine callsIn_wide.1 (callsIn_of_wp (F:=Fence.wide) (n:=9) Tryz.func145 rfl trivial ?_ rfl)
  simp only[Tryz.ntmps145,List.size_toArray,List.length_cons,List.length_nil,Nat.reduceAdd,Nat.reduceSub,Array.replicate_succ,Array.replicate_zero,List.push_toArray,List.append_toArray,List.nil_append,List.cons_append]
  have h1:=HST.out.st.now.c
  obtain⟨ad,e,h2⟩:=Kd.gu HST.out.st.now.kc (l.length:Int) (by omega) (by omega)
  cases e
  rw[Int.toNat_natCast,Yt] at h2
  have hlt2:(l.length:Int)<(m:Int):=by omega
  clear Yt
  gi_wp2_with fail
  clear h1 h2
  refine rZ (m:=14) (S:=λw'=>w'.cell? ⟨gc,0,none⟩=some (.slice (some ad) m c)/\w'.cell? ⟨gw,0,none⟩=some (.pointer (some ⟨gk,0,none⟩))/\w'.cell? ⟨gk,0,none⟩=some (.int .i64 base)/\w'.cell? ⟨gk,1,none⟩=some (.slice Ar rl cr)/\w'.cell? ⟨gk,2,none⟩=some (.slice Af fx.length cf)/\w'.cell? ⟨gr,0,none⟩=some (.int .i64 row)/\w'.cell? ⟨gy,0,none⟩=some (.func (.yield g) #[] #[])/\w'.cell? ⟨wK,0,none⟩=some (.func (.func 145) #[] #[.pointer (some ⟨gc,0,none⟩),.pointer (some ⟨gw,0,none⟩),.pointer (some ⟨gr,0,none⟩),.pointer (some ⟨gy,0,none⟩),.pointer (some ⟨wK,0,none⟩)])) (ds:=[11]) #[O,O,O,O,O,O,O,O,O,O,O,O,O,O] (by kernel_rfl) rfl rfl HST.out.st.now.reads (λhHeld=>?_);refine lC tY.MC tY.Fj (λau cz=>?_)
  replace HST:=aa.mk (HST.out.drew HJ.out)
  generalize W.drew=wd at HST hHeld ⊢
  refine mY 0 47 #[I,O,O,O,O,O,O,O,O,O,O,O,O,O] au cz hHeld (hy:=by(rintro w' ⟨s0,s1,s2,s3,s4,s5,s6,s7⟩;go_simp;with_reducible rfl)) (h:=?_)
  refine ed 1 48 #[I,I,O,O,O,O,O,O,O,O,O,O,O,O] au (h:=?_)
  refine ed 2 49 #[I,I,I,O,O,O,O,O,O,O,O,O,O,O] au (h:=?_)
  refine mY 3 50 #[I,I,I,I,O,O,O,O,O,O,O,O,O,O] au cz hHeld (hy:=by(rintro w' ⟨s0,s1,s2,s3,s4,s5,s6,s7⟩;go_simp;with_reducible rfl)) (h:=?_)
  refine ed 4 51 #[I,I,I,I,I,O,O,O,O,O,O,O,O,O] au (h:=?_)
  refine mY 6 53 #[I,I,I,I,I,O,I,O,O,O,O,O,O,O] au cz hHeld (hy:=by(rintro w' ⟨s0,s1,s2,s3,s4,s5,s6,s7⟩;go_simp;with_reducible rfl)) (h:=?_)
  refine ed 7 54 #[I,I,I,I,I,O,I,I,O,O,O,O,O,O] au (h:=?_)
  refine ed 8 55 #[I,I,I,I,I,O,I,I,I,O,O,O,O,O] au (h:=?_)
  refine mY 9 56 #[I,I,I,I,I,O,I,I,I,I,O,O,O,O] au cz hHeld (hy:=by(rintro w' ⟨s0,s1,s2,s3,s4,s5,s6,s7⟩;go_simp;with_reducible rfl)) (h:=?_)
  refine ed 10 57 #[I,I,I,I,I,O,I,I,I,I,I,O,O,O] au (h:=?_)
  refine lq (i:=5) (N:=some 52) #[I,I,I,I,I,I,I,I,I,I,I,O,O,O] rfl rfl (aM au.out (by kernel_rfl)) (by decide) (λK hK=>?_)
  refine kS Tryz.func146 (by kernel_rfl) rfl #[.agg #[.int .i64 base,.slice Ar rl cr,.slice Af fx.length cf],.int .i64 n] (by rfl) rfl rfl (by(try simp only[List.map_toArray,List.map_cons,List.map_nil]);rfl) ?_
  refine(HBL.out _).mono ?_
  rintro e_ w_ ⟨rfl,hbx⟩
  refine⟨_,rfl,hK.out _ _ ((HST.out.below HJ.out hbx).st.now.reads) (λhHeld=>?_)⟩
  clear hK K
  replace HST:=aa.mk (HST.out.below HJ.out hbx)
  clear hbx
  refine gJ (by simp only[Act.put,sb0,sb1,bR];rfl) ?_
  refine wX (i:=11) (N:=some 58) #[I,I,I,I,I,I,I,I,I,I,I,I,O,O] rfl rfl (aM au.out (by kernel_rfl)) (by decide) (λK hK=>?_)
  refine kS Tryz.func147 (by kernel_rfl) rfl #[.agg #[.int .i64 base,.slice Ar rl cr,.slice Af fx.length cf],.int .i64 n] (by rfl) rfl rfl (by(try simp only[List.map_toArray,List.map_cons,List.map_nil]);rfl) ?_
  refine(HAB.out _).mono ?_
  rintro e_ w_ ⟨rfl,hbx⟩
  refine⟨_,rfl,hK.out _ _ ?_⟩
  clear hK K
  replace HST:=aa.mk (HST.out.below HJ.out hbx)
  clear hbx
  refine gJ (by simp only[Act.put,sb0,sb1,bR];rfl) ?_
  refine ed 12 9 #[I,I,I,I,I,I,I,I,I,I,I,I,I,O] au (h:=?_)
  refine ed 13 10 #[I,I,I,I,I,I,I,I,I,I,I,I,I,I] au (h:=?_)
  refine xq (bP au.out (by kernel_rfl)) ?_
  gi_wp2_with fail
  by_cases hlh:low=high
  .have aew:(low==high)=true:=by simpa using hlh
   have HLH:=aa.mk hlh
   clear hlh
   refine rZ (m:=20) (S:=λw'=>w'.cell? ⟨wK,0,none⟩=some (.func (.func 145) #[] #[.pointer (some ⟨gc,0,none⟩),.pointer (some ⟨gw,0,none⟩),.pointer (some ⟨gr,0,none⟩),.pointer (some ⟨gy,0,none⟩),.pointer (some ⟨wK,0,none⟩)])) (ds:=[5]) #[O,O,O,O,O,O,O,O,O,O,O,O,O,O,O,O,O,O,O,O] (by kernel_rfl) rfl rfl HST.out.st.now.h (λhHeld=>?_);refine lC tY.yV tY.rP (λau cz=>?_)
   replace HST:=aa.mk (HST.out.drew HJ.out)
   generalize World.drew _=wd at HST hHeld ⊢
   refine mY 0 59 #[I,O,O,O,O,O,O,O,O,O,O,O,O,O,O,O,O,O,O,O] au cz hHeld (hy:=by(rintro w' s0;go_simp;with_reducible rfl)) (h:=?_)
   refine ed 1 60 #[I,I,O,O,O,O,O,O,O,O,O,O,O,O,O,O,O,O,O,O] au (h:=?_)
   refine ed 2 61 #[I,I,I,O,O,O,O,O,O,O,O,O,O,O,O,O,O,O,O,O] au (h:=?_)
   refine lq (i:=3) (N:=some 62) #[I,I,I,I,O,O,O,O,O,O,O,O,O,O,O,O,O,O,O,O] rfl rfl (aM au.out (by kernel_rfl)) (by decide) (λK hK=>?_)
   refine yA (w1:=?_) (v:=?_) (by rfl) rfl ?_ ?_
   rotate_left 2
   .go_simp
    constructor<;>rfl
   refine hK.out _ _ ((HST.out.below HJ.out (ae (Below.refl _ _) (.cells #[.int .i64 low] 3))).st.now.h) (λhHeld=>?_)
   clear hK K
   have hcs:=(aV.new wd [.int .i64 low] 3).cell 0
   simp only[List.getElem?_cons_zero] at hcs
   replace HST:=aa.mk (HST.out.below HJ.out (ae (Below.refl _ _) (.cells #[.int .i64 low] 3)))
   generalize hgs:wd.heap.size=gs at hcs ⊢
   clear hgs
   generalize wd.alloc (.cells #[.int .i64 low] 3)=we at hcs HST hHeld ⊢
   refine gJ (by simp only[Act.put,sb0,sb1,bR];rfl) ?_
   refine lq (i:=4) (N:=some 63) #[I,I,I,I,I,O,O,O,O,O,O,O,O,O,O,O,O,O,O,O] rfl rfl (aM au.out (by kernel_rfl)) (by decide) (λK hK=>?_)
   have hsp:=HST.out.lb.spare hlt
   refine OW (.tmp 60) (.tmp 62) 30 (by rfl) rfl rfl 3 Tryz.underlying30 sM gl l.length m (by rfl) ⟨gs,0,none⟩ low (by rfl) hcs (by omega) hsp.1 hsp.2 ?_
   have hset:=HST.out.set HJ.out hlo (.inr rfl) hlt low
   refine hK.out _ _ hset.st.now.h (λhHeld=>?_)
   clear hK K hcs hsp
   replace HST:=aa.mk hset
   clear hset
   generalize we.setCell ⟨gl,l.length,none⟩ (.int .i64 low)=wf at HST hHeld ⊢
   refine gJ (by simp only[Act.put,sb0,sb1,bR];rfl) ?_
   refine wX (i:=5) (N:=some 64) #[I,I,I,I,I,I,O,O,O,O,O,O,O,O,O,O,O,O,O,O] rfl rfl (aM au.out (by kernel_rfl)) (by decide) (λK hK=>?_)
   refine Dg Tryz.func145 (by kernel_rfl) rfl #[.slice (some ⟨gl,0,none⟩) (l.length+1) m] (by rfl) rfl rfl (by rfl) (by(try simp only[List.map_toArray,List.map_cons,List.map_nil]);rfl) ?_
   simp only[List.append_toArray,List.cons_append,List.nil_append]
   refine(HI1.out pre wf (by have:=HN.out;simp only[List.length_append] at this;omega) HST.out.fresh).mono ?_
   rintro e_ w_ ⟨rfl,ys,yg,iD⟩
   have hback:=HST.out.back iD.j iD.kw iD.lb.pre
   refine⟨_,rfl,hK.out _ _ ?_⟩
   clear hK K
   have Xm:=aa.mk yg
   replace HST:=aa.mk hback
   clear hback yg iD
   refine gJ (by simp only[Act.put,sb0,sb1,bR];rfl) ?_
   refine ed 6 65 #[I,I,I,I,I,I,I,O,O,O,O,O,O,O,O,O,O,O,O,O] au (h:=?_)
   refine ed 7 66 #[I,I,I,I,I,I,I,I,O,O,O,O,O,O,O,O,O,O,O,O] au (h:=?_)
   refine ed 8 67 #[I,I,I,I,I,I,I,I,I,O,O,O,O,O,O,O,O,O,O,O] au (h:=?_)
   refine ed 9 68 #[I,I,I,I,I,I,I,I,I,I,O,O,O,O,O,O,O,O,O,O] au (h:=?_)
   refine ed 10 69 #[I,I,I,I,I,I,I,I,I,I,I,O,O,O,O,O,O,O,O,O] au (h:=?_)
   refine gV (i:=11) (N:=some 70) (v:=undef) (a':=?_) #[I,I,I,I,I,I,I,I,I,I,I,I,O,O,O,O,O,O,O,O] rfl rfl (dI au.out (by kernel_rfl)) (λ_ _ _ h=>h) (Or.inr ⟨by rfl,rfl⟩) ?_ ?_
   rotate_left
   .simp only[Act.put,sb0,sb1,bR,cB,dX]
    rfl
   refine gV (i:=12) (N:=some 71) (v:=undef) (a':=?_) #[I,I,I,I,I,I,I,I,I,I,I,I,I,O,O,O,O,O,O,O] rfl rfl (dI au.out (by kernel_rfl)) (λ_ _ _ h=>h) (Or.inr ⟨by rfl,rfl⟩) ?_ ?_
   rotate_left
   .simp only[Act.put,sb0,sb1,bR,cB,dX]
    rfl
   refine gV (i:=13) (N:=some 72) (v:=undef) (a':=?_) #[I,I,I,I,I,I,I,I,I,I,I,I,I,I,O,O,O,O,O,O] rfl rfl (dI au.out (by kernel_rfl)) (λ_ _ _ h=>h) (Or.inr ⟨by rfl,rfl⟩) ?_ ?_
   rotate_left
   .simp only[Act.put,sb0,sb1,bR,cB,dX]
    rfl
   refine gV (i:=14) (N:=some 73) (v:=undef) (a':=?_) #[I,I,I,I,I,I,I,I,I,I,I,I,I,I,I,O,O,O,O,O] rfl rfl (dI au.out (by kernel_rfl)) (λ_ _ _ h=>h) (Or.inr ⟨by rfl,rfl⟩) ?_ ?_
   rotate_left
   .simp only[Act.put,sb0,sb1,bR,cB,dX]
    rfl
   refine gV (i:=15) (N:=some 74) (v:=undef) (a':=?_) #[I,I,I,I,I,I,I,I,I,I,I,I,I,I,I,I,O,O,O,O] rfl rfl (dI au.out (by kernel_rfl)) (λ_ _ _ h=>h) (Or.inr ⟨by rfl,rfl⟩) ?_ ?_
   rotate_left
   .simp only[Act.put,sb0,sb1,bR,cB,dX]
    rfl
   refine gV (i:=16) (N:=some 75) (v:=undef) (a':=?_) #[I,I,I,I,I,I,I,I,I,I,I,I,I,I,I,I,I,O,O,O] rfl rfl (dI au.out (by kernel_rfl)) (λ_ _ _ h=>h) (Or.inr ⟨by rfl,rfl⟩) ?_ ?_
   rotate_left
   .simp only[Act.put,sb0,sb1,bR,cB,dX]
    rfl
   refine ed 17 76 #[I,I,I,I,I,I,I,I,I,I,I,I,I,I,I,I,I,I,O,O] au (h:=?_)
   refine ed 18 77 #[I,I,I,I,I,I,I,I,I,I,I,I,I,I,I,I,I,I,I,O] au (h:=?_)
   refine ed 19 7 #[I,I,I,I,I,I,I,I,I,I,I,I,I,I,I,I,I,I,I,I] au (h:=?_)
   refine xq (bP au.out (by kernel_rfl)) ?_
   gi_wp2_with fail
   go_ret
   exact⟨rfl,ys,by rw[<- HVV.out,if_pos HLH.out,List.append_nil];exact Xm.out,HST.out⟩
  .have aew:(low==high)=false:=by simpa using hlh
   have HLH:=aa.mk hlh
   clear hlh
   refine rZ (m:=20) (S:=λw'=>w'.cell? ⟨wK,0,none⟩=some (.func (.func 145) #[] #[.pointer (some ⟨gc,0,none⟩),.pointer (some ⟨gw,0,none⟩),.pointer (some ⟨gr,0,none⟩),.pointer (some ⟨gy,0,none⟩),.pointer (some ⟨wK,0,none⟩)])) (ds:=[16]) #[O,O,O,O,O,O,O,O,O,O,O,O,O,O,O,O,O,O,O,O] (by kernel_rfl) rfl rfl HST.out.st.now.h (λhHeld=>?_);refine lC tY.yV tY.rP (λau cz=>?_)
   replace HST:=aa.mk (HST.out.drew HJ.out)
   generalize World.drew _=wd at HST hHeld ⊢
   refine mY 0 59 #[I,O,O,O,O,O,O,O,O,O,O,O,O,O,O,O,O,O,O,O] au cz hHeld (hy:=by(rintro w' s0;go_simp;with_reducible rfl)) (h:=?_)
   refine ed 1 60 #[I,I,O,O,O,O,O,O,O,O,O,O,O,O,O,O,O,O,O,O] au (h:=?_)
   refine ed 2 61 #[I,I,I,O,O,O,O,O,O,O,O,O,O,O,O,O,O,O,O,O] au (h:=?_)
   refine lq (i:=3) (N:=some 62) #[I,I,I,I,O,O,O,O,O,O,O,O,O,O,O,O,O,O,O,O] rfl rfl (aM au.out (by kernel_rfl)) (by decide) (λK hK=>?_)
   refine yA (w1:=?_) (v:=?_) (by rfl) rfl ?_ ?_
   rotate_left 2
   .go_simp
    constructor<;>rfl
   refine hK.out _ _ ((HST.out.below HJ.out (ae (Below.refl _ _) (.cells #[.int .i64 low] 3))).st.now.h) (λhHeld=>?_)
   clear hK K
   have hcs:=(aV.new wd [.int .i64 low] 3).cell 0
   simp only[List.getElem?_cons_zero] at hcs
   replace HST:=aa.mk (HST.out.below HJ.out (ae (Below.refl _ _) (.cells #[.int .i64 low] 3)))
   generalize hgs:wd.heap.size=gs at hcs ⊢
   clear hgs
   generalize wd.alloc (.cells #[.int .i64 low] 3)=we at hcs HST hHeld ⊢
   refine gJ (by simp only[Act.put,sb0,sb1,bR];rfl) ?_
   refine lq (i:=4) (N:=some 63) #[I,I,I,I,I,O,O,O,O,O,O,O,O,O,O,O,O,O,O,O] rfl rfl (aM au.out (by kernel_rfl)) (by decide) (λK hK=>?_)
   have hsp:=HST.out.lb.spare hlt
   refine OW (.tmp 60) (.tmp 62) 30 (by rfl) rfl rfl 3 Tryz.underlying30 sM gl l.length m (by rfl) ⟨gs,0,none⟩ low (by rfl) hcs (by omega) hsp.1 hsp.2 ?_
   have hset:=HST.out.set HJ.out hlo (.inr rfl) hlt low
   refine hK.out _ _ hset.st.now.h (λhHeld=>?_)
   clear hK K hcs hsp
   replace HST:=aa.mk hset
   clear hset
   generalize we.setCell ⟨gl,l.length,none⟩ (.int .i64 low)=wf at HST hHeld ⊢
   refine gJ (by simp only[Act.put,sb0,sb1,bR];rfl) ?_
   refine lq (i:=5) (N:=some 64) #[I,I,I,I,I,I,O,O,O,O,O,O,O,O,O,O,O,O,O,O] rfl rfl (aM au.out (by kernel_rfl)) (by decide) (λK hK=>?_)
   refine Dg Tryz.func145 (by kernel_rfl) rfl #[.slice (some ⟨gl,0,none⟩) (l.length+1) m] (by rfl) rfl rfl (by rfl) (by(try simp only[List.map_toArray,List.map_cons,List.map_nil]);rfl) ?_
   simp only[List.append_toArray,List.cons_append,List.nil_append]
   refine(HI1.out pre wf (by have:=HN.out;simp only[List.length_append] at this;omega) HST.out.fresh).mono ?_
   rintro e_ w_ ⟨rfl,ys,yg,iD⟩
   have hback:=HST.out.back iD.j iD.kw iD.lb.pre
   refine⟨_,rfl,hK.out _ _ hback.st.now.h (λhHeld=>?_)⟩
   clear hK K
   have Xm:=aa.mk yg
   replace HST:=aa.mk hback
   clear hback yg iD
   generalize w_=wd at HST hHeld ⊢
   refine gJ (by simp only[Act.put,sb0,sb1,bR];rfl) ?_
   refine ed 6 65 #[I,I,I,I,I,I,I,O,O,O,O,O,O,O,O,O,O,O,O,O] au (h:=?_)
   refine ed 7 66 #[I,I,I,I,I,I,I,I,O,O,O,O,O,O,O,O,O,O,O,O] au (h:=?_)
   refine ed 8 67 #[I,I,I,I,I,I,I,I,I,O,O,O,O,O,O,O,O,O,O,O] au (h:=?_)
   refine ed 9 68 #[I,I,I,I,I,I,I,I,I,I,O,O,O,O,O,O,O,O,O,O] au (h:=?_)
   refine ed 10 69 #[I,I,I,I,I,I,I,I,I,I,I,O,O,O,O,O,O,O,O,O] au (h:=?_)
   refine mY 11 70 #[I,I,I,I,I,I,I,I,I,I,I,I,O,O,O,O,O,O,O,O] au cz hHeld (hy:=by(rintro w' s0;go_simp;with_reducible rfl)) (h:=?_)
   refine ed 12 71 #[I,I,I,I,I,I,I,I,I,I,I,I,I,O,O,O,O,O,O,O] au (h:=?_)
   refine ed 13 72 #[I,I,I,I,I,I,I,I,I,I,I,I,I,I,O,O,O,O,O,O] au (h:=?_)
   refine lq (i:=14) (N:=some 73) #[I,I,I,I,I,I,I,I,I,I,I,I,I,I,I,O,O,O,O,O] rfl rfl (aM au.out (by kernel_rfl)) (by decide) (λK hK=>?_)
   refine yA (w1:=?_) (v:=?_) (by rfl) rfl ?_ ?_
   rotate_left 2
   .go_simp
    constructor<;>rfl
   refine hK.out _ _ ((HST.out.below HJ.out (ae (Below.refl _ _) (.cells #[.int .i64 high] 3))).st.now.h) (λhHeld=>?_)
   clear hK K
   have hcs:=(aV.new wd [.int .i64 high] 3).cell 0
   simp only[List.getElem?_cons_zero] at hcs
   replace HST:=aa.mk (HST.out.below HJ.out (ae (Below.refl _ _) (.cells #[.int .i64 high] 3)))
   generalize hgs:wd.heap.size=gs at hcs ⊢
   clear hgs
   generalize wd.alloc (.cells #[.int .i64 high] 3)=we at hcs HST hHeld ⊢
   refine gJ (by simp only[Act.put,sb0,sb1,bR];rfl) ?_
   refine lq (i:=15) (N:=some 74) #[I,I,I,I,I,I,I,I,I,I,I,I,I,I,I,I,O,O,O,O] rfl rfl (aM au.out (by kernel_rfl)) (by decide) (λK hK=>?_)
   have hsp:=HST.out.lb.spare hlt
   refine OW (.tmp 71) (.tmp 73) 30 (by rfl) rfl rfl 3 Tryz.underlying30 sM gl l.length m (by rfl) ⟨gs,0,none⟩ high (by rfl) hcs (by omega) hsp.1 hsp.2 ?_
   have hset:=HST.out.set HJ.out hlo (.inr rfl) hlt high
   refine hK.out _ _ hset.st.now.h (λhHeld=>?_)
   clear hK K hcs hsp
   replace HST:=aa.mk hset
   clear hset
   generalize we.setCell ⟨gl,l.length,none⟩ (.int .i64 high)=wf at HST hHeld ⊢
   refine gJ (by simp only[Act.put,sb0,sb1,bR];rfl) ?_
   refine wX (i:=16) (N:=some 75) #[I,I,I,I,I,I,I,I,I,I,I,I,I,I,I,I,I,O,O,O] rfl rfl (aM au.out (by kernel_rfl)) (by decide) (λK hK=>?_)
   refine Dg Tryz.func145 (by kernel_rfl) rfl #[.slice (some ⟨gl,0,none⟩) (l.length+1) m] (by rfl) rfl rfl (by rfl) (by(try simp only[List.map_toArray,List.map_cons,List.map_nil]);rfl) ?_
   simp only[List.append_toArray,List.cons_append,List.nil_append]
   refine(HI2.out HLH.out (pre++ys) wf (by have:=HN.out;have hy1:=congrArg List.length Xm.out;rw[if_neg HLH.out] at this;simp only[List.length_append,List.length_map] at this hy1 ⊢;omega) HST.out.fresh).mono ?_
   rintro e_ w_ ⟨rfl,ys2,yg,iD⟩
   have hback:=HST.out.back iD.j iD.kw iD.lb.pre
   refine⟨_,rfl,hK.out _ _ ?_⟩
   clear hK K
   have agb:=aa.mk yg
   replace HST:=aa.mk hback
   clear hback yg iD
   refine gJ (by simp only[Act.put,sb0,sb1,bR];rfl) ?_
   refine ed 17 76 #[I,I,I,I,I,I,I,I,I,I,I,I,I,I,I,I,I,I,O,O] au (h:=?_)
   refine ed 18 77 #[I,I,I,I,I,I,I,I,I,I,I,I,I,I,I,I,I,I,I,O] au (h:=?_)
   refine ed 19 7 #[I,I,I,I,I,I,I,I,I,I,I,I,I,I,I,I,I,I,I,I] au (h:=?_)
   refine xq (bP au.out (by kernel_rfl)) ?_
   gi_wp2_with fail
   go_ret
   exact⟨rfl,ys++ys2,by rw[<- HVV.out,if_neg HLH.out,List.map_append,Xm.out,agb.out],by rw[<- List.append_assoc];exact HST.out⟩
end Go.Proofs.YtdekaocdmjndaaaGreat
