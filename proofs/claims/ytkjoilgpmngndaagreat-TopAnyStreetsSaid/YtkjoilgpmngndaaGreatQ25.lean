import Derived.Laws.Cover3
import Derived.OwnWalkIn
import Derived.Test.YtkjoilgpmngndaaGreatQ24
set_option linter.all false
namespace Go.Proofs.YtkjoilgpmngndaaGreat
open Go.RowKit Go.Shelf Go.Proofs.YtkjoilgpmngndaaGreat.av Go.Proofs.YtkjoilgpmngndaaGreatW.aA Go.Proofs.YtkjoilgpmngndaaGreatW.aJ
attribute [local go_sem] Oper.semAt_some
def tQ.T2:Bool×List (List Nat×List Nat):=(true,[([],[]),([0],[0]),([1],[1]),([2],[2]),([],[]),([4],[4]),([],[]),([6,5],[6]),([3,5,7,7],[3,5,7]),([8],[8]),([9,8],[9]),([10],[10]),([11,10],[10,11]),([12,10],[10,12]),([13,10],[10,13]),([10],[10]),([10],[10]),([14,15,16,10,10],[10,14,15,16]),([17,10],[10,17]),([10,18],[10,18]),([19,17],[19]),([20],[20]),([20],[20]),([22,20,20],[20,22]),([21,23,23,20],[20,21,23]),([20,24],[20,24]),([25,24,0,1,2,3,4,5,6,7,8,9,10,11,12,13,14,15,16,17,18,19,20,21,22,23,24,25],[25])])
def tQ.B2:List Nat:=[0,1,3,7,0,16,0,112,255,511,1023,2047,4095,8191,16383,2047,2047,131071,262143,524287,1048575,2097151,2097151,6291455,16777215,33554431,67108863]
theorem tQ.Pm:eu .any (opsOf Tryz.f151 2)=tQ.T2:=by kernel_rfl
theorem tQ.Dr:bO tQ.T2.2 tQ.B2=true:=by kernel_rfl
def tQ.T4:Bool×List (List Nat×List Nat):=(true,[([],[]),([0],[0]),([1],[1]),([2],[2]),([],[]),([3,4],[3,4]),([],[]),([6],[6]),([7],[7]),([8],[8]),([],[]),([9,10,5],[9,10]),([5,11,0,1,2,3,4,5],[5]),([11,12,0,1,2,3,4,5,6,7,8,9,10,11,12],[11])])
def tQ.B4:List Nat:=[0,1,3,7,0,31,0,64,192,448,0,2047,4095,8191]
theorem tQ.Lv:eu .any (opsOf Tryz.f151 4)=tQ.T4:=by kernel_rfl
theorem tQ.Bi:bO tQ.T4.2 tQ.B4=true:=by kernel_rfl
def tQ.T5:Bool×List (List Nat×List Nat):=(true,[([],[]),([],[]),([],[]),([2],[2]),([1,3],[1,3]),([0,4,4],[0,4]),([5,5],[5]),([6],[6]),([6],[6]),([7,8,6],[6,7,8]),([9,6,6],[6,9]),([10],[10]),([10],[10]),([10],[10]),([13,10],[10,13]),([12,14,10,10],[10,12,14]),([11,15,15,10],[10,11,15]),([10,16,6],[6,10,16]),([6,17],[6,17]),([18,16,0,1,2,3,4,5,6,7,8,9,10,11,12,13,14,15,16,17,18],[18])])
def tQ.B5:List Nat:=[0,0,0,4,14,31,63,127,127,511,1023,2047,2047,2047,10239,30719,65535,131071,262143,524287]
theorem tQ.Jf:eu .any (opsOf Tryz.f151 5)=tQ.T5:=by kernel_rfl
theorem tQ.yT:bO tQ.T5.2 tQ.B5=true:=by kernel_rfl
def Aq(base:Int)(cells:List Int)(fx:List dJ)(row:Int)(l:List Int):Bool:=qb base l.sum cells.sum&&kP fx row l
def dO(base:Int)(ok:List Int->Bool):List Int->List Int->List (List Int)
 |[],l=>if ok l then [l] else []
 |n::rest,l=>dO base ok rest (l++[ji base n])++if ji base n=mi base n then [] else dO base ok rest (l++[mi base n])
abbrev E3:Type:=List Int×Option Addr×Nat
def enc3(x:E3):Array Value:=#[.slice x.2.1 x.1.length x.2.2]
def X3(B0:Nat)(all:List (List Int))(x:E3)(W:World):Prop:=(Kd.int .i64).R 3 W B0 (fun _=>True) (.slice x.2.1 x.1.length x.2.2) x.1/\x.1 ∈ all/\B0<=W.heap.size
def tX(T:Nat->Prop)(W:World)(E:World->Prop):Prop:=∀W',bq W.heap.size T W W'->E W'
theorem tX.now{T:Nat->Prop}{W:World}{E:World->Prop}(h:tX T W E):E W:=h W (bq.refl _ _ _)
theorem tX.step{T:Nat->Prop}{W W':World}{E:World->Prop}(h:tX T W E)(hk:bq W.heap.size T W W'):tX T W' E:=fun W2 h2=>h W2 (hk.trans (h2.mono hk.size (fun _ _ h=>h)))
theorem tX.below{T:Nat->Prop}{W W':World}{E:World->Prop}(h:tX T W E)(hb:Below W.heap.size W W'):tX T W' E:=h.step (bq.of_below hb (Nat.le_refl _))
structure r9(gc gw gr gy xL gk g m c cr cf rl:Nat)(Ac Ar Af:Option Addr)(cells:List Int)(base row:Int)(fx:List dJ)(vm:Value)(W:World):Prop where
 c:W.cell? ⟨gc,0,none⟩=some (.slice Ac m c)
 w:W.cell? ⟨gw,0,none⟩=some (.pointer (some ⟨gk,0,none⟩))
 k0:W.cell? ⟨gk,0,none⟩=some (.int .i64 base)
 k1:W.cell? ⟨gk,1,none⟩=some (.slice Ar rl cr)
 k2:W.cell? ⟨gk,2,none⟩=some (.slice Af fx.length cf)
 r:W.cell? ⟨gr,0,none⟩=some (.int .i64 row)
 y:W.cell? ⟨gy,0,none⟩=some (.func (.yield g) #[] #[])
 h:W.cell? ⟨xL,0,none⟩=some (.func (.func 151) #[] #[.pointer (some ⟨gc,0,none⟩),.pointer (some ⟨gw,0,none⟩),.pointer (some ⟨gr,0,none⟩),.pointer (some ⟨gy,0,none⟩),.pointer (some ⟨xL,0,none⟩)])
 kc:(Kd.int .i64).C W Ac m cells
 kf:AL.C W Af fx.length fx
theorem r9.reads{gc gw gr gy xL gk g m c cr cf rl:Nat}{Ac Ar Af:Option Addr}{cells:List Int}{base row:Int}{fx:List dJ}{vm:Value}{W:World}(h:r9 gc gw gr gy xL gk g m c cr cf rl Ac Ar Af cells base row fx vm W):
  W.cell? ⟨gc,0,none⟩=some (.slice Ac m c)/\W.cell? ⟨gw,0,none⟩=some (.pointer (some ⟨gk,0,none⟩))/\W.cell? ⟨gk,0,none⟩=some (.int .i64 base)/\W.cell? ⟨gk,1,none⟩=some (.slice Ar rl cr)/\W.cell? ⟨gk,2,none⟩=some (.slice Af fx.length cf)/\W.cell? ⟨gr,0,none⟩=some (.int .i64 row)/\W.cell? ⟨gy,0,none⟩=some (.func (.yield g) #[] #[])/\W.cell? ⟨xL,0,none⟩=some (.func (.func 151) #[] #[.pointer (some ⟨gc,0,none⟩),.pointer (some ⟨gw,0,none⟩),.pointer (some ⟨gr,0,none⟩),.pointer (some ⟨gy,0,none⟩),.pointer (some ⟨xL,0,none⟩)]):=
 ⟨h.c,h.w,h.k0,h.k1,h.k2,h.r,h.y,h.h⟩
def LB(W:World)(gl m:Nat)(l:List Int):Prop:=∃vs:List Value,aR W gl vs 3/\vs.length=m/\vs.take l.length=l.map (Value.int .i64)/\l.length<=m/\m<=1000
theorem LB.pre{W:World}{gl m:Nat}{l l':List Int}(h:LB W gl m (l++l')):LB W gl m l:=by
 obtain⟨vs,h1,h2,h3,h4,h5⟩:=h
 rw[List.length_append] at h4
 refine⟨vs,h1,h2,?_,by omega,h5⟩
 have:=congrArg (List.take l.length) h3
 rw[List.take_take,List.length_append,Nat.min_eq_left (by omega),List.map_append,List.take_left' (by simp)] at this
 exact this
theorem LB.move{W W':World}{gl m:Nat}{l:List Int}(h:LB W gl m l)(e:W'.heap[gl]?=W.heap[gl]?):LB W' gl m l:=by
 obtain⟨vs,h1,h2⟩:=h
 exact⟨vs,h1.move e,h2⟩
theorem LB.lt{W:World}{gl m:Nat}{l:List Int}(h:LB W gl m l):gl<W.heap.size:=by
 obtain⟨vs,h1,h2⟩:=h
 exact h1.lt
theorem LB.set{W:World}{gl m:Nat}{l:List Int}(h:LB W gl m l)(hl:l.length<m)(y:Int):LB (W.setCell ⟨gl,l.length,none⟩ (.int .i64 y)) gl m (l++[y]):=by
 obtain⟨vs,h1,h2,h3,h4,h5⟩:=h
 refine⟨vs.set l.length (.int .i64 y),h1.setAt _ _,by rw[List.length_set];exact h2,?_,by simp;omega,h5⟩
 rw[List.length_append,List.length_singleton,List.map_append,<- h3,List.take_succ_eq_append_getElem (by rw[List.length_set];omega),List.getElem_set_self,List.take_set_of_le (Nat.le_refl _)]
 rfl
theorem LB.spare{W:World}{gl m:Nat}{l:List Int}(h:LB W gl m l)(hl:l.length<m):(W.cell? ⟨gl,l.length,none⟩).isSome=true/\W.frozen? ⟨gl,l.length,none⟩=false:=by
 obtain⟨vs,h1,h2,h3,h4,h5⟩:=h
 refine⟨?_,h1.frozen _⟩
 rw[h1.cell,List.getElem?_eq_getElem (by omega)]
 rfl
theorem LB.C{W:World}{gl m:Nat}{l:List Int}(h:LB W gl m l):(Kd.int .i64).C W (some ⟨gl,0,none⟩) l.length l:=by
 obtain⟨vs,h1,h2,h3,h4,h5⟩:=h
 refine⟨rfl,by omega,fun h0=>⟨_,rfl,fun j p hj=>?_⟩⟩
 obtain⟨hjl,hjp⟩:=List.getElem?_eq_some_iff.1 hj
 refine⟨[.int .i64 p],rfl,rfl,fun i u hu=>?_⟩
 obtain rfl:i=0:=by
  rcases Nat.eq_zero_or_pos i with e|e
  .exact e
  .rw[List.getElem?_eq_none (by simp only[List.length_cons,List.length_nil];omega)] at hu
   cases hu
 obtain rfl:Value.int .i64 p=u:=by simpa using hu
 rw[Iy]
 have hc:=h1.cell j
 have he:(vs.take l.length)[j]?=some (.int .i64 p):=by rw[h3];simp[hj]
 rw[List.getElem?_take,if_pos hjl] at he
 rw[he] at hc
 rw[show j*(Kd.int .i64).sz+0=j from by show j*1+0=j;omega]
 simpa using hc
theorem xQ{b:Int}(hb:0<=b):∀{xs:List Int},(∀x ∈ xs,0<=x/\x<=b)->0<=xs.sum/\xs.sum<=b*xs.length
 |[],_=>by simp
 |x::xs,h=>by
  have h1:=h x List.mem_cons_self
  have h2:=xQ hb (xs:=xs) (fun y hy=>h y (List.mem_cons_of_mem _ hy))
  rw[List.sum_cons,List.length_cons]
  push_cast
  have:b*((xs.length:Int)+1)=b*xs.length+b:=by rw[Int.mul_add,Int.mul_one]
  omega
theorem xw{base n:Int}(hb:2<=base):n<=mi base n/\mi base n<n+base:=by
 unfold mi
 have:=nJ (base:=base) (n:=n+base-1) hb
 omega
theorem su{A:Option Addr}{c:Nat}(n:Nat)(xs:List Int)(hn:xs.length=n)(w:World)(hx:(Kd.int .i64).C w A n xs)(hc:n<=c)(h:∀x ∈ xs,0<=x/\x<=100000)(hl:n<=10):
  Calls Tryz.prog 137 #[.slice A n c] w fun e w'=>e= .returned (.int .i64 xs.sum)/\Below w.heap.size w w':=by
 subst hn
 exact rz xs w hx hc h hl
structure pU(T:Nat->Prop)(E:World->Prop)(J:List E3->World->Prop)(gl m B0:Nat)(l:List Int)(pre:List E3)(W0 W:World):Prop where
 st:tX T W E
 lb:LB W gl m l
 j:J pre W
 b0:B0<=W.heap.size
 kw:bq W0.heap.size T W0 W
theorem pU.below{T:Nat->Prop}{E:World->Prop}{J:List E3->World->Prop}{gl m B0:Nat}{l:List Int}{pre:List E3}{W0 W W':World}{lo hi:Nat}(h:pU T E J gl m B0 l pre W0 W)(hJ:lY lo hi J)(hb:Below W.heap.size W W'):pU T E J gl m B0 l pre W0 W':=
 ⟨h.st.below hb,h.lb.move (hb.block _ h.lb.lt),hJ _ _ _ none h.j (jV hb none) (by simp),Nat.le_trans h.b0 hb.size,h.kw.trans (bq.of_below hb h.kw.size)⟩
theorem pU.drew{T:Nat->Prop}{E:World->Prop}{J:List E3->World->Prop}{gl m B0:Nat}{l:List Int}{pre:List E3}{W0 W:World}{lo hi:Nat}(h:pU T E J gl m B0 l pre W0 W)(hJ:lY lo hi J):pU T E J gl m B0 l pre W0 W.drew:=h.below hJ (bG (Below.refl _ _))
theorem pU.set{T:Nat->Prop}{E:World->Prop}{J:List E3->World->Prop}{gl m B0:Nat}{l:List Int}{pre:List E3}{W0 W:World}{lo hi:Nat}(h:pU T E J gl m B0 l pre W0 W)(hJ:lY lo hi J)(hlo:lo<=gl/\gl<hi)(hT:T gl)(hl:l.length<m)(y:Int):pU T E J gl m B0 (l++[y]) pre W0 (W.setCell ⟨gl,l.length,none⟩ (.int .i64 y)):=
 ⟨h.st.step ((bq.refl _ _ _).setCell (.inl hT) _),h.lb.set hl y,hJ.setCell _ h.j hlo.1 hlo.2,by have:=h.b0;simp[World.setCell];omega,h.kw.setCell (.inl hT) _⟩
theorem pU.back{T:Nat->Prop}{E:World->Prop}{J:List E3->World->Prop}{gl m B0:Nat}{l l':List Int}{pre pre':List E3}{W0 W W':World}(h:pU T E J gl m B0 l' pre W0 W)(hj:J pre' W')(hk:bq W.heap.size T W W')(hb:LB W' gl m l):pU T E J gl m B0 l pre' W0 W':=
 ⟨h.st.step hk,hb,hj,Nat.le_trans h.b0 hk.size,h.kw.trans (hk.mono h.kw.size (fun _ _ h=>h))⟩
theorem pU.fresh{T:Nat->Prop}{E:World->Prop}{J:List E3->World->Prop}{gl m B0:Nat}{l:List Int}{pre:List E3}{W0 W:World}(h:pU T E J gl m B0 l pre W0 W):pU T E J gl m B0 l pre W W:=⟨h.st,h.lb,h.j,h.b0,bq.refl _ _ _⟩
theorem vS:(Tryz.prog.info? 3).map (fun i=>(i.zero,i.size,i.bytes))=some (some (.int .i64 0),1,8):=by kernel_rfl
theorem Jk(a:Option Addr)(l c:Nat)(w:World):(binOp .eql 22 (.slice a l c) (.slice none 0 0)).run Tryz.prog w= .ok (.bool a.isNone) w:=by
 simp only[binOp]
 simp[run_equal_slice_nil w 22 3 a l c Tryz.underlying22]
attribute [local go_sem] Jk
set_option maxRecDepth 100000 in
set_option maxHeartbeats 4000000 in
theorem Il{ad:Addr}{n c:Nat}{xs:List Int}(hn:xs.length=n)(w:World)(hC:(Kd.int .i64).C w (some ad) n xs)(hx:n<=1000):
  Calls Tryz.prog 95 #[.slice (some ad) n c] w fun e w'=>∃v,e= .returned v/\(Kd.int .i64).R 3 w' w.heap.size (fun _=>True) v xs/\Below w.heap.size w w':=by
 subst hn
 have HC:=aa.mk hC
 clear hC
 go_enter Tryz.func95,Tryz.ntmps95
 go_wp2_with (first|((with_reducible refine bY (N:=5) rfl ?_);refine Kd.KU (Kd.int .i64) w.heap.size 3 ?hg (N:=5) ?hd (xs:=([]:List Int)) (inner:=[]) (ok:=fun _=>True) (okp:=fun _=>True) ?hr ?hp (fun _ hk=>hk) trivial (Below.refl _ _) (Nat.le_refl _) (by simp) ?_;(case hd=>rfl);(case hg=>rfl);(case hr=>first|(go_simp;done)|(go_simp;rfl));(case hp=>exact(dS.none _ _));intro v1 w1 hr1 hb1 hg1 sQ;have QO:=aa.mk (Kd.aK HC.out hb1);have hsz1:=hb1.size;have HR1:=aa.mk hr1;have HB1:=aa.mk hb1;clear hr1 hb1 hg1 sQ)|((with_reducible refine cO (b:= .append) (xs:=#[.tmp 5,.tmp 6]) rfl ?_);refine Kd.kF (Kd.int .i64) (w0:=w) w.heap.size rfl (.tmp 5) (.tmp 6) 22 3 (.int .i64 0) 8 rfl Tryz.underlying22 vS rfl (by decide) (by omega) v1 [] xs _ _ _ (fun _=>True) (fun _=>False) rfl rfl HR1.out QO.out (fun x cs h=>h) (fun _ hk=>hk.elim) (fun _ _=>trivial) HB1.out hsz1 ?aL ?_;(case aL=>(simp only[List.length_nil];omega));intro vn wn hon hbn hgn fP;have uU:=aa.mk hon;have BZ:=aa.mk hbn;clear hon hbn hgn fP))
 go_ret
 exact⟨_,rfl,uU.out,BZ.out⟩
theorem Xd(base n y:Int)(hy:ji base n=y)(u1 u2:Value)(w:World)(hb:2<=base)(hb1:base<=100)(hn:0<=n)(hn1:n<=1000000):
  Calls Tryz.prog 153 #[.agg #[.int .i64 base,u1,u2],.int .i64 n] w fun e w'=>e= .returned (.int .i64 y)/\Below w.heap.size w w':=by
 subst hy
 exact rV base n u1 u2 w hb hb1 hn hn1
theorem Xh(base n y:Int)(hy:mi base n=y)(u1 u2:Value)(w:World)(hb:2<=base)(hb1:base<=100)(hn:0<=n)(hn1:n<=999000):
  Calls Tryz.prog 154 #[.agg #[.int .i64 base,u1,u2],.int .i64 n] w fun e w'=>e= .returned (.int .i64 y)/\Below w.heap.size w w':=by
 subst hy
 exact yV base n u1 u2 w hb hb1 hn hn1
theorem Ot{Af:Option Addr}{cf:Nat}{fx:List dJ}{A:Option Addr}{c:Nat}(b:Bool)(u0 u1:Value)(row:Int)(xs:List Int)(hb2:kP fx row xs=b)(w:World)(hF:AL.C w Af fx.length fx)(hcf:fx.length<=cf)(hx:(Kd.int .i64).C w A xs.length xs)(hb:∀f ∈ fx,f.f0=row->0<=f.f1/\f.f1<xs.length)(hf:fx.length<=1000)(hu0:u0.cells=#[u0])(hu1:u1.cells=#[u1]):
  Calls Tryz.prog 152 #[.agg #[u0,u1,.slice Af fx.length cf],.int .i64 row,.slice A xs.length c] w fun e w'=>e= .returned (.bool b)/\Below w.heap.size w w':=by
 subst hb2
 exact Kk u0 u1 row xs w hF hcf hx hb hf hu0 hu1
set_option maxRecDepth 100000 in
set_option maxHeartbeats 40000000 in
theorem Ip{gc gw gr gy xL gk g m c cr cf rl gl B0 lo hi N:Nat}{Ac Ar Af:Option Addr}{cells:List Int}{base row:Int}{fx:List dJ}{vm:Value}{S:Nat->Prop}{J:List E3->World->Prop}{all:List (List Int)}
  (hJ:lY lo hi J) (hlo:lo<=gl/\gl<hi) (hm:cells.length=m) (hmc:m<=c) (UA:m<=4) (hb:2<=base) (hb1:base<=100) (hcl:∀x ∈ cells,0<=x/\x<=10100) (hfx:∀f ∈ fx,0<=f.f1/\f.f1<m) (hf:fx.length<=1000) (hcf:fx.length<=cf)
  (hY:∀pre x W1,J pre W1->X3 B0 all x W1->pre.length<N->YieldAt Fence.wide 0 Tryz.prog g (enc3 x) W1 fun e W'=>e= .returned (.bool true)/\J (pre++[x]) W'/\bq W1.heap.size S W1 W') (adJ:¬S gl):
  ∀(rest l done:List Int) (k:Nat) (pre:List E3) (W:World),cells=done++rest->done.length=k->l.length=k->(∀x ∈ l,0<=x/\x<=100000)->(∀x ∈ dO base (Aq base cells fx row) rest l,x ∈ all)->pre.length+(dO base (Aq base cells fx row) rest l).length<=N->pU (fun b=>S b\/b=gl) (r9 gc gw gr gy xL gk g m c cr cf rl Ac Ar Af cells base row fx vm) J gl m B0 l pre W W ->
  Calls Tryz.prog 151 #[.slice (some ⟨gl,0,none⟩) k m,.pointer (some ⟨gc,0,none⟩),.pointer (some ⟨gw,0,none⟩),.pointer (some ⟨gr,0,none⟩),.pointer (some ⟨gy,0,none⟩),.pointer (some ⟨xL,0,none⟩)] W fun e W'=>e= .returned (.bool true)/\∃ys,ys.map (·.1)=dO base (Aq base cells fx row) rest l/\pU (fun b=>S b\/b=gl) (r9 gc gw gr gy xL gk g m c cr cf rl Ac Ar Af cells base row fx vm) J gl m B0 l (pre++ys) W W':=by
 have HJ:=aa.mk hJ
 have Ue:=aa.mk hcl
 have HFX:=aa.mk hfx
 have HY:=aa.mk hY
 have HM:=aa.mk hm
 have HSG:=aa.mk adJ
 clear hJ hcl hfx hY adJ
 intro rest
 induction rest with
 |nil=>
  intro l done k pre W hcd hdk hlk hlb hall hN hST
  obtain rfl:=hlk
  have hlm:l.length=m:=by rw[<- hm,hcd,List.append_nil,hdk]
  have hkm:((l.length:Int)==(m:Int))=true:=by simp[hlm]
  have hsl:=xQ (by omega) hlb
  have hsc:=xQ (by omega) (xs:=cells) (b:=10100) Ue.out
  rw[hm] at hsc
  have hle:l.length<=m:=by omega
  have hge:m<=l.length:=by omega
  have HLB:=aa.mk hlb
  have II:=aa.mk hall
  have HN:=aa.mk hN
  have HST:=aa.mk hST
  clear hcd hdk hlb hall hN hST hlm hm
  have HNR:=aa.mk (show ∀b,qb base l.sum cells.sum=b->∀w,Calls _ _ _ w _ from fun b jR w=>rE base l.sum cells.sum b jR (.slice Ar rl cr) (.slice Af fx.length cf) w hb hb1 (by omega) (by omega))
  obtain⟨b1,aar⟩:∃b,qb base l.sum cells.sum=b:=⟨_,rfl⟩
  obtain⟨b2,M3⟩:∃b,kP fx row l=b:=⟨_,rfl⟩
  have HV:=aa.mk (show dO base (Aq base cells fx row) [] l=if(b1&&b2)=true then [l] else [] by rw[<- aar,<- M3];rfl)
  have HB1:=aa.mk aar
  have HB2:=aa.mk M3
  clear aar M3 hsl hsc
  refine callsIn_wide.1 (callsIn_of_wp (F:=Fence.wide) (n:=9) Tryz.func151 rfl trivial ?_ rfl)
  simp only[Tryz.ntmps151,List.size_toArray,List.length_cons,List.length_nil,Nat.reduceAdd,Nat.reduceSub,Array.replicate_succ,Array.replicate_zero,List.push_toArray,List.append_toArray,List.nil_append,List.cons_append]
  have h1:=HST.out.st.now.c
  gi_wp2_with fail
  clear h1
  cases b1
  .refine sD (m:=27) (S:=fun w'=>w'.cell? ⟨gc,0,none⟩=some (.slice Ac m c)/\w'.cell? ⟨gw,0,none⟩=some (.pointer (some ⟨gk,0,none⟩))/\w'.cell? ⟨gk,0,none⟩=some (.int .i64 base)/\w'.cell? ⟨gk,1,none⟩=some (.slice Ar rl cr)/\w'.cell? ⟨gk,2,none⟩=some (.slice Af fx.length cf)/\w'.cell? ⟨gr,0,none⟩=some (.int .i64 row)/\w'.cell? ⟨gy,0,none⟩=some (.func (.yield g) #[] #[])/\w'.cell? ⟨xL,0,none⟩=some (.func (.func 151) #[] #[.pointer (some ⟨gc,0,none⟩),.pointer (some ⟨gw,0,none⟩),.pointer (some ⟨gr,0,none⟩),.pointer (some ⟨gy,0,none⟩),.pointer (some ⟨xL,0,none⟩)])) (ds:=[8]) #[O,O,O,O,O,O,O,O,O,O,O,O,O,O,O,O,O,O,O,O,O,O,O,O,O,O,O] (by kernel_rfl) rfl rfl HST.out.st.now.reads (fun hHeld=>?_);refine lZ tQ.Pm tQ.Dr (fun aC bW=>?_)
   replace HST:=aa.mk (HST.out.drew HJ.out)
   generalize W.drew=wd at HST hHeld ⊢
   refine nO 0 16 #[I,O,O,O,O,O,O,O,O,O,O,O,O,O,O,O,O,O,O,O,O,O,O,O,O,O,O] aC bW hHeld (hy:=by(rintro w' ⟨s0,s1,s2,s3,s4,s5,s6,s7⟩;go_simp;with_reducible rfl)) (h:=?_)
   refine fu 1 17 #[I,I,O,O,O,O,O,O,O,O,O,O,O,O,O,O,O,O,O,O,O,O,O,O,O,O,O] aC (h:=?_)
   refine fu 2 18 #[I,I,I,O,O,O,O,O,O,O,O,O,O,O,O,O,O,O,O,O,O,O,O,O,O,O,O] aC (h:=?_)
   refine nO 3 19 #[I,I,I,I,O,O,O,O,O,O,O,O,O,O,O,O,O,O,O,O,O,O,O,O,O,O,O] aC bW hHeld (hy:=by(rintro w' ⟨s0,s1,s2,s3,s4,s5,s6,s7⟩;go_simp;with_reducible rfl)) (h:=?_)
   refine fu 4 20 #[I,I,I,I,I,O,O,O,O,O,O,O,O,O,O,O,O,O,O,O,O,O,O,O,O,O,O] aC (h:=?_)
   refine nO 6 22 #[I,I,I,I,I,O,I,O,O,O,O,O,O,O,O,O,O,O,O,O,O,O,O,O,O,O,O] aC bW hHeld (hy:=by(rintro w' ⟨s0,s1,s2,s3,s4,s5,s6,s7⟩;go_simp;with_reducible rfl)) (h:=?_)
   refine lX (i:=5) (N:=some 21) #[I,I,I,I,I,I,I,O,O,O,O,O,O,O,O,O,O,O,O,O,O,O,O,O,O,O,O] rfl rfl (aN aC.out (by kernel_rfl)) (by decide) (fun K hK=>?_)
   refine lD Tryz.func137 (by kernel_rfl) rfl #[.slice (some ⟨gl,0,none⟩) l.length m] (by rfl) rfl rfl (by(try simp only[List.map_toArray,List.map_cons,List.map_nil]);rfl) ?_
   refine(su l.length l rfl _ HST.out.lb.C hle HLB.out (by omega)).mono ?_
   rintro e_ w_ ⟨rfl,hbx⟩
   refine⟨_,rfl,hK.out _ _ ((HST.out.below HJ.out hbx).st.now.reads) (fun hHeld=>?_)⟩
   clear hK K
   replace HST:=aa.mk (HST.out.below HJ.out hbx)
   clear hbx
   refine iw (by simp only[Act.put,List.setIfInBounds_toArray,List.set_cons_zero,List.set_cons_succ];rfl) ?_
   refine lX (i:=7) (N:=some 23) #[I,I,I,I,I,I,I,I,O,O,O,O,O,O,O,O,O,O,O,O,O,O,O,O,O,O,O] rfl rfl (aN aC.out (by kernel_rfl)) (by decide) (fun K hK=>?_)
   refine lD Tryz.func137 (by kernel_rfl) rfl #[.slice Ac m c] (by rfl) rfl rfl (by(try simp only[List.map_toArray,List.map_cons,List.map_nil]);rfl) ?_
   refine(su m cells HM.out _ HST.out.st.now.kc hmc (fun x hx=>by have:=Ue.out x hx;omega) (by omega)).mono ?_
   rintro e_ w_ ⟨rfl,hbx⟩
   refine⟨_,rfl,hK.out _ _ ((HST.out.below HJ.out hbx).st.now.reads) (fun hHeld=>?_)⟩
   clear hK K
   replace HST:=aa.mk (HST.out.below HJ.out hbx)
   clear hbx
   refine iw (by simp only[Act.put,List.setIfInBounds_toArray,List.set_cons_zero,List.set_cons_succ];rfl) ?_
   refine yc (i:=8) (N:=some 24) #[I,I,I,I,I,I,I,I,I,O,O,O,O,O,O,O,O,O,O,O,O,O,O,O,O,O,O] rfl rfl (aN aC.out (by kernel_rfl)) (by decide) (fun K hK=>?_)
   refine lD Tryz.func149 (by kernel_rfl) rfl #[.agg #[.int .i64 base,.slice Ar rl cr,.slice Af fx.length cf],.int .i64 l.sum,.int .i64 cells.sum] (by rfl) rfl rfl (by(try simp only[List.map_toArray,List.map_cons,List.map_nil]);rfl) ?_
   refine(HNR.out false HB1.out _).mono ?_
   rintro e_ w_ ⟨rfl,hbx⟩
   refine⟨_,rfl,hK.out _ _ ?_⟩
   clear hK K
   replace HST:=aa.mk (HST.out.below HJ.out hbx)
   clear hbx
   refine iw (by simp only[Act.put,List.setIfInBounds_toArray,List.set_cons_zero,List.set_cons_succ];rfl) ?_
   refine fu 9 25 #[I,I,I,I,I,I,I,I,I,I,O,O,O,O,O,O,O,O,O,O,O,O,O,O,O,O,O] aC (h:=?_)
   refine fu 10 26 #[I,I,I,I,I,I,I,I,I,I,I,O,O,O,O,O,O,O,O,O,O,O,O,O,O,O,O] aC (h:=?_)
   refine iD (i:=11) (N:=some 27) (v:=undef) (a':=?_) #[I,I,I,I,I,I,I,I,I,I,I,I,O,O,O,O,O,O,O,O,O,O,O,O,O,O,O] rfl rfl (dQ aC.out (by kernel_rfl)) (fun _ _ _ h=>h) (Or.inr ⟨by rfl,rfl⟩) ?_ ?_
   rotate_left
   .simp only[Act.put,List.setIfInBounds_toArray,List.set_cons_zero,List.set_cons_succ,dL,ed]
    rfl
   refine iD (i:=12) (N:=some 28) (v:=undef) (a':=?_) #[I,I,I,I,I,I,I,I,I,I,I,I,I,O,O,O,O,O,O,O,O,O,O,O,O,O,O] rfl rfl (dQ aC.out (by kernel_rfl)) (fun _ _ _ h=>h) (Or.inr ⟨by rfl,rfl⟩) ?_ ?_
   rotate_left
   .simp only[Act.put,List.setIfInBounds_toArray,List.set_cons_zero,List.set_cons_succ,dL,ed]
    rfl
   refine iD (i:=13) (N:=some 29) (v:=undef) (a':=?_) #[I,I,I,I,I,I,I,I,I,I,I,I,I,I,O,O,O,O,O,O,O,O,O,O,O,O,O] rfl rfl (dQ aC.out (by kernel_rfl)) (fun _ _ _ h=>h) (Or.inr ⟨by rfl,rfl⟩) ?_ ?_
   rotate_left
   .simp only[Act.put,List.setIfInBounds_toArray,List.set_cons_zero,List.set_cons_succ,dL,ed]
    rfl
   refine iD (i:=14) (N:=some 30) (v:=undef) (a':=?_) #[I,I,I,I,I,I,I,I,I,I,I,I,I,I,I,O,O,O,O,O,O,O,O,O,O,O,O] rfl rfl (dQ aC.out (by kernel_rfl)) (fun _ _ _ h=>h) (Or.inr ⟨by rfl,rfl⟩) ?_ ?_
   rotate_left
   .simp only[Act.put,List.setIfInBounds_toArray,List.set_cons_zero,List.set_cons_succ,dL,ed]
    rfl
   refine iD (i:=15) (N:=some 31) (v:=undef) (a':=?_) #[I,I,I,I,I,I,I,I,I,I,I,I,I,I,I,I,O,O,O,O,O,O,O,O,O,O,O] rfl rfl (dQ aC.out (by kernel_rfl)) (fun _ _ _ h=>h) (Or.inr ⟨by rfl,rfl⟩) ?_ ?_
   rotate_left
   .simp only[Act.put,List.setIfInBounds_toArray,List.set_cons_zero,List.set_cons_succ,dL,ed]
    rfl
   refine iD (i:=16) (N:=some 32) (v:=undef) (a':=?_) #[I,I,I,I,I,I,I,I,I,I,I,I,I,I,I,I,I,O,O,O,O,O,O,O,O,O,O] rfl rfl (dQ aC.out (by kernel_rfl)) (fun _ _ _ h=>h) (Or.inr ⟨by rfl,rfl⟩) ?_ ?_
   rotate_left
   .simp only[Act.put,List.setIfInBounds_toArray,List.set_cons_zero,List.set_cons_succ,dL,ed]
    rfl
   refine iD (i:=17) (N:=some 33) (v:=undef) (a':=?_) #[I,I,I,I,I,I,I,I,I,I,I,I,I,I,I,I,I,I,O,O,O,O,O,O,O,O,O] rfl rfl (dQ aC.out (by kernel_rfl)) (fun _ _ _ h=>h) (Or.inr ⟨by rfl,rfl⟩) ?_ ?_
   rotate_left
   .simp only[Act.put,List.setIfInBounds_toArray,List.set_cons_zero,List.set_cons_succ,dL,ed]
    rfl
   refine iD (i:=18) (N:=some 34) (v:=undef) (a':=?_) #[I,I,I,I,I,I,I,I,I,I,I,I,I,I,I,I,I,I,I,O,O,O,O,O,O,O,O] rfl rfl (dQ aC.out (by kernel_rfl)) (fun _ _ _ h=>h) (Or.inr ⟨by rfl,rfl⟩) ?_ ?_
   rotate_left
   .simp only[Act.put,List.setIfInBounds_toArray,List.set_cons_zero,List.set_cons_succ,dL,ed]
    rfl
   refine fu 19 35 #[I,I,I,I,I,I,I,I,I,I,I,I,I,I,I,I,I,I,I,I,O,O,O,O,O,O,O] aC (h:=?_)
   refine fu 20 36 #[I,I,I,I,I,I,I,I,I,I,I,I,I,I,I,I,I,I,I,I,I,O,O,O,O,O,O] aC (h:=?_)
   refine iD (i:=21) (N:=some 37) (v:=undef) (a':=?_) #[I,I,I,I,I,I,I,I,I,I,I,I,I,I,I,I,I,I,I,I,I,I,O,O,O,O,O] rfl rfl (dQ aC.out (by kernel_rfl)) (fun _ _ _ h=>h) (Or.inr ⟨by rfl,rfl⟩) ?_ ?_
   rotate_left
   .simp only[Act.put,List.setIfInBounds_toArray,List.set_cons_zero,List.set_cons_succ,dL,ed]
    rfl
   refine iD (i:=22) (N:=some 38) (v:=undef) (a':=?_) #[I,I,I,I,I,I,I,I,I,I,I,I,I,I,I,I,I,I,I,I,I,I,I,O,O,O,O] rfl rfl (dQ aC.out (by kernel_rfl)) (fun _ _ _ h=>h) (Or.inr ⟨by rfl,rfl⟩) ?_ ?_
   rotate_left
   .simp only[Act.put,List.setIfInBounds_toArray,List.set_cons_zero,List.set_cons_succ,dL,ed]
    rfl
   refine iD (i:=23) (N:=some 39) (v:=undef) (a':=?_) #[I,I,I,I,I,I,I,I,I,I,I,I,I,I,I,I,I,I,I,I,I,I,I,I,O,O,O] rfl rfl (dQ aC.out (by kernel_rfl)) (fun _ _ _ h=>h) (Or.inr ⟨by rfl,rfl⟩) ?_ ?_
   rotate_left
   .simp only[Act.put,List.setIfInBounds_toArray,List.set_cons_zero,List.set_cons_succ,dL,ed]
    rfl
   refine iD (i:=24) (N:=some 40) (v:=undef) (a':=?_) #[I,I,I,I,I,I,I,I,I,I,I,I,I,I,I,I,I,I,I,I,I,I,I,I,I,O,O] rfl rfl (dQ aC.out (by kernel_rfl)) (fun _ _ _ h=>h) (Or.inr ⟨by rfl,rfl⟩) ?_ ?_
   rotate_left
   .simp only[Act.put,List.setIfInBounds_toArray,List.set_cons_zero,List.set_cons_succ,dL,ed]
    rfl
   refine fu 25 41 #[I,I,I,I,I,I,I,I,I,I,I,I,I,I,I,I,I,I,I,I,I,I,I,I,I,I,O] aC (h:=?_)
   refine fu 26 7 #[I,I,I,I,I,I,I,I,I,I,I,I,I,I,I,I,I,I,I,I,I,I,I,I,I,I,I] aC (h:=?_)
   refine yu (bQ aC.out (by kernel_rfl)) ?_
   gi_wp2_with fail
   go_ret
   exact⟨rfl,[],by rw[HV.out];rfl,by rw[List.append_nil];exact HST.out⟩
  cases b2
  .refine sD (m:=27) (S:=fun w'=>w'.cell? ⟨gc,0,none⟩=some (.slice Ac m c)/\w'.cell? ⟨gw,0,none⟩=some (.pointer (some ⟨gk,0,none⟩))/\w'.cell? ⟨gk,0,none⟩=some (.int .i64 base)/\w'.cell? ⟨gk,1,none⟩=some (.slice Ar rl cr)/\w'.cell? ⟨gk,2,none⟩=some (.slice Af fx.length cf)/\w'.cell? ⟨gr,0,none⟩=some (.int .i64 row)/\w'.cell? ⟨gy,0,none⟩=some (.func (.yield g) #[] #[])/\w'.cell? ⟨xL,0,none⟩=some (.func (.func 151) #[] #[.pointer (some ⟨gc,0,none⟩),.pointer (some ⟨gw,0,none⟩),.pointer (some ⟨gr,0,none⟩),.pointer (some ⟨gy,0,none⟩),.pointer (some ⟨xL,0,none⟩)])) (ds:=[17]) #[O,O,O,O,O,O,O,O,O,O,O,O,O,O,O,O,O,O,O,O,O,O,O,O,O,O,O] (by kernel_rfl) rfl rfl HST.out.st.now.reads (fun hHeld=>?_);refine lZ tQ.Pm tQ.Dr (fun aC bW=>?_)
   replace HST:=aa.mk (HST.out.drew HJ.out)
   generalize W.drew=wd at HST hHeld ⊢
   refine nO 0 16 #[I,O,O,O,O,O,O,O,O,O,O,O,O,O,O,O,O,O,O,O,O,O,O,O,O,O,O] aC bW hHeld (hy:=by(rintro w' ⟨s0,s1,s2,s3,s4,s5,s6,s7⟩;go_simp;with_reducible rfl)) (h:=?_)
   refine fu 1 17 #[I,I,O,O,O,O,O,O,O,O,O,O,O,O,O,O,O,O,O,O,O,O,O,O,O,O,O] aC (h:=?_)
   refine fu 2 18 #[I,I,I,O,O,O,O,O,O,O,O,O,O,O,O,O,O,O,O,O,O,O,O,O,O,O,O] aC (h:=?_)
   refine nO 3 19 #[I,I,I,I,O,O,O,O,O,O,O,O,O,O,O,O,O,O,O,O,O,O,O,O,O,O,O] aC bW hHeld (hy:=by(rintro w' ⟨s0,s1,s2,s3,s4,s5,s6,s7⟩;go_simp;with_reducible rfl)) (h:=?_)
   refine fu 4 20 #[I,I,I,I,I,O,O,O,O,O,O,O,O,O,O,O,O,O,O,O,O,O,O,O,O,O,O] aC (h:=?_)
   refine nO 6 22 #[I,I,I,I,I,O,I,O,O,O,O,O,O,O,O,O,O,O,O,O,O,O,O,O,O,O,O] aC bW hHeld (hy:=by(rintro w' ⟨s0,s1,s2,s3,s4,s5,s6,s7⟩;go_simp;with_reducible rfl)) (h:=?_)
   refine lX (i:=5) (N:=some 21) #[I,I,I,I,I,I,I,O,O,O,O,O,O,O,O,O,O,O,O,O,O,O,O,O,O,O,O] rfl rfl (aN aC.out (by kernel_rfl)) (by decide) (fun K hK=>?_)
   refine lD Tryz.func137 (by kernel_rfl) rfl #[.slice (some ⟨gl,0,none⟩) l.length m] (by rfl) rfl rfl (by(try simp only[List.map_toArray,List.map_cons,List.map_nil]);rfl) ?_
   refine(su l.length l rfl _ HST.out.lb.C hle HLB.out (by omega)).mono ?_
   rintro e_ w_ ⟨rfl,hbx⟩
   refine⟨_,rfl,hK.out _ _ ((HST.out.below HJ.out hbx).st.now.reads) (fun hHeld=>?_)⟩
   clear hK K
   replace HST:=aa.mk (HST.out.below HJ.out hbx)
   clear hbx
   refine iw (by simp only[Act.put,List.setIfInBounds_toArray,List.set_cons_zero,List.set_cons_succ];rfl) ?_
   refine lX (i:=7) (N:=some 23) #[I,I,I,I,I,I,I,I,O,O,O,O,O,O,O,O,O,O,O,O,O,O,O,O,O,O,O] rfl rfl (aN aC.out (by kernel_rfl)) (by decide) (fun K hK=>?_)
   refine lD Tryz.func137 (by kernel_rfl) rfl #[.slice Ac m c] (by rfl) rfl rfl (by(try simp only[List.map_toArray,List.map_cons,List.map_nil]);rfl) ?_
   refine(su m cells HM.out _ HST.out.st.now.kc hmc (fun x hx=>by have:=Ue.out x hx;omega) (by omega)).mono ?_
   rintro e_ w_ ⟨rfl,hbx⟩
   refine⟨_,rfl,hK.out _ _ ((HST.out.below HJ.out hbx).st.now.reads) (fun hHeld=>?_)⟩
   clear hK K
   replace HST:=aa.mk (HST.out.below HJ.out hbx)
   clear hbx
   refine iw (by simp only[Act.put,List.setIfInBounds_toArray,List.set_cons_zero,List.set_cons_succ];rfl) ?_
   refine lX (i:=8) (N:=some 24) #[I,I,I,I,I,I,I,I,I,O,O,O,O,O,O,O,O,O,O,O,O,O,O,O,O,O,O] rfl rfl (aN aC.out (by kernel_rfl)) (by decide) (fun K hK=>?_)
   refine lD Tryz.func149 (by kernel_rfl) rfl #[.agg #[.int .i64 base,.slice Ar rl cr,.slice Af fx.length cf],.int .i64 l.sum,.int .i64 cells.sum] (by rfl) rfl rfl (by(try simp only[List.map_toArray,List.map_cons,List.map_nil]);rfl) ?_
   refine(HNR.out true HB1.out _).mono ?_
   rintro e_ w_ ⟨rfl,hbx⟩
   refine⟨_,rfl,hK.out _ _ ((HST.out.below HJ.out hbx).st.now.reads) (fun hHeld=>?_)⟩
   clear hK K
   replace HST:=aa.mk (HST.out.below HJ.out hbx)
   clear hbx
   refine iw (by simp only[Act.put,List.setIfInBounds_toArray,List.set_cons_zero,List.set_cons_succ];rfl) ?_
   refine fu 9 25 #[I,I,I,I,I,I,I,I,I,I,O,O,O,O,O,O,O,O,O,O,O,O,O,O,O,O,O] aC (h:=?_)
   refine fu 10 26 #[I,I,I,I,I,I,I,I,I,I,I,O,O,O,O,O,O,O,O,O,O,O,O,O,O,O,O] aC (h:=?_)
   refine nO 11 27 #[I,I,I,I,I,I,I,I,I,I,I,I,O,O,O,O,O,O,O,O,O,O,O,O,O,O,O] aC bW hHeld (hy:=by(rintro w' ⟨s0,s1,s2,s3,s4,s5,s6,s7⟩;go_simp;with_reducible rfl)) (h:=?_)
   refine fu 12 28 #[I,I,I,I,I,I,I,I,I,I,I,I,I,O,O,O,O,O,O,O,O,O,O,O,O,O,O] aC (h:=?_)
   refine fu 13 29 #[I,I,I,I,I,I,I,I,I,I,I,I,I,I,O,O,O,O,O,O,O,O,O,O,O,O,O] aC (h:=?_)
   refine nO 14 30 #[I,I,I,I,I,I,I,I,I,I,I,I,I,I,I,O,O,O,O,O,O,O,O,O,O,O,O] aC bW hHeld (hy:=by(rintro w' ⟨s0,s1,s2,s3,s4,s5,s6,s7⟩;go_simp;with_reducible rfl)) (h:=?_)
   refine nO 15 31 #[I,I,I,I,I,I,I,I,I,I,I,I,I,I,I,I,O,O,O,O,O,O,O,O,O,O,O] aC bW hHeld (hy:=by(rintro w' ⟨s0,s1,s2,s3,s4,s5,s6,s7⟩;go_simp;with_reducible rfl)) (h:=?_)
   refine fu 16 32 #[I,I,I,I,I,I,I,I,I,I,I,I,I,I,I,I,I,O,O,O,O,O,O,O,O,O,O] aC (h:=?_)
   refine yc (i:=17) (N:=some 33) #[I,I,I,I,I,I,I,I,I,I,I,I,I,I,I,I,I,I,O,O,O,O,O,O,O,O,O] rfl rfl (aN aC.out (by kernel_rfl)) (by decide) (fun K hK=>?_)
   refine lD Tryz.func152 (by kernel_rfl) rfl #[.agg #[.int .i64 base,.slice Ar rl cr,.slice Af fx.length cf],.int .i64 row,.slice (some ⟨gl,0,none⟩) l.length m] (by rfl) rfl rfl (by(try simp only[List.map_toArray,List.map_cons,List.map_nil]);rfl) ?_
   refine(Ot false (.int .i64 base) (.slice Ar rl cr) row l HB2.out _ HST.out.st.now.kf hcf HST.out.lb.C (fun f hf_ _=>by have:=HFX.out f hf_;omega) hf rfl rfl).mono ?_
   rintro e_ w_ ⟨rfl,hbx⟩
   refine⟨_,rfl,hK.out _ _ ?_⟩
   clear hK K
   replace HST:=aa.mk (HST.out.below HJ.out hbx)
   clear hbx
   refine iw (by simp only[Act.put,List.setIfInBounds_toArray,List.set_cons_zero,List.set_cons_succ];rfl) ?_
   refine fu 18 34 #[I,I,I,I,I,I,I,I,I,I,I,I,I,I,I,I,I,I,I,O,O,O,O,O,O,O,O] aC (h:=?_)
   refine fu 19 35 #[I,I,I,I,I,I,I,I,I,I,I,I,I,I,I,I,I,I,I,I,O,O,O,O,O,O,O] aC (h:=?_)
   refine fu 20 36 #[I,I,I,I,I,I,I,I,I,I,I,I,I,I,I,I,I,I,I,I,I,O,O,O,O,O,O] aC (h:=?_)
   refine iD (i:=21) (N:=some 37) (v:=undef) (a':=?_) #[I,I,I,I,I,I,I,I,I,I,I,I,I,I,I,I,I,I,I,I,I,I,O,O,O,O,O] rfl rfl (dQ aC.out (by kernel_rfl)) (fun _ _ _ h=>h) (Or.inr ⟨by rfl,rfl⟩) ?_ ?_
   rotate_left
   .simp only[Act.put,List.setIfInBounds_toArray,List.set_cons_zero,List.set_cons_succ,dL,ed]
    rfl
   refine iD (i:=22) (N:=some 38) (v:=undef) (a':=?_) #[I,I,I,I,I,I,I,I,I,I,I,I,I,I,I,I,I,I,I,I,I,I,I,O,O,O,O] rfl rfl (dQ aC.out (by kernel_rfl)) (fun _ _ _ h=>h) (Or.inr ⟨by rfl,rfl⟩) ?_ ?_
   rotate_left
   .simp only[Act.put,List.setIfInBounds_toArray,List.set_cons_zero,List.set_cons_succ,dL,ed]
    rfl
   refine iD (i:=23) (N:=some 39) (v:=undef) (a':=?_) #[I,I,I,I,I,I,I,I,I,I,I,I,I,I,I,I,I,I,I,I,I,I,I,I,O,O,O] rfl rfl (dQ aC.out (by kernel_rfl)) (fun _ _ _ h=>h) (Or.inr ⟨by rfl,rfl⟩) ?_ ?_
   rotate_left
   .simp only[Act.put,List.setIfInBounds_toArray,List.set_cons_zero,List.set_cons_succ,dL,ed]
    rfl
   refine iD (i:=24) (N:=some 40) (v:=undef) (a':=?_) #[I,I,I,I,I,I,I,I,I,I,I,I,I,I,I,I,I,I,I,I,I,I,I,I,I,O,O] rfl rfl (dQ aC.out (by kernel_rfl)) (fun _ _ _ h=>h) (Or.inr ⟨by rfl,rfl⟩) ?_ ?_
   rotate_left
   .simp only[Act.put,List.setIfInBounds_toArray,List.set_cons_zero,List.set_cons_succ,dL,ed]
    rfl
   refine fu 25 41 #[I,I,I,I,I,I,I,I,I,I,I,I,I,I,I,I,I,I,I,I,I,I,I,I,I,I,O] aC (h:=?_)
   refine fu 26 7 #[I,I,I,I,I,I,I,I,I,I,I,I,I,I,I,I,I,I,I,I,I,I,I,I,I,I,I] aC (h:=?_)
   refine yu (bQ aC.out (by kernel_rfl)) ?_
   gi_wp2_with fail
   go_ret
   exact⟨rfl,[],by rw[HV.out];rfl,by rw[List.append_nil];exact HST.out⟩
  .refine sD (m:=27) (S:=fun w'=>w'.cell? ⟨gc,0,none⟩=some (.slice Ac m c)/\w'.cell? ⟨gw,0,none⟩=some (.pointer (some ⟨gk,0,none⟩))/\w'.cell? ⟨gk,0,none⟩=some (.int .i64 base)/\w'.cell? ⟨gk,1,none⟩=some (.slice Ar rl cr)/\w'.cell? ⟨gk,2,none⟩=some (.slice Af fx.length cf)/\w'.cell? ⟨gr,0,none⟩=some (.int .i64 row)/\w'.cell? ⟨gy,0,none⟩=some (.func (.yield g) #[] #[])/\w'.cell? ⟨xL,0,none⟩=some (.func (.func 151) #[] #[.pointer (some ⟨gc,0,none⟩),.pointer (some ⟨gw,0,none⟩),.pointer (some ⟨gr,0,none⟩),.pointer (some ⟨gy,0,none⟩),.pointer (some ⟨xL,0,none⟩)])) (ds:=[24]) #[O,O,O,O,O,O,O,O,O,O,O,O,O,O,O,O,O,O,O,O,O,O,O,O,O,O,O] (by kernel_rfl) rfl rfl HST.out.st.now.reads (fun hHeld=>?_);refine lZ tQ.Pm tQ.Dr (fun aC bW=>?_)
   replace HST:=aa.mk (HST.out.drew HJ.out)
   generalize W.drew=wd at HST hHeld ⊢
   refine nO 0 16 #[I,O,O,O,O,O,O,O,O,O,O,O,O,O,O,O,O,O,O,O,O,O,O,O,O,O,O] aC bW hHeld (hy:=by(rintro w' ⟨s0,s1,s2,s3,s4,s5,s6,s7⟩;go_simp;with_reducible rfl)) (h:=?_)
   refine fu 1 17 #[I,I,O,O,O,O,O,O,O,O,O,O,O,O,O,O,O,O,O,O,O,O,O,O,O,O,O] aC (h:=?_)
   refine fu 2 18 #[I,I,I,O,O,O,O,O,O,O,O,O,O,O,O,O,O,O,O,O,O,O,O,O,O,O,O] aC (h:=?_)
   refine nO 3 19 #[I,I,I,I,O,O,O,O,O,O,O,O,O,O,O,O,O,O,O,O,O,O,O,O,O,O,O] aC bW hHeld (hy:=by(rintro w' ⟨s0,s1,s2,s3,s4,s5,s6,s7⟩;go_simp;with_reducible rfl)) (h:=?_)
   refine fu 4 20 #[I,I,I,I,I,O,O,O,O,O,O,O,O,O,O,O,O,O,O,O,O,O,O,O,O,O,O] aC (h:=?_)
   refine nO 6 22 #[I,I,I,I,I,O,I,O,O,O,O,O,O,O,O,O,O,O,O,O,O,O,O,O,O,O,O] aC bW hHeld (hy:=by(rintro w' ⟨s0,s1,s2,s3,s4,s5,s6,s7⟩;go_simp;with_reducible rfl)) (h:=?_)
   refine lX (i:=5) (N:=some 21) #[I,I,I,I,I,I,I,O,O,O,O,O,O,O,O,O,O,O,O,O,O,O,O,O,O,O,O] rfl rfl (aN aC.out (by kernel_rfl)) (by decide) (fun K hK=>?_)
   refine lD Tryz.func137 (by kernel_rfl) rfl #[.slice (some ⟨gl,0,none⟩) l.length m] (by rfl) rfl rfl (by(try simp only[List.map_toArray,List.map_cons,List.map_nil]);rfl) ?_
   refine(su l.length l rfl _ HST.out.lb.C hle HLB.out (by omega)).mono ?_
   rintro e_ w_ ⟨rfl,hbx⟩
   refine⟨_,rfl,hK.out _ _ ((HST.out.below HJ.out hbx).st.now.reads) (fun hHeld=>?_)⟩
   clear hK K
   replace HST:=aa.mk (HST.out.below HJ.out hbx)
   clear hbx
   refine iw (by simp only[Act.put,List.setIfInBounds_toArray,List.set_cons_zero,List.set_cons_succ];rfl) ?_
   refine lX (i:=7) (N:=some 23) #[I,I,I,I,I,I,I,I,O,O,O,O,O,O,O,O,O,O,O,O,O,O,O,O,O,O,O] rfl rfl (aN aC.out (by kernel_rfl)) (by decide) (fun K hK=>?_)
   refine lD Tryz.func137 (by kernel_rfl) rfl #[.slice Ac m c] (by rfl) rfl rfl (by(try simp only[List.map_toArray,List.map_cons,List.map_nil]);rfl) ?_
   refine(su m cells HM.out _ HST.out.st.now.kc hmc (fun x hx=>by have:=Ue.out x hx;omega) (by omega)).mono ?_
   rintro e_ w_ ⟨rfl,hbx⟩
   refine⟨_,rfl,hK.out _ _ ((HST.out.below HJ.out hbx).st.now.reads) (fun hHeld=>?_)⟩
   clear hK K
   replace HST:=aa.mk (HST.out.below HJ.out hbx)
   clear hbx
   refine iw (by simp only[Act.put,List.setIfInBounds_toArray,List.set_cons_zero,List.set_cons_succ];rfl) ?_
   refine lX (i:=8) (N:=some 24) #[I,I,I,I,I,I,I,I,I,O,O,O,O,O,O,O,O,O,O,O,O,O,O,O,O,O,O] rfl rfl (aN aC.out (by kernel_rfl)) (by decide) (fun K hK=>?_)
   refine lD Tryz.func149 (by kernel_rfl) rfl #[.agg #[.int .i64 base,.slice Ar rl cr,.slice Af fx.length cf],.int .i64 l.sum,.int .i64 cells.sum] (by rfl) rfl rfl (by(try simp only[List.map_toArray,List.map_cons,List.map_nil]);rfl) ?_
   refine(HNR.out true HB1.out _).mono ?_
   rintro e_ w_ ⟨rfl,hbx⟩
   refine⟨_,rfl,hK.out _ _ ((HST.out.below HJ.out hbx).st.now.reads) (fun hHeld=>?_)⟩
   clear hK K
   replace HST:=aa.mk (HST.out.below HJ.out hbx)
   clear hbx
   refine iw (by simp only[Act.put,List.setIfInBounds_toArray,List.set_cons_zero,List.set_cons_succ];rfl) ?_
   refine fu 9 25 #[I,I,I,I,I,I,I,I,I,I,O,O,O,O,O,O,O,O,O,O,O,O,O,O,O,O,O] aC (h:=?_)
   refine fu 10 26 #[I,I,I,I,I,I,I,I,I,I,I,O,O,O,O,O,O,O,O,O,O,O,O,O,O,O,O] aC (h:=?_)
   refine nO 11 27 #[I,I,I,I,I,I,I,I,I,I,I,I,O,O,O,O,O,O,O,O,O,O,O,O,O,O,O] aC bW hHeld (hy:=by(rintro w' ⟨s0,s1,s2,s3,s4,s5,s6,s7⟩;go_simp;with_reducible rfl)) (h:=?_)
   refine fu 12 28 #[I,I,I,I,I,I,I,I,I,I,I,I,I,O,O,O,O,O,O,O,O,O,O,O,O,O,O] aC (h:=?_)
   refine fu 13 29 #[I,I,I,I,I,I,I,I,I,I,I,I,I,I,O,O,O,O,O,O,O,O,O,O,O,O,O] aC (h:=?_)
   refine nO 14 30 #[I,I,I,I,I,I,I,I,I,I,I,I,I,I,I,O,O,O,O,O,O,O,O,O,O,O,O] aC bW hHeld (hy:=by(rintro w' ⟨s0,s1,s2,s3,s4,s5,s6,s7⟩;go_simp;with_reducible rfl)) (h:=?_)
   refine nO 15 31 #[I,I,I,I,I,I,I,I,I,I,I,I,I,I,I,I,O,O,O,O,O,O,O,O,O,O,O] aC bW hHeld (hy:=by(rintro w' ⟨s0,s1,s2,s3,s4,s5,s6,s7⟩;go_simp;with_reducible rfl)) (h:=?_)
   refine fu 16 32 #[I,I,I,I,I,I,I,I,I,I,I,I,I,I,I,I,I,O,O,O,O,O,O,O,O,O,O] aC (h:=?_)
   refine lX (i:=17) (N:=some 33) #[I,I,I,I,I,I,I,I,I,I,I,I,I,I,I,I,I,I,O,O,O,O,O,O,O,O,O] rfl rfl (aN aC.out (by kernel_rfl)) (by decide) (fun K hK=>?_)
   refine lD Tryz.func152 (by kernel_rfl) rfl #[.agg #[.int .i64 base,.slice Ar rl cr,.slice Af fx.length cf],.int .i64 row,.slice (some ⟨gl,0,none⟩) l.length m] (by rfl) rfl rfl (by(try simp only[List.map_toArray,List.map_cons,List.map_nil]);rfl) ?_
   refine(Ot true (.int .i64 base) (.slice Ar rl cr) row l HB2.out _ HST.out.st.now.kf hcf HST.out.lb.C (fun f hf_ _=>by have:=HFX.out f hf_;omega) hf rfl rfl).mono ?_
   rintro e_ w_ ⟨rfl,hbx⟩
   refine⟨_,rfl,hK.out _ _ ((HST.out.below HJ.out hbx).st.now.reads) (fun hHeld=>?_)⟩
   clear hK K
   replace HST:=aa.mk (HST.out.below HJ.out hbx)
   clear hbx
   refine iw (by simp only[Act.put,List.setIfInBounds_toArray,List.set_cons_zero,List.set_cons_succ];rfl) ?_
   refine fu 18 34 #[I,I,I,I,I,I,I,I,I,I,I,I,I,I,I,I,I,I,I,O,O,O,O,O,O,O,O] aC (h:=?_)
   refine fu 19 35 #[I,I,I,I,I,I,I,I,I,I,I,I,I,I,I,I,I,I,I,I,O,O,O,O,O,O,O] aC (h:=?_)
   refine fu 20 36 #[I,I,I,I,I,I,I,I,I,I,I,I,I,I,I,I,I,I,I,I,I,O,O,O,O,O,O] aC (h:=?_)
   refine nO 21 37 #[I,I,I,I,I,I,I,I,I,I,I,I,I,I,I,I,I,I,I,I,I,I,O,O,O,O,O] aC bW hHeld (hy:=by(rintro w' ⟨s0,s1,s2,s3,s4,s5,s6,s7⟩;go_simp;with_reducible rfl)) (h:=?_)
   refine fu 22 38 #[I,I,I,I,I,I,I,I,I,I,I,I,I,I,I,I,I,I,I,I,I,I,I,O,O,O,O] aC (h:=?_)
   refine lX (i:=23) (N:=some 39) #[I,I,I,I,I,I,I,I,I,I,I,I,I,I,I,I,I,I,I,I,I,I,I,I,O,O,O] rfl rfl (aN aC.out (by kernel_rfl)) (by decide) (fun K hK=>?_)
   refine lD Tryz.func95 (by kernel_rfl) rfl #[.slice (some ⟨gl,0,none⟩) l.length m] (by rfl) rfl rfl (by(try simp only[List.map_toArray,List.map_cons,List.map_nil]);rfl) ?_
   refine(Il rfl _ HST.out.lb.C (by omega)).mono ?_
   rintro e_ w_ ⟨v_,rfl,hR,hbx⟩
   refine⟨_,rfl,hK.out _ _ ((HST.out.below HJ.out hbx).st.now.reads) (fun hHeld=>?_)⟩
   clear hK K
   have HR:=aa.mk (Kd.jD hR HST.out.b0)
   replace HST:=aa.mk (HST.out.below HJ.out hbx)
   clear hbx
   clear hR
   obtain⟨Av,cv,hv_,-,-⟩:=Kd.dU HR.out
   subst hv_
   refine iw (by simp only[Act.put,List.setIfInBounds_toArray,List.set_cons_zero,List.set_cons_succ];rfl) ?_
   refine yc (i:=24) (N:=some 40) #[I,I,I,I,I,I,I,I,I,I,I,I,I,I,I,I,I,I,I,I,I,I,I,I,I,O,O] rfl rfl (aN aC.out (by kernel_rfl)) (by decide) (fun K hK=>?_)
   refine UK #[.slice Av l.length cv] (by rfl) rfl rfl (by rfl) (by(try simp only[List.map_toArray,List.map_cons,List.map_nil]);rfl) (YieldAt.mono (HY.out pre (l,Av,cv) _ HST.out.j ⟨HR.out,II.out l (by rw[HV.out];simp),HST.out.b0⟩ (by have:=HN.out;rw[HV.out] at this;simp at this;omega)) ?_)
   rintro e_ w_ ⟨rfl,hj,hk⟩
   have hback:=HST.out.back hj (hk.mono (Nat.le_refl _) (fun _ _ h=> .inl h)) (HST.out.lb.move (hk.block gl HST.out.lb.lt HSG.out))
   refine⟨_,rfl,hK.out _ _ ?_⟩
   clear hK K
   replace HST:=aa.mk hback
   clear hback hj hk
   refine iw (by simp only[Act.put,List.setIfInBounds_toArray,List.set_cons_zero,List.set_cons_succ];rfl) ?_
   refine fu 25 41 #[I,I,I,I,I,I,I,I,I,I,I,I,I,I,I,I,I,I,I,I,I,I,I,I,I,I,O] aC (h:=?_)
   refine fu 26 7 #[I,I,I,I,I,I,I,I,I,I,I,I,I,I,I,I,I,I,I,I,I,I,I,I,I,I,I] aC (h:=?_)
   refine yu (bQ aC.out (by kernel_rfl)) ?_
   gi_wp2_with fail
   go_ret
   exact⟨rfl,[(l,Av,cv)],by rw[HV.out];rfl,HST.out⟩
 |cons n rest ih=>
  intro l done k pre W hcd hdk hlk hlb hall hN hST
  obtain rfl:=hlk
  have hlen:done.length+(rest.length+1)=m:=by rw[<- hm,hcd,List.length_append,List.length_cons]
  have hlt:l.length<m:=by omega
  have hkm:((l.length:Int)==(m:Int))=false:=by simpa using (show(l.length:Int)≠(m:Int) by omega)
  have ac4:rd cells (l.length:Int)=n:=by
   show cells.getD (l.length:Int).toNat 0=n
   rw[Int.toNat_natCast,<- hdk,hcd,List.getD_eq_getElem?_getD,List.getElem?_append_right (Nat.le_refl _),Nat.sub_self]
   rfl
  have hnb:=Ue.out n (by rw[hcd];simp)
  obtain⟨low,hlow⟩:∃y,ji base n=y:=⟨_,rfl⟩
  obtain⟨high,hhigh⟩:∃y,mi base n=y:=⟨_,rfl⟩
  have hlr:=nJ (n:=n) hb
  have hhr:=xw (n:=n) hb
  have hl0:0<=ji base n:=by
   unfold ji
   have h1:=Int.mul_ediv_add_emod n base
   have h2:=Int.mul_nonneg (show 0<=base by omega) (Int.ediv_nonneg hnb.1 (show 0<=base by omega))
   omega
  rw[hlow] at hlr hl0
  rw[hhigh] at hhr
  have hV:dO base (Aq base cells fx row) (n::rest) l=dO base (Aq base cells fx row) rest (l++[low])++if low=high then [] else dO base (Aq base cells fx row) rest (l++[high]):=by
   rw[<- hlow,<- hhigh]
   rfl
  rw[hV] at hall hN ⊢
  obtain⟨v1,hv1⟩:∃v,dO base (Aq base cells fx row) rest (l++[low])=v:=⟨_,rfl⟩
  obtain⟨v2,hv2⟩:∃v,dO base (Aq base cells fx row) rest (l++[high])=v:=⟨_,rfl⟩
  rw[hv1,hv2] at hall hN ⊢
  have HI1:=aa.mk (fun pre W hN hS=>by
   have:=ih (l++[low]) (done++[n]) (l.length+1) pre W (by rw[hcd];simp) (by simp;omega) (by simp) (fun x hx=>by
    rcases List.mem_append.1 hx with h|h
    .exact hlb x h
    .rw[List.mem_singleton.1 h];omega) (fun x hx=>hall x (List.mem_append_left _ (by rw[<- hv1];exact hx))) (by rw[hv1];exact hN) hS
   rw[hv1] at this
   exact this:∀pre W,pre.length+v1.length<=N->pU (fun b=>S b\/b=gl) (r9 gc gw gr gy xL gk g m c cr cf rl Ac Ar Af cells base row fx vm) J gl m B0 (l++[low]) pre W W->Calls Tryz.prog 151 #[.slice (some ⟨gl,0,none⟩) (l.length+1) m,.pointer (some ⟨gc,0,none⟩),.pointer (some ⟨gw,0,none⟩),.pointer (some ⟨gr,0,none⟩),.pointer (some ⟨gy,0,none⟩),.pointer (some ⟨xL,0,none⟩)] W fun e W'=>e= .returned (.bool true)/\∃ys,ys.map (·.1)=v1/\pU (fun b=>S b\/b=gl) (r9 gc gw gr gy xL gk g m c cr cf rl Ac Ar Af cells base row fx vm) J gl m B0 (l++[low]) (pre++ys) W W')
  have HI2:=aa.mk (fun hne pre W hN hS=>by
   have:=ih (l++[high]) (done++[n]) (l.length+1) pre W (by rw[hcd];simp) (by simp;omega) (by simp) (fun x hx=>by
    rcases List.mem_append.1 hx with h|h
    .exact hlb x h
    .rw[List.mem_singleton.1 h];omega) (fun x hx=>hall x (List.mem_append_right _ (by rw[if_neg hne,<- hv2];exact hx))) (by rw[hv2];exact hN) hS
   rw[hv2] at this
   exact this:low≠high->∀pre W,pre.length+v2.length<=N->pU (fun b=>S b\/b=gl) (r9 gc gw gr gy xL gk g m c cr cf rl Ac Ar Af cells base row fx vm) J gl m B0 (l++[high]) pre W W->Calls Tryz.prog 151 #[.slice (some ⟨gl,0,none⟩) (l.length+1) m,.pointer (some ⟨gc,0,none⟩),.pointer (some ⟨gw,0,none⟩),.pointer (some ⟨gr,0,none⟩),.pointer (some ⟨gy,0,none⟩),.pointer (some ⟨xL,0,none⟩)] W fun e W'=>e= .returned (.bool true)/\∃ys,ys.map (·.1)=v2/\pU (fun b=>S b\/b=gl) (r9 gc gw gr gy xL gk g m c cr cf rl Ac Ar Af cells base row fx vm) J gl m B0 (l++[high]) (pre++ys) W W')
  have YN:=aa.mk (show ∀w,Calls _ _ _ w _ from fun w=>Xd base n low hlow (.slice Ar rl cr) (.slice Af fx.length cf) w hb hb1 (by omega) (by omega))
  have HAB:=aa.mk (show ∀w,Calls _ _ _ w _ from fun w=>Xh base n high hhigh (.slice Ar rl cr) (.slice Af fx.length cf) w hb hb1 (by omega) (by omega))
  obtain⟨vv,hvv⟩:∃v,v1++(if low=high then [] else v2)=v:=⟨_,rfl⟩
  have HVV:=aa.mk hvv
  have HN:=aa.mk hN
  have HST:=aa.mk hST
  rw[hvv]
  clear hvv ih hall hN hST hv1 hv2 hV hlow hhigh hhr hlr hl0 hcd hdk hlen hlb hm
  refine callsIn_wide.1 (callsIn_of_wp (F:=Fence.wide) (n:=9) Tryz.func151 rfl trivial ?_ rfl)
  simp only[Tryz.ntmps151,List.size_toArray,List.length_cons,List.length_nil,Nat.reduceAdd,Nat.reduceSub,Array.replicate_succ,Array.replicate_zero,List.push_toArray,List.append_toArray,List.nil_append,List.cons_append]
  have h1:=HST.out.st.now.c
  obtain⟨ad,e,h2⟩:=Kd.dz HST.out.st.now.kc (l.length:Int) (by omega) (by omega)
  cases e
  rw[Int.toNat_natCast,ac4] at h2
  have hlt2:(l.length:Int)<(m:Int):=by omega
  clear ac4
  gi_wp2_with fail
  clear h1 h2
  refine sD (m:=14) (S:=fun w'=>w'.cell? ⟨gc,0,none⟩=some (.slice (some ad) m c)/\w'.cell? ⟨gw,0,none⟩=some (.pointer (some ⟨gk,0,none⟩))/\w'.cell? ⟨gk,0,none⟩=some (.int .i64 base)/\w'.cell? ⟨gk,1,none⟩=some (.slice Ar rl cr)/\w'.cell? ⟨gk,2,none⟩=some (.slice Af fx.length cf)/\w'.cell? ⟨gr,0,none⟩=some (.int .i64 row)/\w'.cell? ⟨gy,0,none⟩=some (.func (.yield g) #[] #[])/\w'.cell? ⟨xL,0,none⟩=some (.func (.func 151) #[] #[.pointer (some ⟨gc,0,none⟩),.pointer (some ⟨gw,0,none⟩),.pointer (some ⟨gr,0,none⟩),.pointer (some ⟨gy,0,none⟩),.pointer (some ⟨xL,0,none⟩)])) (ds:=[11]) #[O,O,O,O,O,O,O,O,O,O,O,O,O,O] (by kernel_rfl) rfl rfl HST.out.st.now.reads (fun hHeld=>?_);refine lZ tQ.Lv tQ.Bi (fun aC bW=>?_)
  replace HST:=aa.mk (HST.out.drew HJ.out)
  generalize W.drew=wd at HST hHeld ⊢
  refine nO 0 47 #[I,O,O,O,O,O,O,O,O,O,O,O,O,O] aC bW hHeld (hy:=by(rintro w' ⟨s0,s1,s2,s3,s4,s5,s6,s7⟩;go_simp;with_reducible rfl)) (h:=?_)
  refine fu 1 48 #[I,I,O,O,O,O,O,O,O,O,O,O,O,O] aC (h:=?_)
  refine fu 2 49 #[I,I,I,O,O,O,O,O,O,O,O,O,O,O] aC (h:=?_)
  refine nO 3 50 #[I,I,I,I,O,O,O,O,O,O,O,O,O,O] aC bW hHeld (hy:=by(rintro w' ⟨s0,s1,s2,s3,s4,s5,s6,s7⟩;go_simp;with_reducible rfl)) (h:=?_)
  refine fu 4 51 #[I,I,I,I,I,O,O,O,O,O,O,O,O,O] aC (h:=?_)
  refine nO 6 53 #[I,I,I,I,I,O,I,O,O,O,O,O,O,O] aC bW hHeld (hy:=by(rintro w' ⟨s0,s1,s2,s3,s4,s5,s6,s7⟩;go_simp;with_reducible rfl)) (h:=?_)
  refine fu 7 54 #[I,I,I,I,I,O,I,I,O,O,O,O,O,O] aC (h:=?_)
  refine fu 8 55 #[I,I,I,I,I,O,I,I,I,O,O,O,O,O] aC (h:=?_)
  refine nO 9 56 #[I,I,I,I,I,O,I,I,I,I,O,O,O,O] aC bW hHeld (hy:=by(rintro w' ⟨s0,s1,s2,s3,s4,s5,s6,s7⟩;go_simp;with_reducible rfl)) (h:=?_)
  refine fu 10 57 #[I,I,I,I,I,O,I,I,I,I,I,O,O,O] aC (h:=?_)
  refine lX (i:=5) (N:=some 52) #[I,I,I,I,I,I,I,I,I,I,I,O,O,O] rfl rfl (aN aC.out (by kernel_rfl)) (by decide) (fun K hK=>?_)
  refine lD Tryz.func153 (by kernel_rfl) rfl #[.agg #[.int .i64 base,.slice Ar rl cr,.slice Af fx.length cf],.int .i64 n] (by rfl) rfl rfl (by(try simp only[List.map_toArray,List.map_cons,List.map_nil]);rfl) ?_
  refine(YN.out _).mono ?_
  rintro e_ w_ ⟨rfl,hbx⟩
  refine⟨_,rfl,hK.out _ _ ((HST.out.below HJ.out hbx).st.now.reads) (fun hHeld=>?_)⟩
  clear hK K
  replace HST:=aa.mk (HST.out.below HJ.out hbx)
  clear hbx
  refine iw (by simp only[Act.put,List.setIfInBounds_toArray,List.set_cons_zero,List.set_cons_succ];rfl) ?_
  refine yc (i:=11) (N:=some 58) #[I,I,I,I,I,I,I,I,I,I,I,I,O,O] rfl rfl (aN aC.out (by kernel_rfl)) (by decide) (fun K hK=>?_)
  refine lD Tryz.func154 (by kernel_rfl) rfl #[.agg #[.int .i64 base,.slice Ar rl cr,.slice Af fx.length cf],.int .i64 n] (by rfl) rfl rfl (by(try simp only[List.map_toArray,List.map_cons,List.map_nil]);rfl) ?_
  refine(HAB.out _).mono ?_
  rintro e_ w_ ⟨rfl,hbx⟩
  refine⟨_,rfl,hK.out _ _ ?_⟩
  clear hK K
  replace HST:=aa.mk (HST.out.below HJ.out hbx)
  clear hbx
  refine iw (by simp only[Act.put,List.setIfInBounds_toArray,List.set_cons_zero,List.set_cons_succ];rfl) ?_
  refine fu 12 9 #[I,I,I,I,I,I,I,I,I,I,I,I,I,O] aC (h:=?_)
  refine fu 13 10 #[I,I,I,I,I,I,I,I,I,I,I,I,I,I] aC (h:=?_)
  refine yu (bQ aC.out (by kernel_rfl)) ?_
  gi_wp2_with fail
  by_cases hlh:low=high
  .have aju:(low==high)=true:=by simpa using hlh
   have HLH:=aa.mk hlh
   clear hlh
   refine sD (m:=20) (S:=fun w'=>w'.cell? ⟨xL,0,none⟩=some (.func (.func 151) #[] #[.pointer (some ⟨gc,0,none⟩),.pointer (some ⟨gw,0,none⟩),.pointer (some ⟨gr,0,none⟩),.pointer (some ⟨gy,0,none⟩),.pointer (some ⟨xL,0,none⟩)])) (ds:=[5]) #[O,O,O,O,O,O,O,O,O,O,O,O,O,O,O,O,O,O,O,O] (by kernel_rfl) rfl rfl HST.out.st.now.h (fun hHeld=>?_);refine lZ tQ.Jf tQ.yT (fun aC bW=>?_)
   replace HST:=aa.mk (HST.out.drew HJ.out)
   generalize World.drew _=wd at HST hHeld ⊢
   refine nO 0 59 #[I,O,O,O,O,O,O,O,O,O,O,O,O,O,O,O,O,O,O,O] aC bW hHeld (hy:=by(rintro w' s0;go_simp;with_reducible rfl)) (h:=?_)
   refine fu 1 60 #[I,I,O,O,O,O,O,O,O,O,O,O,O,O,O,O,O,O,O,O] aC (h:=?_)
   refine fu 2 61 #[I,I,I,O,O,O,O,O,O,O,O,O,O,O,O,O,O,O,O,O] aC (h:=?_)
   refine lX (i:=3) (N:=some 62) #[I,I,I,I,O,O,O,O,O,O,O,O,O,O,O,O,O,O,O,O] rfl rfl (aN aC.out (by kernel_rfl)) (by decide) (fun K hK=>?_)
   refine zl (w1:=?_) (v:=?_) (by rfl) rfl ?_ ?_
   rotate_left 2
   .go_simp
    constructor<;>rfl
   refine hK.out _ _ ((HST.out.below HJ.out (ae (Below.refl _ _) (.cells #[.int .i64 low] 3))).st.now.h) (fun hHeld=>?_)
   clear hK K
   have hcs:=(aR.new wd [.int .i64 low] 3).cell 0
   simp only[List.getElem?_cons_zero] at hcs
   replace HST:=aa.mk (HST.out.below HJ.out (ae (Below.refl _ _) (.cells #[.int .i64 low] 3)))
   generalize hgs:wd.heap.size=gs at hcs ⊢
   clear hgs
   generalize wd.alloc (.cells #[.int .i64 low] 3)=we at hcs HST hHeld ⊢
   refine iw (by simp only[Act.put,List.setIfInBounds_toArray,List.set_cons_zero,List.set_cons_succ];rfl) ?_
   refine lX (i:=4) (N:=some 63) #[I,I,I,I,I,O,O,O,O,O,O,O,O,O,O,O,O,O,O,O] rfl rfl (aN aC.out (by kernel_rfl)) (by decide) (fun K hK=>?_)
   have hsp:=HST.out.lb.spare hlt
   refine Ty (.tmp 60) (.tmp 62) 22 (by rfl) rfl rfl 3 Tryz.underlying22 vS gl l.length m (by rfl) ⟨gs,0,none⟩ low (by rfl) hcs (by omega) hsp.1 hsp.2 ?_
   have hset:=HST.out.set HJ.out hlo (.inr rfl) hlt low
   refine hK.out _ _ hset.st.now.h (fun hHeld=>?_)
   clear hK K hcs hsp
   replace HST:=aa.mk hset
   clear hset
   generalize we.setCell ⟨gl,l.length,none⟩ (.int .i64 low)=wf at HST hHeld ⊢
   refine iw (by simp only[Act.put,List.setIfInBounds_toArray,List.set_cons_zero,List.set_cons_succ];rfl) ?_
   refine yc (i:=5) (N:=some 64) #[I,I,I,I,I,I,O,O,O,O,O,O,O,O,O,O,O,O,O,O] rfl rfl (aN aC.out (by kernel_rfl)) (by decide) (fun K hK=>?_)
   refine Ie Tryz.func151 (by kernel_rfl) rfl #[.slice (some ⟨gl,0,none⟩) (l.length+1) m] (by rfl) rfl rfl (by rfl) (by(try simp only[List.map_toArray,List.map_cons,List.map_nil]);rfl) ?_
   simp only[List.append_toArray,List.cons_append,List.nil_append]
   refine(HI1.out pre wf (by have:=HN.out;simp only[List.length_append] at this;omega) HST.out.fresh).mono ?_
   rintro e_ w_ ⟨rfl,ys,zb,eB⟩
   have hback:=HST.out.back eB.j eB.kw eB.lb.pre
   refine⟨_,rfl,hK.out _ _ ?_⟩
   clear hK K
   have HYS:=aa.mk zb
   replace HST:=aa.mk hback
   clear hback zb eB
   refine iw (by simp only[Act.put,List.setIfInBounds_toArray,List.set_cons_zero,List.set_cons_succ];rfl) ?_
   refine fu 6 65 #[I,I,I,I,I,I,I,O,O,O,O,O,O,O,O,O,O,O,O,O] aC (h:=?_)
   refine fu 7 66 #[I,I,I,I,I,I,I,I,O,O,O,O,O,O,O,O,O,O,O,O] aC (h:=?_)
   refine fu 8 67 #[I,I,I,I,I,I,I,I,I,O,O,O,O,O,O,O,O,O,O,O] aC (h:=?_)
   refine fu 9 68 #[I,I,I,I,I,I,I,I,I,I,O,O,O,O,O,O,O,O,O,O] aC (h:=?_)
   refine fu 10 69 #[I,I,I,I,I,I,I,I,I,I,I,O,O,O,O,O,O,O,O,O] aC (h:=?_)
   refine iD (i:=11) (N:=some 70) (v:=undef) (a':=?_) #[I,I,I,I,I,I,I,I,I,I,I,I,O,O,O,O,O,O,O,O] rfl rfl (dQ aC.out (by kernel_rfl)) (fun _ _ _ h=>h) (Or.inr ⟨by rfl,rfl⟩) ?_ ?_
   rotate_left
   .simp only[Act.put,List.setIfInBounds_toArray,List.set_cons_zero,List.set_cons_succ,dL,ed]
    rfl
   refine iD (i:=12) (N:=some 71) (v:=undef) (a':=?_) #[I,I,I,I,I,I,I,I,I,I,I,I,I,O,O,O,O,O,O,O] rfl rfl (dQ aC.out (by kernel_rfl)) (fun _ _ _ h=>h) (Or.inr ⟨by rfl,rfl⟩) ?_ ?_
   rotate_left
   .simp only[Act.put,List.setIfInBounds_toArray,List.set_cons_zero,List.set_cons_succ,dL,ed]
    rfl
   refine iD (i:=13) (N:=some 72) (v:=undef) (a':=?_) #[I,I,I,I,I,I,I,I,I,I,I,I,I,I,O,O,O,O,O,O] rfl rfl (dQ aC.out (by kernel_rfl)) (fun _ _ _ h=>h) (Or.inr ⟨by rfl,rfl⟩) ?_ ?_
   rotate_left
   .simp only[Act.put,List.setIfInBounds_toArray,List.set_cons_zero,List.set_cons_succ,dL,ed]
    rfl
   refine iD (i:=14) (N:=some 73) (v:=undef) (a':=?_) #[I,I,I,I,I,I,I,I,I,I,I,I,I,I,I,O,O,O,O,O] rfl rfl (dQ aC.out (by kernel_rfl)) (fun _ _ _ h=>h) (Or.inr ⟨by rfl,rfl⟩) ?_ ?_
   rotate_left
   .simp only[Act.put,List.setIfInBounds_toArray,List.set_cons_zero,List.set_cons_succ,dL,ed]
    rfl
   refine iD (i:=15) (N:=some 74) (v:=undef) (a':=?_) #[I,I,I,I,I,I,I,I,I,I,I,I,I,I,I,I,O,O,O,O] rfl rfl (dQ aC.out (by kernel_rfl)) (fun _ _ _ h=>h) (Or.inr ⟨by rfl,rfl⟩) ?_ ?_
   rotate_left
   .simp only[Act.put,List.setIfInBounds_toArray,List.set_cons_zero,List.set_cons_succ,dL,ed]
    rfl
   refine iD (i:=16) (N:=some 75) (v:=undef) (a':=?_) #[I,I,I,I,I,I,I,I,I,I,I,I,I,I,I,I,I,O,O,O] rfl rfl (dQ aC.out (by kernel_rfl)) (fun _ _ _ h=>h) (Or.inr ⟨by rfl,rfl⟩) ?_ ?_
   rotate_left
   .simp only[Act.put,List.setIfInBounds_toArray,List.set_cons_zero,List.set_cons_succ,dL,ed]
    rfl
   refine fu 17 76 #[I,I,I,I,I,I,I,I,I,I,I,I,I,I,I,I,I,I,O,O] aC (h:=?_)
   refine fu 18 77 #[I,I,I,I,I,I,I,I,I,I,I,I,I,I,I,I,I,I,I,O] aC (h:=?_)
   refine fu 19 7 #[I,I,I,I,I,I,I,I,I,I,I,I,I,I,I,I,I,I,I,I] aC (h:=?_)
   refine yu (bQ aC.out (by kernel_rfl)) ?_
   gi_wp2_with fail
   go_ret
   exact⟨rfl,ys,by rw[<- HVV.out,if_pos HLH.out,List.append_nil];exact HYS.out,HST.out⟩
  .have aju:(low==high)=false:=by simpa using hlh
   have HLH:=aa.mk hlh
   clear hlh
   refine sD (m:=20) (S:=fun w'=>w'.cell? ⟨xL,0,none⟩=some (.func (.func 151) #[] #[.pointer (some ⟨gc,0,none⟩),.pointer (some ⟨gw,0,none⟩),.pointer (some ⟨gr,0,none⟩),.pointer (some ⟨gy,0,none⟩),.pointer (some ⟨xL,0,none⟩)])) (ds:=[16]) #[O,O,O,O,O,O,O,O,O,O,O,O,O,O,O,O,O,O,O,O] (by kernel_rfl) rfl rfl HST.out.st.now.h (fun hHeld=>?_);refine lZ tQ.Jf tQ.yT (fun aC bW=>?_)
   replace HST:=aa.mk (HST.out.drew HJ.out)
   generalize World.drew _=wd at HST hHeld ⊢
   refine nO 0 59 #[I,O,O,O,O,O,O,O,O,O,O,O,O,O,O,O,O,O,O,O] aC bW hHeld (hy:=by(rintro w' s0;go_simp;with_reducible rfl)) (h:=?_)
   refine fu 1 60 #[I,I,O,O,O,O,O,O,O,O,O,O,O,O,O,O,O,O,O,O] aC (h:=?_)
   refine fu 2 61 #[I,I,I,O,O,O,O,O,O,O,O,O,O,O,O,O,O,O,O,O] aC (h:=?_)
   refine lX (i:=3) (N:=some 62) #[I,I,I,I,O,O,O,O,O,O,O,O,O,O,O,O,O,O,O,O] rfl rfl (aN aC.out (by kernel_rfl)) (by decide) (fun K hK=>?_)
   refine zl (w1:=?_) (v:=?_) (by rfl) rfl ?_ ?_
   rotate_left 2
   .go_simp
    constructor<;>rfl
   refine hK.out _ _ ((HST.out.below HJ.out (ae (Below.refl _ _) (.cells #[.int .i64 low] 3))).st.now.h) (fun hHeld=>?_)
   clear hK K
   have hcs:=(aR.new wd [.int .i64 low] 3).cell 0
   simp only[List.getElem?_cons_zero] at hcs
   replace HST:=aa.mk (HST.out.below HJ.out (ae (Below.refl _ _) (.cells #[.int .i64 low] 3)))
   generalize hgs:wd.heap.size=gs at hcs ⊢
   clear hgs
   generalize wd.alloc (.cells #[.int .i64 low] 3)=we at hcs HST hHeld ⊢
   refine iw (by simp only[Act.put,List.setIfInBounds_toArray,List.set_cons_zero,List.set_cons_succ];rfl) ?_
   refine lX (i:=4) (N:=some 63) #[I,I,I,I,I,O,O,O,O,O,O,O,O,O,O,O,O,O,O,O] rfl rfl (aN aC.out (by kernel_rfl)) (by decide) (fun K hK=>?_)
   have hsp:=HST.out.lb.spare hlt
   refine Ty (.tmp 60) (.tmp 62) 22 (by rfl) rfl rfl 3 Tryz.underlying22 vS gl l.length m (by rfl) ⟨gs,0,none⟩ low (by rfl) hcs (by omega) hsp.1 hsp.2 ?_
   have hset:=HST.out.set HJ.out hlo (.inr rfl) hlt low
   refine hK.out _ _ hset.st.now.h (fun hHeld=>?_)
   clear hK K hcs hsp
   replace HST:=aa.mk hset
   clear hset
   generalize we.setCell ⟨gl,l.length,none⟩ (.int .i64 low)=wf at HST hHeld ⊢
   refine iw (by simp only[Act.put,List.setIfInBounds_toArray,List.set_cons_zero,List.set_cons_succ];rfl) ?_
   refine lX (i:=5) (N:=some 64) #[I,I,I,I,I,I,O,O,O,O,O,O,O,O,O,O,O,O,O,O] rfl rfl (aN aC.out (by kernel_rfl)) (by decide) (fun K hK=>?_)
   refine Ie Tryz.func151 (by kernel_rfl) rfl #[.slice (some ⟨gl,0,none⟩) (l.length+1) m] (by rfl) rfl rfl (by rfl) (by(try simp only[List.map_toArray,List.map_cons,List.map_nil]);rfl) ?_
   simp only[List.append_toArray,List.cons_append,List.nil_append]
   refine(HI1.out pre wf (by have:=HN.out;simp only[List.length_append] at this;omega) HST.out.fresh).mono ?_
   rintro e_ w_ ⟨rfl,ys,zb,eB⟩
   have hback:=HST.out.back eB.j eB.kw eB.lb.pre
   refine⟨_,rfl,hK.out _ _ hback.st.now.h (fun hHeld=>?_)⟩
   clear hK K
   have HYS:=aa.mk zb
   replace HST:=aa.mk hback
   clear hback zb eB
   generalize w_=wd at HST hHeld ⊢
   refine iw (by simp only[Act.put,List.setIfInBounds_toArray,List.set_cons_zero,List.set_cons_succ];rfl) ?_
   refine fu 6 65 #[I,I,I,I,I,I,I,O,O,O,O,O,O,O,O,O,O,O,O,O] aC (h:=?_)
   refine fu 7 66 #[I,I,I,I,I,I,I,I,O,O,O,O,O,O,O,O,O,O,O,O] aC (h:=?_)
   refine fu 8 67 #[I,I,I,I,I,I,I,I,I,O,O,O,O,O,O,O,O,O,O,O] aC (h:=?_)
   refine fu 9 68 #[I,I,I,I,I,I,I,I,I,I,O,O,O,O,O,O,O,O,O,O] aC (h:=?_)
   refine fu 10 69 #[I,I,I,I,I,I,I,I,I,I,I,O,O,O,O,O,O,O,O,O] aC (h:=?_)
   refine nO 11 70 #[I,I,I,I,I,I,I,I,I,I,I,I,O,O,O,O,O,O,O,O] aC bW hHeld (hy:=by(rintro w' s0;go_simp;with_reducible rfl)) (h:=?_)
   refine fu 12 71 #[I,I,I,I,I,I,I,I,I,I,I,I,I,O,O,O,O,O,O,O] aC (h:=?_)
   refine fu 13 72 #[I,I,I,I,I,I,I,I,I,I,I,I,I,I,O,O,O,O,O,O] aC (h:=?_)
   refine lX (i:=14) (N:=some 73) #[I,I,I,I,I,I,I,I,I,I,I,I,I,I,I,O,O,O,O,O] rfl rfl (aN aC.out (by kernel_rfl)) (by decide) (fun K hK=>?_)
   refine zl (w1:=?_) (v:=?_) (by rfl) rfl ?_ ?_
   rotate_left 2
   .go_simp
    constructor<;>rfl
   refine hK.out _ _ ((HST.out.below HJ.out (ae (Below.refl _ _) (.cells #[.int .i64 high] 3))).st.now.h) (fun hHeld=>?_)
   clear hK K
   have hcs:=(aR.new wd [.int .i64 high] 3).cell 0
   simp only[List.getElem?_cons_zero] at hcs
   replace HST:=aa.mk (HST.out.below HJ.out (ae (Below.refl _ _) (.cells #[.int .i64 high] 3)))
   generalize hgs:wd.heap.size=gs at hcs ⊢
   clear hgs
   generalize wd.alloc (.cells #[.int .i64 high] 3)=we at hcs HST hHeld ⊢
   refine iw (by simp only[Act.put,List.setIfInBounds_toArray,List.set_cons_zero,List.set_cons_succ];rfl) ?_
   refine lX (i:=15) (N:=some 74) #[I,I,I,I,I,I,I,I,I,I,I,I,I,I,I,I,O,O,O,O] rfl rfl (aN aC.out (by kernel_rfl)) (by decide) (fun K hK=>?_)
   have hsp:=HST.out.lb.spare hlt
   refine Ty (.tmp 71) (.tmp 73) 22 (by rfl) rfl rfl 3 Tryz.underlying22 vS gl l.length m (by rfl) ⟨gs,0,none⟩ high (by rfl) hcs (by omega) hsp.1 hsp.2 ?_
   have hset:=HST.out.set HJ.out hlo (.inr rfl) hlt high
   refine hK.out _ _ hset.st.now.h (fun hHeld=>?_)
   clear hK K hcs hsp
   replace HST:=aa.mk hset
   clear hset
   generalize we.setCell ⟨gl,l.length,none⟩ (.int .i64 high)=wf at HST hHeld ⊢
   refine iw (by simp only[Act.put,List.setIfInBounds_toArray,List.set_cons_zero,List.set_cons_succ];rfl) ?_
   refine yc (i:=16) (N:=some 75) #[I,I,I,I,I,I,I,I,I,I,I,I,I,I,I,I,I,O,O,O] rfl rfl (aN aC.out (by kernel_rfl)) (by decide) (fun K hK=>?_)
   refine Ie Tryz.func151 (by kernel_rfl) rfl #[.slice (some ⟨gl,0,none⟩) (l.length+1) m] (by rfl) rfl rfl (by rfl) (by(try simp only[List.map_toArray,List.map_cons,List.map_nil]);rfl) ?_
   simp only[List.append_toArray,List.cons_append,List.nil_append]
   refine(HI2.out HLH.out (pre++ys) wf (by have:=HN.out;have hy1:=congrArg List.length HYS.out;rw[if_neg HLH.out] at this;simp only[List.length_append,List.length_map] at this hy1 ⊢;omega) HST.out.fresh).mono ?_
   rintro e_ w_ ⟨rfl,ys2,zb,eB⟩
   have hback:=HST.out.back eB.j eB.kw eB.lb.pre
   refine⟨_,rfl,hK.out _ _ ?_⟩
   clear hK K
   have akP:=aa.mk zb
   replace HST:=aa.mk hback
   clear hback zb eB
   refine iw (by simp only[Act.put,List.setIfInBounds_toArray,List.set_cons_zero,List.set_cons_succ];rfl) ?_
   refine fu 17 76 #[I,I,I,I,I,I,I,I,I,I,I,I,I,I,I,I,I,I,O,O] aC (h:=?_)
   refine fu 18 77 #[I,I,I,I,I,I,I,I,I,I,I,I,I,I,I,I,I,I,I,O] aC (h:=?_)
   refine fu 19 7 #[I,I,I,I,I,I,I,I,I,I,I,I,I,I,I,I,I,I,I,I] aC (h:=?_)
   refine yu (bQ aC.out (by kernel_rfl)) ?_
   gi_wp2_with fail
   go_ret
   exact⟨rfl,ys++ys2,by rw[<- HVV.out,if_neg HLH.out,List.map_append,HYS.out,akP.out],by rw[<- List.append_assoc];exact HST.out⟩
end Go.Proofs.YtkjoilgpmngndaaGreat
