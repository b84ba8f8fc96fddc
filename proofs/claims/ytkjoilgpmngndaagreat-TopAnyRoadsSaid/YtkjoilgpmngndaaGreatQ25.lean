import Derived.Test.YtkjoilgpmngndaaGreatQ24
set_option maxHeartbeats 40000000
set_option maxRecDepth 100000
set_option linter.all false
namespace Go.Proofs.YtkjoilgpmngndaaGreat.Wk
open Go.RowKit Go.Shelf au YtkjoilgpmngndaaGreatW.aj YtkjoilgpmngndaaGreatW.aJ
def fl.T18:Bool×List (List Nat×List Nat):=(true,[([],[]),([],[]),([],[]),([2],[2]),([0,1,3,3],[0,1,3]),([],[]),([4,5],[4,5])])
def fl.B18:List Nat:=[0,0,0,4,15,0,63]
theorem fl.aa1:dW .any (opsOf Tryz.f30 18)=fl.T18:=by kernel_rfl
theorem fl.Zt:bJ fl.T18.2 fl.B18=true:=by kernel_rfl
def mi(R:List aV):List qI->Int->Int
 |[],e=>e
 |x::xs,e=>if eQ R x.f0 x.f1=3 then 3 else mi R xs (if eQ R x.f0 x.f1=2 then 2 else e)
def lQ(R:List aV)(p:List qI):Int:=if 8<p.length then 3 else mi R p 0
theorem yG{p:List qI}{k:Nat}(h:k<p.length):iB p (k:Int) ∈ p:=by
 have:iB p (k:Int)=p[k]:=by simp[iB,List.getD,h]
 rw[this]
 exact List.getElem_mem h
theorem JJ{R:List aV}{p:List qI}{k:Nat}(h:k<p.length){x:qI}(hx:iB p (k:Int)=x)(e:Int):mi R (p.drop k) e=if eQ R x.f0 x.f1=3 then 3 else mi R (p.drop (k+1)) (if eQ R x.f0 x.f1=2 then 2 else e):=by
 rw[getD_drop p k z80 h,show p.getD k z80=x by rw[<- hx];simp[iB]]
 rfl
def sO(p:List qI):Prop:=∀x ∈ p,x.f0.length<1000000/\x.f1.length<1000000
theorem JI{A0:Option Addr}{c0:Nat}{Wk:List dP}{A1:Option Addr}{c1:Nat}{R:List aV}{w:World}(h:IsMap w A0 c0 Wk A1 c1 R)
  (p:List qI) {Ap:Option Addr} {cp:Nat} (hp:Kd.C PW w Ap p.length p) (hpb:p.length<1000000) (hs:sO p):
  Calls Tryz.prog 73 #[.agg #[.slice A0 Wk.length c0,.slice A1 R.length c1],.slice Ap p.length cp] w λe w'=>e= .returned (.int .i64 (lQ R p))/\Below w.heap.size w w':=by
 have H:=aa.mk h
 have HP:=aa.mk hp
 have HS:=aa.mk hs
 clear h hp hs
 go_enter Tryz.func73,Tryz.ntmps73
 by_cases h8:(8:Int)<(p.length:Int)
 .have h8d:decide ((8:Int)<(p.length:Int))=true:=by simpa using h8
  have HF:=aa.mk (show lQ R p=3 by unfold lQ;rw[if_pos (by omega)])
  clear h8
  go_wp2_with fail
  go_ret
  rw[HF.out]
  exact⟨rfl,ae (Below.refl w.heap.size w) _⟩
 .have h8d:decide ((8:Int)<(p.length:Int))=false:=by simpa using h8
  have HF:=aa.mk (show lQ R p=mi R p 0 by unfold lQ;rw[if_neg (by omega)])
  clear h8
  go_wp2_with fail
  have HB:=aa.mk (ae (Below.refl w.heap.size w) (.cells #[.slice A0 Wk.length c0,.slice A1 R.length c1] 78))
  have B2:=aa.mk (aR.new w [.slice A0 Wk.length c0,.slice A1 R.length c1] 78)
  generalize w.alloc (.cells #[.slice A0 Wk.length c0,.slice A1 R.length c1] 78)=w1 at HB B2 ⊢
  go_loopw [4,12] (λv4 v12 wr=>∃(k:Nat) (e:Int),k<=p.length/\v12= .int .i64 k/\v4= .int .i64 e/\aa (Below w.heap.size w wr)/\aa (aR wr w.heap.size [.slice A0 Wk.length c0,.slice A1 R.length c1] 78)/\aa (mi R p 0=mi R (p.drop k) e)) (λ_ v12 _=>p.length-(intOf v12).toNat)
  case atStart=>exact⟨0,0,Nat.zero_le _,rfl,rfl,HB,B2,⟨rfl⟩⟩
  case round=>
   clear HB B2
   obtain⟨k,e,hk,rfl,rfl,HB,B2,HE⟩:=hrel
   by_cases hkl:k<p.length
   .obtain⟨ad,A5,c5,A6,c6,e_,hq0,hq1,hl5,OW,Yy,hc6⟩:=RV (Kd.av HP.out HB.out) (k:Int) (by omega) (by omega)
    cases e_
    obtain⟨x,hx⟩:∃x,iB p (k:Int)=x:=⟨_,rfl⟩
    have hsx:=HS.out _ (yG hkl)
    have hst:=JJ (R:=R) hkl hx e
    rw[hx] at hq0 hq1 hl5 OW Yy hc6 hsx
    simp only[Int.toNat_natCast] at hq0 hq1
    obtain⟨v,hv⟩:∃v,eQ R x.f0 x.f1=v:=⟨_,rfl⟩
    rw[hv] at hst
    have HST:=aa.mk hst
    have HV:=aa.mk hv
    have I7:=aa.mk OW
    have zk:=aa.mk hc6
    have hkI:(k:Int)<p.length:=by omega
    have hg0:=B2.out.lt
    have h20:=B2.out.cell 0
    have h21:=B2.out.cell 1
    simp only[eP,eO] at h20 h21
    clear hst hv hx OW hc6
    go_wp2_with fail
    have P9:=aa.mk (ae HB.out (.cells #[.slice A5 x.f0.length c5,.slice A6 x.f1.length c6] 80))
    have B2a:=aa.mk (B2.out.alloc (.cells #[.slice A5 x.f0.length c5,.slice A6 x.f1.length c6] 80))
    have Ej:=ae (Below.refl wr.heap.size wr) (.cells #[.slice A5 x.f0.length c5,.slice A6 x.f1.length c6] 80)
    replace I7:=aa.mk (Kd.av I7.out Ej)
    replace zk:=aa.mk (Kd.av zk.out Ej)
    clear Ej h20 h21 hg0 hq0 hq1 HB B2
    refine(vU (H.out.below P9.out) x.f0 x.f1 I7.out hl5 hsx.1 zk.out Yy hsx.2).mono ?_
    rintro e w5 ⟨rfl,hb5⟩
    rw[HV.out]
    have kv:=aa.mk (P9.out.trans (hb5.mono P9.out.size))
    have yF:=aa.mk (B2a.out.below hb5)
    clear hb5 P9 B2a I7 zk
    by_cases h3:v=3
    .have h3d:(v==3)=true:=by simp[h3]
     have HF3:=aa.mk (show lQ R p=3 by rw[HF.out,HE.out,HST.out,if_pos h3])
     clear h3
     go_wp2_with fail
     go_ret
     rw[HF3.out]
     exact⟨rfl,kv.out⟩
    .have h3d:(v==3)=false:=by simp[h3]
     by_cases h2:v=2
     .have h2d:(v==2)=true:=by simp[h2]
      have HE2:=aa.mk (show mi R p 0=mi R (p.drop (k+1)) 2 by rw[HE.out,HST.out,if_neg h3,if_pos h2])
      clear h3 h2
      go_wp2_with fail
      exact⟨⟨k+1,2,by omega,by go_num,rfl,kv,yF,HE2⟩,by simp[intOf];omega⟩
     .have h2d:(v==2)=false:=by simp[h2]
      have HE2:=aa.mk (show mi R p 0=mi R (p.drop (k+1)) e by rw[HE.out,HST.out,if_neg h3,if_neg h2])
      clear h3 h2
      go_wp2_with fail
      exact⟨⟨k+1,e,by omega,by go_num,rfl,kv,yF,HE2⟩,by simp[intOf];omega⟩
   .obtain rfl:k=p.length:=by omega
    go_wp2_with fail
    go_ret
    rw[HF.out,HE.out,List.drop_length]
    exact⟨rfl,HB.out⟩
theorem ou{fn:Func}{t u v x:Tmp}(h:fn.results=#[.tmp t,.tmp u,.tmp v,.tmp x])(tmps:Array Value)(P:Program)(w:World):
  (results fn tmps).run P w= .ok (.tuple #[tmps.getD t undef,tmps.getD u undef,tmps.getD v undef,tmps.getD x undef]) w:=by
 simp[results,h]
def yg(xs:List Int)(n:Int):List Int:=xs.set n.toNat (rd xs n+1)
def FL(xs cs:List Int):Nat->List Int
 |0=>xs
 |j+1=>yg (FL xs cs j) (rd cs (j:Int))
def rA(N:Nat)(p:List qI):Nat->List Int
 |0=>List.replicate N 0
 |k+1=>FL (rA N p k) (iB p (k:Int)).f1 (iB p (k:Int)).f1.length
def Small(N:Nat)(m:Int)(xs:List Int):Prop:=xs.length=N/\∀i:Nat,i<N->0<=rd xs (i:Int)/\rd xs (i:Int)<=m
theorem Small.mono{N:Nat}{m m':Int}{xs:List Int}(h:Small N m xs)(hm:m<=m'):Small N m' xs:=⟨h.1,λi hi=>⟨(h.2 i hi).1,Int.le_trans (h.2 i hi).2 hm⟩⟩
theorem Small.bump{N:Nat}{m:Int}{xs:List Int}(h:Small N m xs)(n:Nat)(hn:n<N):Small N (m+1) (yg xs (n:Int)):=by
 refine⟨by unfold yg;rw[List.length_set];exact h.1,λi hi=>?_⟩
 have h1:=h.2 i hi
 have h2:=h.2 n hn
 have hl:=h.1
 have e:rd (yg xs (n:Int)) (i:Int)=if n=i then rd xs (n:Int)+1 else rd xs (i:Int):=by
  unfold yg rd
  simp only[Int.toNat_natCast,List.getD,List.getElem?_set]
  by_cases e:n=i
  .subst e
   simp[hl,hn]
  .simp[e]
 rw[e]
 split<;>omega
theorem KF(N:Nat)(p:List qI)(hs:sO p)(hc:∀x ∈ p,∀j:Nat,j<x.f1.length->0<=rd x.f1 (j:Int)/\rd x.f1 (j:Int)<N):∀k,k<=p.length->Small N (1000000*(k:Int)) (rA N p k)/\(∀hk:k<p.length,∀j,j<=(iB p (k:Int)).f1.length->Small N (1000000*(k:Int)+j) (FL (rA N p k) (iB p (k:Int)).f1 j)):=by
 have inner:∀k,k<p.length->Small N (1000000*(k:Int)) (rA N p k)->∀j,j<=(iB p (k:Int)).f1.length->Small N (1000000*(k:Int)+j) (FL (rA N p k) (iB p (k:Int)).f1 j):=by
  intro k hk h j
  induction j with
  |zero=>intro _;exact h.mono (by omega)
  |succ j ih=>
   intro hj
   have h1:=ih (by omega)
   have h2:=hc _ (yG hk) j (by omega)
   obtain⟨n,hn⟩:∃n:Nat,rd (iB p (k:Int)).f1 (j:Int)=(n:Int):=⟨(rd (iB p (k:Int)).f1 (j:Int)).toNat,by omega⟩
   show Small N _ (yg _ (rd (iB p (k:Int)).f1 (j:Int)))
   rw[hn] at h2 ⊢
   exact(h1.bump n (by omega)).mono (by omega)
 intro k
 induction k with
 |zero=>
  intro _
  have h0:Small N (1000000*((0:Nat):Int)) (rA N p 0):=⟨by simp[rA],λi hi=>by simp[rA,rd,List.getD,hi]⟩
  exact⟨h0,λhk=>inner 0 hk h0⟩
 |succ k ih=>
  intro hk
  have h1:=(ih (by omega)).2 (by omega) _ (Nat.le_refl _)
  have h2:=(hs _ (yG (show k<p.length by omega))).2
  have h3:Small N (1000000*((k+1:Nat):Int)) (rA N p (k+1)):=Small.mono h1 (by omega)
  exact⟨h3,λhk'=>inner (k+1) hk' h3⟩
def jU(W:List dP)(R:List aV)(p:List qI)(limit:Int):Nat->List Int
 |0=>[]
 |k+1=>if limit<kY R (iB p (k:Int)).f0 (iB p (k:Int)).f1 (W.map λx=>x.f1) (R.map λr=>r.f2.f1) then jU W R p limit k++[(k:Int)] else jU W R p limit k
theorem wH(W:List dP)(R:List aV)(p:List qI)(limit:Int):∀k,(jU W R p limit k).length<=k
 |0=>Nat.le_refl _
 |k+1=>by
  have:=wH W R p limit k
  unfold jU
  split
  .rw[List.length_append,List.length_singleton];omega
  .omega
def nV(cn:List Int):Nat->List Int
 |0=>[]
 |k+1=>if rd cn (k:Int)=0 then nV cn k++[(k:Int)] else nV cn k
def j4(cn:List Int):Nat->List Int
 |0=>[]
 |k+1=>if rd cn (k:Int)=0 then j4 cn k else if 1<rd cn (k:Int) then j4 cn k++[(k:Int)] else j4 cn k
theorem wD(cn:List Int):∀k,(nV cn k).length<=k
 |0=>Nat.le_refl _
 |k+1=>by
  have:=wD cn k
  unfold nV
  split
  .rw[List.length_append,List.length_singleton];omega
  .omega
theorem tO(cn:List Int):∀k,(j4 cn k).length<=k
 |0=>Nat.le_refl _
 |k+1=>by
  have:=tO cn k
  unfold j4
  split
  .omega
  .split
   .rw[List.length_append,List.length_singleton];omega
   .omega
def dX(W:List dP)(R:List aV)(p:List qI)(limit:Int):List Int×List Int×List Int×Int:=
 if bD W R=0 then(if lQ R p=0 then(if aK limit 0 10000=true then(nV (rA W.length p p.length) W.length,j4 (rA W.length p p.length) W.length,jU W R p limit p.length,0) else([],[],[],2)) else([],[],[],lQ R p)) else([],[],[],bD W R)
def encI(xs:List Int):List Value:=xs.map (λx=> .int .i64 x)
theorem MZ{xs:List Int}{i:Nat}(h:i<xs.length):(encI xs)[i]?=some (.int .i64 (rd xs (i:Int))):=by simp[encI,rd,List.getD,h]
theorem O3(xs:List Int)(n:Nat):(encI xs).set n (.int .i64 (rd xs (n:Int)+1))=encI (yg xs (n:Int)):=by
 unfold encI yg
 rw[List.map_set,Int.toNat_natCast]
theorem Rx(n:Nat):madeCells #[.int .i64 0] n=(encI (List.replicate n 0)).toArray:=by
 simp[madeCells,encI,Nat.mod_one]
 apply Array.ext
 .simp
 .intro i h1 h2
  simp
theorem OE(W:World)(m:Nat)(hm:m<256):(Instr.makeSlice 22 (.int .i64 (m:Int)) (.int .i64 (m:Int))).run Tryz.prog W= .ok (.slice (some ⟨W.heap.size,0,none⟩) m m) (W.alloc (.cells (encI (List.replicate m 0)).toArray 3)):=by
 obtain⟨i0,hi,hzz⟩:=Option.map_eq_some_iff.1 info3
 simp only[Prod.mk.injEq] at hzz
 obtain⟨hz0,hz1,hz2⟩:=hzz
 have hr:=run_make (P:=Tryz.prog) W 22 3 i0 _ Tryz.underlying22 hi hz0 .i64 .i64 (m:Int) (m:Int) (by omega) (by omega) (by rw[hz2];omega) (by omega)
 rw[hz1,show(Value.int IntKind.i64 0).cells=#[.int .i64 0] from rfl] at hr
 rw[<- Rx]
 simpa using hr
theorem agy{w:World}{g:Nat}{cs:List Value}{t:TypeId}(h:aR w g cs t)(i:Nat)(v:Value):aR (w.setCell ⟨g,i,none⟩ v) g (cs.set i v) t:=by
 have:=df h i v
 rw[List.setIfInBounds_toArray] at this
 exact this
theorem size_set(w:World)(p:Addr)(u:Value):(w.setCell p u).heap.size=w.heap.size:=by simp[World.setCell]
theorem tV(w:World)(o:Obj):w.heap.size<(w.alloc o).heap.size:=by simp
theorem Bi{R:List aV}:∀{p:List qI} {e:Int},mi R p e=0->e=0/\∀x ∈ p,eQ R x.f0 x.f1≠3/\eQ R x.f0 x.f1≠2
 |[],e,h=>⟨h,λx hx=>absurd hx (by simp)⟩
 |x::p,e,h=>by
  unfold mi at h
  by_cases h3:eQ R x.f0 x.f1=3
  .rw[if_pos h3] at h;exact absurd h (by decide)
  .rw[if_neg h3] at h
   obtain⟨h4,h5⟩:=Bi h
   by_cases h2:eQ R x.f0 x.f1=2
   .rw[if_pos h2] at h4;exact absurd h4 (by decide)
   .rw[if_neg h2] at h4
    exact⟨h4,λy hy=>by
     rcases List.mem_cons.1 hy with rfl|hy
     .exact⟨h3,h2⟩
     .exact h5 y hy⟩
theorem Gm(R:List aV)(l cs:List Int):eQ R l cs=0\/eQ R l cs=2\/eQ R l cs=3:=by
 unfold eQ
 repeat(first|(split;first|exact .inl rfl|exact .inr (.inl rfl)|exact .inr (.inr rfl)|skip)|exact .inl rfl|exact .inr (.inl rfl)|exact .inr (.inr rfl))
theorem Bh{R:List aV}{p:List qI}(h:lQ R p=0):p.length<=8/\∀x ∈ p,eQ R x.f0 x.f1=0:=by
 unfold lQ at h
 by_cases h8:8<p.length
 .rw[if_pos h8] at h;exact absurd h (by decide)
 .rw[if_neg h8] at h
  obtain⟨_,h5⟩:=Bi h
  refine⟨by omega,λx hx=>?_⟩
  have:=h5 x hx
  rcases Gm R x.f0 x.f1 with e|e|e
  .exact e
  .exact absurd e this.2
  .exact absurd e this.1
theorem sQ{A0:Option Addr}{c0:Nat}{Wk:List dP}{A1:Option Addr}{c1:Nat}{R:List aV}{w:World}(h:IsMap w A0 c0 Wk A1 c1 R)
  (p:List qI) {Ap:Option Addr} {cp:Nat} (hp:Kd.C PW w Ap p.length p) (hpb:p.length<1000000) (hs:sO p) (limit:Int):
  Calls Tryz.prog 30 #[.agg #[.slice A0 Wk.length c0,.slice A1 R.length c1],.slice Ap p.length cp,.int .i64 limit] w λe w'=>(∃v1 v2 v3,e= .returned (.tuple #[v1,v2,v3,.int .i64 (dX Wk R p limit).2.2.2])/\(Kd.int .i64).R 3 w' w.heap.size (λ_=>True) v1 (dX Wk R p limit).1/\(Kd.int .i64).R 3 w' w.heap.size (λ_=>True) v2 (dX Wk R p limit).2.1/\(Kd.int .i64).R 3 w' w.heap.size (λ_=>True) v3 (dX Wk R p limit).2.2.1)/\Below w.heap.size w w':=by
 have H:=aa.mk h
 have HP:=aa.mk hp
 have HS:=aa.mk hs
 clear h hp hs
 go_enter Tryz.func30,Tryz.ntmps30
 go_wp2_with fail
 have hb0:=ae (Below.refl w.heap.size w) (.cells #[.slice A0 Wk.length c0,.slice A1 R.length c1] 78)
 have B0:=aR.new w [.slice A0 Wk.length c0,.slice A1 R.length c1] 78
 refine(dM (H.out.below hb0)).mono ?_
 rintro e w1 ⟨rfl,hb1⟩
 have B1:=aa.mk (B0.below hb1)
 have HB1:=aa.mk (hb0.trans (hb1.mono (by simp)))
 have h10:=B1.out.cell 0
 have h11:=B1.out.cell 1
 simp only[eP,eO] at h10 h11
 clear hb0 hb1 B0
 by_cases hc:bD Wk R=0
 rotate_left
 .have hcb:(bD Wk R !=0)=true:=by simp[hc]
  have HF:=aa.mk (show dX Wk R p limit=([],[],[],bD Wk R) by unfold dX;rw[if_neg hc])
  clear hc
  go_wp2_with fail
  (try simp only[Exit.inBlock,Exit.then]);refine bodyPost_ret (ou rfl _ _ _) rfl ?_
  rw[HF.out]
  exact⟨⟨_,_,_,rfl,Kd.iK _ _ _ _ _,Kd.iK _ _ _ _ _,Kd.iK _ _ _ _ _⟩,HB1.out⟩
 have hcb:(bD Wk R !=0)=false:=by simp[hc]
 have HF:=aa.mk (show dX Wk R p limit=(if lQ R p=0 then(if aK limit 0 10000=true then(nV (rA Wk.length p p.length) Wk.length,j4 (rA Wk.length p p.length) Wk.length,jU Wk R p limit p.length,0) else([],[],[],2)) else([],[],[],lQ R p)) by unfold dX;rw[if_pos hc])
 have HC:=aa.mk hc
 obtain⟨hN0,hN,ah7,_,_,_⟩:=mD hc
 rw[hc]
 clear hc hcb
 go_wp2_with fail
 refine(JI (H.out.below HB1.out) p (Kd.av HP.out HB1.out) hpb HS.out).mono ?_
 rintro e w2 ⟨rfl,hb2⟩
 have B2:=aa.mk (B1.out.below hb2)
 have HB2:=aa.mk (HB1.out.trans (hb2.mono HB1.out.size))
 clear hb2 B1 HB1 h10 h11
 have h10:=B2.out.cell 0
 have h11:=B2.out.cell 1
 simp only[eP,eO] at h10 h11
 by_cases hq:lQ R p=0
 rotate_left
 .have hqb:(lQ R p !=0)=true:=by simp[hq]
  rw[if_neg hq] at HF
  clear hq
  go_wp2_with fail
  (try simp only[Exit.inBlock,Exit.then]);refine bodyPost_ret (ou rfl _ _ _) rfl ?_
  rw[HF.out]
  exact⟨⟨_,_,_,rfl,Kd.iK _ _ _ _ _,Kd.iK _ _ _ _ _,Kd.iK _ _ _ _ _⟩,HB2.out⟩
 have hqb:(lQ R p !=0)=false:=by simp[hq]
 rw[if_pos hq] at HF
 obtain⟨hp8,hok⟩:=Bh hq
 have DU:=aa.mk hok
 rw[hq]
 clear hq hqb hok
 go_wp2_with fail
 refine(qC limit w2).mono ?_
 rintro e w3 ⟨rfl,hb3⟩
 have B3:=aa.mk (B2.out.below hb3)
 have HB3:=aa.mk (HB2.out.trans (hb3.mono HB2.out.size))
 clear hb3 B2 HB2 h10 h11
 have h10:=B3.out.cell 0
 have h11:=B3.out.cell 1
 simp only[eP,eO] at h10 h11
 cases hl:aK limit 0 10000
 .rw[hl,if_neg (by simp)] at HF
  go_wp2_with fail
  (try simp only[Exit.inBlock,Exit.then]);refine bodyPost_ret (ou rfl _ _ _) rfl ?_
  rw[HF.out]
  exact⟨⟨_,_,_,rfl,Kd.iK _ _ _ _ _,Kd.iK _ _ _ _ _,Kd.iK _ _ _ _ _⟩,HB3.out⟩
 rw[hl,if_pos rfl] at HF
 have VE:=aa.mk (KF Wk.length p HS.out (λx hx j hj=>by
  have:=(qP HC.out (DU.out x hx) (λx=>x.f1) (λx h1 h2 h3=>⟨by omega,h3⟩)).works j hj
  rw[List.length_map] at this
  exact⟨this.1,this.2.1⟩))
 have hmk:=OE w3 Wk.length (by omega)
 clear hl
 go_wp2_with fail
 have B4:=aa.mk (B3.out.alloc (.cells (encI (List.replicate Wk.length 0)).toArray 3))
 have jd:=aa.mk (ae HB3.out (.cells (encI (List.replicate Wk.length 0)).toArray 3))
 have C4:=aa.mk (aR.new w3 (encI (List.replicate Wk.length 0)) 3)
 have hg0:=B3.out.lt
 have hs4:=tV w3 (.cells (encI (List.replicate Wk.length 0)).toArray 3)
 clear hmk B3 HB3 h10 h11
 generalize w3.alloc (.cells (encI (List.replicate Wk.length 0)).toArray 3)=w4 at B4 jd C4 hs4 ⊢
 generalize w3.heap.size=gc at C4 hs4 hg0 ⊢
 go_loopw [8,39] (λv8 v39 wr=>∃k:Nat,k<=p.length/\v39= .int .i64 k/\w4.heap.size<=wr.heap.size/\aa (Below w.heap.size w wr)/\aa (aR wr w.heap.size [.slice A0 Wk.length c0,.slice A1 R.length c1] 78)/\aa (aR wr gc (encI (rA Wk.length p k)) 3)/\aa ((Kd.int .i64).R 3 wr w4.heap.size (λb=>w4.heap.size<=b) v8 (jU Wk R p limit k))) (λ_ v39 _=>p.length-(intOf v39).toNat)
 case atStart=>exact⟨0,Nat.zero_le _,rfl,Nat.le_refl _,jd,B4,C4,⟨Kd.iK _ _ _ _ _⟩⟩
 case round=>
  clear jd B4 C4
  obtain⟨k,hk,rfl,yT,HB,B3,C,HR⟩:=hrel
  by_cases hkl:k<p.length
  .obtain⟨ad,A5,c5,A6,c6,e_,hq0,hq1,hl5,OW,Yy,hc6⟩:=RV HP.out (k:Int) (by omega) (by omega)
   cases e_
   replace hq0:=(HB.out.cell (World.block_lt_of_cell? _ _ hq0)).trans hq0
   replace hq1:=(HB.out.cell (World.block_lt_of_cell? _ _ hq1)).trans hq1
   obtain⟨x,hx⟩:∃x,iB p (k:Int)=x:=⟨_,rfl⟩
   have hsx:=HS.out _ (yG hkl)
   have hwx:=DU.out _ (yG hkl)
   have hcn:=(VE.out k hk).2 hkl
   have hls:jU Wk R p limit (k+1)=if limit<kY R x.f0 x.f1 (Wk.map λx=>x.f1) (R.map λr=>r.f2.f1) then jU Wk R p limit k++[(k:Int)] else jU Wk R p limit k:=by rw[<- hx];rfl
   have hcs:rA Wk.length p (k+1)=FL (rA Wk.length p k) x.f1 x.f1.length:=by rw[<- hx];rfl
   rw[hx] at hq0 hq1 hl5 OW Yy hc6 hsx hwx hcn
   simp only[Int.toNat_natCast] at hq0 hq1
   have HT:=aa.mk (qP HC.out hwx (λx=>x.f1) (λx h1 h2 h3=>⟨by omega,h3⟩))
   have HW:=aa.mk (wZ hwx)
   have SG:=aa.mk hls
   have Nv:=aa.mk hcs
   have HCJ:=aa.mk hcn
   have I7:=aa.mk OW
   have zk:=aa.mk hc6
   have hkI:(k:Int)<p.length:=by omega
   obtain⟨cn,ab1⟩:∃cn,rA Wk.length p k=cn:=⟨_,rfl⟩
   rw[ab1] at C Nv HCJ
   clear hcn hwx hls hcs hx OW hc6 ab1
   have hg3:=B3.out.lt
   have hgC:=C.out.lt
   go_wp2_with fail
   have P9:=aa.mk (ae HB.out (.cells #[.slice A5 x.f0.length c5,.slice A6 x.f1.length c6] 80))
   have B3a:=aa.mk (B3.out.alloc (.cells #[.slice A5 x.f0.length c5,.slice A6 x.f1.length c6] 80))
   have BW:=aa.mk (aR.new wr [.slice A5 x.f0.length c5,.slice A6 x.f1.length c6] 80)
   have Ca:=aa.mk (C.out.alloc (.cells #[.slice A5 x.f0.length c5,.slice A6 x.f1.length c6] 80))
   have HRa:=aa.mk (Kd.bK HR.out (.cells #[.slice A5 x.f0.length c5,.slice A6 x.f1.length c6] 80))
   have hsa:=tV wr (.cells #[.slice A5 x.f0.length c5,.slice A6 x.f1.length c6] 80)
   clear hq0 hq1 HB B3 C HR
   generalize wr.alloc (.cells #[.slice A5 x.f0.length c5,.slice A6 x.f1.length c6] 80)=wa at P9 B3a BW Ca HRa hsa ⊢
   generalize wr.heap.size=g14 at BW hsa yT hg3 hgC ⊢
   have hSM:=λj hj=>HCJ.out j hj
   go_loopw [47] (λv47 wq=>∃j:Nat,j<=x.f1.length/\v47= .int .i64 j/\wa.heap.size<=wq.heap.size/\aa (Below w.heap.size w wq)/\aa (aR wq w.heap.size [.slice A0 Wk.length c0,.slice A1 R.length c1] 78)/\aa (aR wq g14 [.slice A5 x.f0.length c5,.slice A6 x.f1.length c6] 80)/\aa (aR wq gc (encI (FL cn x.f1 j)) 3)/\aa ((Kd.int .i64).R 3 wq w4.heap.size (λb=>w4.heap.size<=b) u8 (jU Wk R p limit k))) (λv47 _=>x.f1.length-(intOf v47).toNat)
   case atStart=>exact⟨0,Nat.zero_le _,rfl,Nat.le_refl _,P9,B3a,BW,Ca,HRa⟩
   case round=>
    clear P9 B3a BW Ca HRa
    obtain⟨j,hj,rfl,Uu,HB,B3,BW,C,HR⟩:=hrel
    by_cases hjl:j<x.f1.length
    .obtain⟨a6,e,hx6⟩:=Kd.cK (Kd.av zk.out HB.out) (j:Int) (by omega) (by omega)
     cases e
     simp only[Int.toNat_natCast] at hx6
     have hwk:=HT.out.works j hjl
     rw[List.length_map] at hwk
     obtain⟨m,hm⟩:∃m:Nat,rd x.f1 (j:Int)=(m:Int):=⟨(rd x.f1 (j:Int)).toNat,by omega⟩
     have hsm:=hSM j hj
     have hcs1:FL cn x.f1 (j+1)=yg (FL cn x.f1 j) (m:Int):=by rw[<- hm];rfl
     rw[hm] at hx6 hwk
     obtain⟨cq,hcq⟩:∃cq,FL cn x.f1 j=cq:=⟨_,rfl⟩
     rw[hcq] at hsm hcs1 C
     have hmN:m<Wk.length:=by omega
     have hcv:=C.out.cell m
     rw[MZ (by rw[hsm.1];exact hmN)] at hcv
     have hcf:=C.out.frozen m
     have hvb:=hsm.2 m hmN
     have hbu:=O3 cq m
     obtain⟨v,hv⟩:∃v,rd cq (m:Int)=v:=⟨_,rfl⟩
     rw[hv] at hcv hvb hbu
     rw[<- hcs1] at hbu
     have HBU:=aa.mk hbu
     have hwr:wrap64 (v+1)=v+1:=IntWalk.wrap64_in _ (by have:=hsx.2;omega)
     have hmI:(m:Int)<(Wk.length:Int):=by omega
     have hm0:(0:Int)<=(m:Int):=by omega
     have hjI:(j:Int)<(x.f1.length:Int):=by omega
     clear hbu hcs1 hcq hsm hv hwk hm hvb
     go_wp2_with fail
     exact⟨⟨j+1,by omega,by go_num,by rw[size_set];exact Uu,⟨HB.out.setCell (p:=⟨gc,m,none⟩) (by simp only;omega) _⟩,⟨B3.out.move (Below.heap_setCell _ _ _ _ (by simp only;omega))⟩,⟨BW.out.move (Below.heap_setCell _ _ _ _ (by simp only;omega))⟩,⟨by rw[<- HBU.out];exact agy C.out m _⟩,⟨Kd.dx HR.out (p:=⟨gc,m,none⟩) (λb hb=>by simp only;omega) _⟩⟩,by simp[intOf];omega⟩
    .obtain rfl:j=x.f1.length:=by omega
     rw[<- Nv.out] at C
     have jB:=B3.out.cell 0
     have h31:=B3.out.cell 1
     have hW0:=BW.out.cell 0
     have hW1:=BW.out.cell 1
     simp only[eP,eO] at jB h31 hW0 hW1
     have hl0:=HW.out.1
     obtain⟨tw,ug⟩:∃t,Wk.map (λx=>x.f1)=t:=⟨_,rfl⟩
     obtain⟨tr,htr⟩:∃t,R.map (λr=>r.f2.f1)=t:=⟨_,rfl⟩
     have HT2:=aa.mk (show uq R x.f0 x.f1 tw tr by rw[<- ug,<- htr];exact HT.out)
     have hls:=SG.out
     rw[ug,htr] at hls
     have Vz:=aa.mk hls
     have Htw:=aa.mk ug
     have Htr:=aa.mk htr
     clear hls ug htr
     go_wp2_with fail
     refine dB (n:=7) (S:=λw'=>w'.cell? ⟨w.heap.size,0,none⟩=some (.slice A0 Wk.length c0)/\w'.cell? ⟨w.heap.size,1,none⟩=some (.slice A1 R.length c1)/\w'.cell? ⟨g14,0,none⟩=some (.slice A5 x.f0.length c5)/\w'.cell? ⟨g14,1,none⟩=some (.slice A6 x.f1.length c6)) (ds:=[4]) #[O,O,O,O,O,O,O] (by kernel_rfl) rfl rfl ⟨jB,h31,hW0,hW1⟩ (λhHeld=>?_);refine bu fl.aa1 fl.Zt (λak bN=>?_)
     have kv:=aa.mk (aM HB.out)
     have EA:=aa.mk (B3.out.move rfl:aR wr.drew _ _ _)
     have C5:=aa.mk (C.out.move rfl:aR wr.drew _ _ _)
     have Vv:=aa.mk (Kd.cO HR.out)
     have hs5:wa.heap.size<=wr.drew.heap.size:=Uu
     clear HB B3 BW C HR jB h31 hW0 hW1 Uu
     generalize wr.drew=wd at kv EA C5 Vv hs5 hHeld ⊢
     refine dG 0 58 #[I,O,O,O,O,O,O] ak bN hHeld (hy:=by(rintro w' ⟨s0,s1,s2,s3⟩;go_simp;with_reducible rfl)) (h:=?_)
     refine dG 1 59 #[I,I,O,O,O,O,O] ak bN hHeld (hy:=by(rintro w' ⟨s0,s1,s2,s3⟩;go_simp;with_reducible rfl)) (h:=?_)
     refine dG 2 60 #[I,I,I,O,O,O,O] ak bN hHeld (hy:=by(rintro w' ⟨s0,s1,s2,s3⟩;go_simp;with_reducible rfl)) (h:=?_)
     refine aZ 5 63 #[I,I,I,O,O,I,O] ak (h:=?_)
     refine dO (i:=3) (N:=some 61) #[I,I,I,I,O,I,O] rfl rfl (aI ak.out (by kernel_rfl)) (by decide) (λK hK=>?_)
     refine bW Tryz.func62 (by kernel_rfl) rfl #[.agg #[.slice A0 Wk.length c0,.slice A1 R.length c1]] (by rfl) rfl rfl (by(try simp only[List.map_toArray,List.map_cons,List.map_nil]);rfl) ?_
     refine(AX (H.out.below kv.out) (by omega) (by omega)).mono ?_
     rintro e_ w_ ⟨⟨vA,vB,rfl,MQ,MP⟩,hbx⟩
     refine⟨_,rfl,hK.out _ _ ⟨(hbx.cell (World.block_lt_of_cell? _ _ hHeld.1)).trans hHeld.1,(hbx.cell (World.block_lt_of_cell? _ _ hHeld.2.1)).trans hHeld.2.1,(hbx.cell (World.block_lt_of_cell? _ _ hHeld.2.2.1)).trans hHeld.2.2.1,(hbx.cell (World.block_lt_of_cell? _ _ hHeld.2.2.2)).trans hHeld.2.2.2⟩ (λhHeld=>?_)⟩
     clear hK K
     obtain⟨Aw,nw,cw,rfl,hnw,MR⟩:∃A n c,vA= .slice A n c/\n=tw.length/\Kd.C (Kd.int .i64) w_ A n tw:=by rw[<- Htw.out];obtain⟨a_,b_,e_,_,h_⟩:=Kd.cB MQ;exact⟨_,_,_,e_,rfl,h_⟩
     subst hnw
     obtain⟨Ar,nr,cr,rfl,hnr,MS⟩:∃A n c,vB= .slice A n c/\n=tr.length/\Kd.C (Kd.int .i64) w_ A n tr:=by rw[<- Htr.out];obtain⟨a_,b_,e_,_,h_⟩:=Kd.cB MP;exact⟨_,_,_,e_,rfl,h_⟩
     subst hnr
     have Xm:=aa.mk MR
     have Xn:=aa.mk MS
     have uz:=aa.mk (kv.out.trans (hbx.mono kv.out.size))
     have Jb:=aa.mk (EA.out.below hbx)
     have C6:=aa.mk (C5.out.below hbx)
     have HR6:=aa.mk (Kd.bV Vv.out hbx)
     have hs6:=Nat.le_trans hs5 hbx.size
     clear hbx MR MS MQ MP kv EA C5 Vv hs5
     refine iY ?_
     refine dE (i:=4) (N:=some 62) #[I,I,I,I,I,I,O] rfl rfl (aI ak.out (by kernel_rfl)) (by decide) (λK hK=>?_)
     refine bW Tryz.func59 (by kernel_rfl) rfl #[.agg #[.slice A0 Wk.length c0,.slice A1 R.length c1],.agg #[.slice A5 x.f0.length c5,.slice A6 x.f1.length c6],.agg #[.slice Aw tw.length cw,.slice Ar tr.length cr]] (by rfl) rfl rfl (by(try simp only[List.map_toArray,List.map_cons,List.map_nil]);rfl) ?_
     refine(rP (H.out.below uz.out) x.f0 x.f1 tw tr (Kd.av I7.out uz.out) hsx.1 hl0 (Kd.av zk.out uz.out) hsx.2 Xm.out Xn.out HT2.out).mono ?_
     rintro e_ w_ ⟨rfl,hbx⟩
     refine⟨_,rfl,hK.out _ _ ?_⟩
     clear hK K
     have Gi:=aa.mk (uz.out.trans (hbx.mono uz.out.size))
     have B37:=aa.mk (Jb.out.below hbx)
     have C7:=aa.mk (C6.out.below hbx)
     have P7:=aa.mk (Kd.bV HR6.out hbx)
     have hs7:=Nat.le_trans hs6 hbx.size
     clear hbx uz Jb C6 HR6 hs6 Xm Xn
     refine iY ?_
     refine aZ 6 64 #[I,I,I,I,I,I,I] ak (h:=?_)
     refine dK (bG ak.out (by kernel_rfl)) ?_
     clear ak bN hHeld
     have hle:=wH Wk R p limit k
     obtain⟨Ud,Ra⟩:∃l,jU Wk R p limit k=l:=⟨_,rfl⟩
     rw[Ra] at P7 Vz hle
     obtain⟨tm_,htm⟩:∃n,kY R x.f0 x.f1 tw tr=n:=⟨_,rfl⟩
     rw[htm] at Vz ⊢
     have VI:=aa.mk (show w4.heap.size<=w_.heap.size by omega)
     clear htm Ra
     by_cases hlm:limit<tm_
     .have HL3:=aa.mk (show jU Wk R p limit (k+1)=Ud++[(k:Int)] by rw[Vz.out,if_pos hlm])
      go_wp2_with ((with_reducible refine cz (b:= .append) (xs:=#[.tmp 65,.tmp 67]) rfl ?_);at_builtin;refine Kd.jk (Kd.int .i64) (w0:=w_) w4.heap.size rfl (.tmp 65) (.tmp 67) 22 3 (.int .i64 0) 8 rfl Tryz.underlying22 info3 rfl (by decide) (by omega) u8 Ud (k:Int) [.int .i64 (k:Int)] (λb=>w4.heap.size<=b) (λ_=>False) rfl rfl ?aP (λ_ hk=>hk.elim) ?aF ?aO ?aB ?aS ?aL ?_;(case aP=>exact rfl);(case aF=>exact(λb hb=>Nat.le_trans VI.out hb));(case aO=>exact P7.out);(case aB=>exact Below.refl _ _);(case aS=>exact VI.out);(case aL=>omega);intro vn wn hon hbn hgn fP;have Ey:=aa.mk hon;have qK:=aa.mk (Gi.out.trans (hbn.mono (by omega)));have B3n:=aa.mk (B37.out.move (hbn.block _ (by omega)));have Cn:=aa.mk (C7.out.move (hbn.block _ (by omega)));have hsn:=Nat.le_trans VI.out hbn.size;clear hon hbn hgn fP)
      exact⟨⟨k+1,by omega,by go_num,hsn,qK,B3n,Cn,⟨by rw[HL3.out];exact Ey.out⟩⟩,by simp[intOf];omega⟩
     .have HL3:=aa.mk (show jU Wk R p limit (k+1)=Ud by rw[Vz.out,if_neg hlm])
      replace hlm:=Int.not_lt.1 hlm
      go_wp2_with fail
      exact⟨⟨k+1,by omega,by go_num,VI.out,Gi,B37,C7,⟨by rw[HL3.out];exact P7.out⟩⟩,by simp[intOf];omega⟩
  .obtain rfl:k=p.length:=by omega
   have hsm:=(VE.out p.length (Nat.le_refl _)).1
   obtain⟨cn,hcn⟩:∃cn,rA Wk.length p p.length=cn:=⟨_,rfl⟩
   rw[hcn] at C hsm HF
   obtain⟨Ud,Ra⟩:∃l,jU Wk R p limit p.length=l:=⟨_,rfl⟩
   rw[Ra] at HR HF
   have FZ:=aa.mk hsm
   have hw0:=HB.out.size
   clear hcn Ra hsm VE DU B3
   go_wp2_with fail
   obtain⟨wb,hwb⟩:∃wb,wr=wb:=⟨_,rfl⟩
   rw[hwb] at HB C HR yT hw0 ⊢
   clear hwb
   go_loopw [6,7,72] (λv6 v7 v72 wq=>∃n:Nat,n<=Wk.length/\v72= .int .i64 n/\wb.heap.size<=wq.heap.size/\aa (Below w.heap.size w wq)/\aa (aR wq gc (encI cn) 3)/\aa ((Kd.int .i64).R 3 wq w4.heap.size (λb=>b<wb.heap.size) u8 Ud)/\aa (Two wb.heap.size wq v6 v7 (nV cn n) (j4 cn n))) (λ_ _ v72 _=>Wk.length-(intOf v72).toNat)
   case atStart=>exact⟨0,Nat.zero_le _,rfl,Nat.le_refl _,HB,C,⟨Kd.bB (Kd.bE HR.out) (λb hb=>hb.2.2.1)⟩,⟨Two.nil _ _⟩⟩
   case round=>
    have hgb:=C.out.lt
    clear HB C HR
    obtain⟨n,hn,rfl,Uu,HB,C,HR,H2⟩:=hrel
    by_cases hnl:n<Wk.length
    .have hcv:=C.out.cell n
     rw[MZ (by rw[FZ.out.1];exact hnl)] at hcv
     obtain⟨v,hv⟩:∃v,rd cn (n:Int)=v:=⟨_,rfl⟩
     rw[hv] at hcv
     have hms:nV cn (n+1)=if v=0 then nV cn n++[(n:Int)] else nV cn n:=by rw[<- hv];rfl
     have ug:j4 cn (n+1)=if v=0 then j4 cn n else if 1<v then j4 cn n++[(n:Int)] else j4 cn n:=by rw[<- hv];rfl
     have hml:=wD cn n
     have htl:=tO cn n
     obtain⟨ms,abR⟩:∃l,nV cn n=l:=⟨_,rfl⟩
     obtain⟨tw,abv⟩:∃l,j4 cn n=l:=⟨_,rfl⟩
     rw[abR] at hms hml H2
     rw[abv] at ug htl H2
     have hnI:(n:Int)<(Wk.length:Int):=by omega
     have HR6:=aa.mk H2.out.r1
     have P7:=aa.mk H2.out.r2
     clear abR abv hv
     by_cases h0:v=0
     .rw[if_pos h0] at hms ug
      have HMS:=aa.mk hms
      have TD:=aa.mk ug
      have h0d:(v==0)=true:=by simp[h0]
      clear hms ug h0
      go_wp2_with ((with_reducible refine cz (b:= .append) (xs:=#[.tmp 80,.tmp 82]) rfl ?_);at_builtin;refine Kd.jk (Kd.int .i64) (w0:=wr) wb.heap.size rfl (.tmp 80) (.tmp 82) 22 3 (.int .i64 0) 8 rfl Tryz.underlying22 info3 rfl (by decide) (by omega) u6 ms (n:Int) [.int .i64 (n:Int)] (λ_=>True) (λ_=>False) rfl rfl ?aP (λ_ hk=>hk.elim) ?aF ?aO ?aB ?aS ?aL ?_;(case aP=>exact rfl);(case aF=>exact(λb hb=>trivial));(case aO=>exact HR6.out);(case aB=>exact Below.refl _ _);(case aS=>exact Uu);(case aL=>omega);intro vn wn hon hbn hgn fP;have H2n:=aa.mk (H2.out.app1 hon hgn fP);have qK:=aa.mk (HB.out.trans (hbn.mono (by omega)));have Cn:=aa.mk (C.out.move (hbn.block _ hgb));have HLn:=aa.mk (Kd.gQ HR.out (λb hb hlt=>hbn.block b hb));have hsn:=Nat.le_trans Uu hbn.size;clear hon hbn hgn fP)
      exact⟨⟨n+1,by omega,by go_num,hsn,qK,Cn,HLn,⟨by rw[HMS.out,TD.out];exact H2n.out⟩⟩,by simp[intOf];omega⟩
     .rw[if_neg h0] at hms ug
      have h0d:(v==0)=false:=by simp[h0]
      by_cases h1:1<v
      .rw[if_pos h1] at ug
       have HMS:=aa.mk hms
       have TD:=aa.mk ug
       clear hms ug h0
       go_wp2_with ((with_reducible refine cz (b:= .append) (xs:=#[.tmp 87,.tmp 89]) rfl ?_);at_builtin;refine Kd.jk (Kd.int .i64) (w0:=wr) wb.heap.size rfl (.tmp 87) (.tmp 89) 22 3 (.int .i64 0) 8 rfl Tryz.underlying22 info3 rfl (by decide) (by omega) u7 tw (n:Int) [.int .i64 (n:Int)] (λ_=>True) (λ_=>False) rfl rfl ?aP (λ_ hk=>hk.elim) ?aF ?aO ?aB ?aS ?aL ?_;(case aP=>exact rfl);(case aF=>exact(λb hb=>trivial));(case aO=>exact P7.out);(case aB=>exact Below.refl _ _);(case aS=>exact Uu);(case aL=>omega);intro vn wn hon hbn hgn fP;have H2n:=aa.mk (H2.out.Po hon hgn fP);have qK:=aa.mk (HB.out.trans (hbn.mono (by omega)));have Cn:=aa.mk (C.out.move (hbn.block _ hgb));have HLn:=aa.mk (Kd.gQ HR.out (λb hb hlt=>hbn.block b hb));have hsn:=Nat.le_trans Uu hbn.size;clear hon hbn hgn fP)
       exact⟨⟨n+1,by omega,by go_num,hsn,qK,Cn,HLn,⟨by rw[HMS.out,TD.out];exact H2n.out⟩⟩,by simp[intOf];omega⟩
      .rw[if_neg h1] at ug
       have HMS:=aa.mk hms
       have TD:=aa.mk ug
       replace h1:=Int.not_lt.1 h1
       clear hms ug h0
       go_wp2_with fail
       exact⟨⟨n+1,by omega,by go_num,Uu,HB,C,HR,⟨by rw[HMS.out,TD.out];exact H2.out⟩⟩,by simp[intOf];omega⟩
    .obtain rfl:n=Wk.length:=by omega
     go_wp2_with fail
     (try simp only[Exit.inBlock,Exit.then]);refine bodyPost_ret (ou rfl _ _ _) rfl ?_
     rw[HF.out]
     exact⟨⟨_,_,_,rfl,Kd.ed H2.out.r1 hw0,Kd.ed H2.out.r2 hw0,Kd.bB (Kd.ed HR.out (by omega)) (λ_ _=>trivial)⟩,HB.out⟩
theorem Cc(W:List dP)(R:List aV)(p:List qI)(limit:Int):(dX W R p limit).1.length<=8/\(dX W R p limit).2.1.length<=8/\(dX W R p limit).2.2.1.length<=8:=by
 unfold dX
 by_cases hc:bD W R=0
 .obtain⟨_,hN,_,_,_,_⟩:=mD hc
  rw[if_pos hc]
  by_cases hp:lQ R p=0
  .rw[if_pos hp]
   split
   .have h1:=wD (rA W.length p p.length) W.length
    have h2:=tO (rA W.length p p.length) W.length
    have h3:=wH W R p limit p.length
    have h4:=(Bh hp).1
    exact⟨by show(nV _ _).length<=8;omega,by show(j4 _ _).length<=8;omega,by show(jU _ _ _ _ _).length<=8;omega⟩
   .simp
  .rw[if_neg hp]
   simp
 .rw[if_neg hc]
  simp
def nT(W:List dP)(R:List aV)(p:List qI)(limit many:Int):Bool:=
 (dX W R p limit).2.2.2==0&&(((((dX W R p limit).1.length:Int)+((dX W R p limit).2.1.length:Int)+((dX W R p limit).2.2.1.length:Int))==0)&&decide ((p.length:Int)<=many))
theorem tq{A0:Option Addr}{c0:Nat}{Wk:List dP}{A1:Option Addr}{c1:Nat}{R:List aV}{w:World}(h:IsMap w A0 c0 Wk A1 c1 R)
  (p:List qI) {Ap:Option Addr} {cp:Nat} (hp:Kd.C PW w Ap p.length p) (hpb:p.length<1000000) (hs:sO p) (limit many:Int):
  Calls Tryz.prog 34 #[.agg #[.slice A0 Wk.length c0,.slice A1 R.length c1],.slice Ap p.length cp,.int .i64 limit,.int .i64 many] w λe w'=>e= .returned (.bool (nT Wk R p limit many))/\Below w.heap.size w w':=by
 have H:=aa.mk h
 have HP:=aa.mk hp
 have HS:=aa.mk hs
 clear h hp hs
 go_enter Tryz.func34,Tryz.ntmps34
 go_wp2_with fail
 have hb0:=ae (Below.refl w.heap.size w) (.cells #[.slice A0 Wk.length c0,.slice A1 R.length c1] 78)
 refine(sQ (H.out.below hb0) p (Kd.av HP.out hb0) hpb HS.out limit).mono ?_
 rintro e w1 ⟨⟨v1,v2,v3,rfl,hr1,hr2,hr3⟩,hb1⟩
 have HB:=aa.mk (hb0.trans (hb1.mono (Nat.le_of_lt (tV _ _))))
 obtain⟨hl1,hl2,hl3⟩:=Cc Wk R p limit
 have HF:=aa.mk (show nT Wk R p limit many=((dX Wk R p limit).2.2.2==0&&(((((dX Wk R p limit).1.length:Int)+((dX Wk R p limit).2.1.length:Int)+((dX Wk R p limit).2.2.1.length:Int))==0)&&decide ((p.length:Int)<=many))) from rfl)
 obtain⟨⟨ms,tw,Ud,er⟩,hf⟩:∃x,dX Wk R p limit=x:=⟨_,rfl⟩
 rw[hf] at hr1 hr2 hr3 hl1 hl2 hl3 HF ⊢
 dsimp only at hr1 hr2 hr3 hl1 hl2 hl3 HF ⊢
 obtain⟨a1,d1,rfl,_,_⟩:=Kd.cB hr1
 obtain⟨a2,d2,rfl,_,_⟩:=Kd.cB hr2
 obtain⟨a3,d3,rfl,_,_⟩:=Kd.cB hr3
 clear hf hb1 hb0 hr1 hr2 hr3
 have hw1:wrap64 ((ms.length:Int)+tw.length)=(ms.length:Int)+tw.length:=IntWalk.wrap64_in _ (by omega)
 have hw2:wrap64 ((ms.length:Int)+tw.length+Ud.length)=(ms.length:Int)+tw.length+Ud.length:=IntWalk.wrap64_in _ (by omega)
 cases he:(er==0)
 .rw[he,Bool.false_and] at HF
  go_wp2_with fail
  go_ret
  rw[HF.out]
  exact⟨rfl,HB.out⟩
 .rw[he,Bool.true_and] at HF
  cases hz:((ms.length:Int)+tw.length+Ud.length==0)
  .rw[hz,Bool.false_and] at HF
   go_wp2_with fail
   go_ret
   rw[HF.out]
   exact⟨rfl,HB.out⟩
  .rw[hz,Bool.true_and] at HF
   go_wp2_with fail
   go_ret
   rw[HF.out]
   exact⟨rfl,HB.out⟩
open Go.RowKit au YtkjoilgpmngndaaGreatW.aj
theorem DY{i:Nat}(h:i<1000000):wrap64 ((i:Int)+1)=((i+1:Nat):Int):=by unfold wrap64;omega
def U4(x:vC):dP:=⟨x.f0,x.f1⟩
def sJ(x:pO):aV:=⟨x.f0,x.f1,U4 x.f2⟩
section
variable (l0:List vC) (l1:List pO)
theorem X7(hl:l1.length<1000000)(W:List dP):∀(d i:Nat) (acc:List aV),l1.length=i+d->acc.length=i->aH.l1 (d+1) (i:Int) l0 l1 W acc=some (W,acc++(l1.drop i).map sJ):=by
 intro d
 induction d with
 |zero=>
  intro i acc h h2
  simp only[aH.l1]
  rw[if_neg (by omega),List.drop_eq_nil_of_le (by omega)]
  simp
 |succ d ih=>
  intro i acc h h2
  generalize hm:d+1=m at ih ⊢
  simp only[aH.l1]
  rw[if_pos (by omega),if_pos (by omega)]
  unfold gM.f
  simp only[Option.bind_some]
  rw[if_pos (by omega),DY (by omega),ih (i+1) _ (by omega) (by simp[h2]),getD_drop l1 i z74 (by omega)]
  simp[bA,sJ,U4]
theorem X8(hl:l1.length<1000000)(hl0:l0.length<1000000):∀(d i:Nat) (acc:List dP),l0.length=i+d->acc.length=i->aH.l0 (l1.length+1+d+1) (i:Int) l0 l1 acc=some (acc++(l0.drop i).map U4,l1.map sJ):=by
 intro d
 induction d with
 |zero=>
  intro i acc h h2
  simp only[aH.l0]
  rw[if_neg (by omega),List.drop_eq_nil_of_le (by omega)]
  have:=X7 l0 l1 hl acc l1.length 0 [] (by omega) rfl
  simpa using this
 |succ d ih=>
  intro i acc h h2
  rw[show l1.length+1+(d+1)+1=(l1.length+1+d+1)+1 by omega]
  generalize hm:l1.length+1+d+1=m at ih ⊢
  simp only[aH.l0]
  rw[if_pos (by omega),if_pos (by omega)]
  unfold gM.f
  simp only[Option.bind_some]
  rw[if_pos (by omega),DY (by omega),ih (i+1) _ (by omega) (by simp[h2]),getD_drop l0 i z72 (by omega)]
  simp[oW,U4]
theorem map_some(hl:l1.length<1000000)(hl0:l0.length<1000000):aH.f (l1.length+1+l0.length+1) l0 l1=some (l0.map U4,l1.map sJ):=by
 have:=X8 l0 l1 hl hl0 l0.length 0 [] (by omega) rfl
 simpa[aH.f] using this
end
section
variable {W:List dP} {R R':List aV}
theorem fO.way(h:fO R R')(a b:Int):wY W R' a b=wY W R a b:=by
 unfold wY
 rw[h.TA W]
 by_cases hc:bD W R=0
 .rw[h.tm hc]
 .rw[if_neg hc,if_neg hc]
theorem fO.agv(h:fO R R')(l:List Int):nW W R' l=nW W R l:=by
 unfold nW
 rw[h.TA W]
 by_cases hc:bD W R=0
 .rw[h.tm hc]
 .rw[if_neg hc,if_neg hc]
theorem fO.reach(h:fO R R')(limit:Int):j3 W R' limit=j3 W R limit:=by
 unfold j3
 rw[h.TA W]
 by_cases hc:bD W R=0
 .unfold mh
  rw[h.tm hc]
 .rw[if_neg hc,if_neg hc]
theorem fO.few(h:fO R R')(limit:Int):tJ W R' limit=tJ W R limit:=by
 unfold tJ
 rw[h.TA W]
 by_cases hc:bD W R=0
 .rw[h.tm hc]
 .rw[if_neg hc,if_neg hc]
theorem fO.low(h:fO R R')(hc:bD W R=0):∀k,kZ W R' k=kZ W R k
 |0=>rfl
 |k+1=>by
  unfold kZ
  rw[fO.low h hc k,h.tm hc]
theorem fO.least(h:fO R R')(many:Int):kU W R' many=kU W R many:=by
 unfold kU
 rw[h.TA W]
 by_cases hc:bD W R=0
 .have hf:o8 W R' many=o8 W R many:=by
   funext half
   unfold o8
   rw[h.tm hc]
  rw[h.low hc,hf,h.tm hc]
 .rw[if_neg hc,if_neg hc]
end
end Go.Proofs.YtkjoilgpmngndaaGreat.Wk
namespace Go.Proofs.YtkjoilgpmngndaaGreat
structure Ren(n:Nat)(s t:Nat->Nat):Prop where
 EL:∀i,i<n->s i<n
 Jj:∀i,i<n->t i<n
 ts:∀i,i<n->t (s i)=i
 st:∀i,i<n->s (t i)=i
theorem Ren.symm{n:Nat}{s t:Nat->Nat}(h:Ren n s t):Ren n t s:=⟨h.Jj,h.EL,h.st,h.ts⟩
theorem Ren.inj{n:Nat}{s t:Nat->Nat}(h:Ren n s t){i k:Nat}(hi:i<n)(hk:k<n)(e:s i=s k):i=k:=by
 rw[<- h.ts i hi,<- h.ts k hk,e]
theorem Ren.perm{n:Nat}{s t:Nat->Nat}(h:Ren n s t):((List.range n).map s).Perm (List.range n):=by
 refine(List.perm_ext_iff_of_nodup ?_ List.nodup_range).2 λa=>?_
 .refine(List.pairwise_map).2 ?_
  refine List.Pairwise.imp_of_mem ?_ (List.nodup_range (n:=n))
  intro a b ha hb hab e
  exact hab (h.inj (List.mem_range.1 ha) (List.mem_range.1 hb) e)
 .simp only[List.mem_map,List.mem_range]
  constructor
  .rintro⟨i,hi,rfl⟩
   exact h.EL i hi
  .intro ha
   exact⟨t a,h.Jj a ha,h.st a ha⟩
end Go.Proofs.YtkjoilgpmngndaaGreat
