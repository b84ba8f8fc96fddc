import Derived.Test.YtdekaocdmjndaaaGreatQ12
set_option maxRecDepth 100000
set_option linter.all false
namespace Go.Proofs.YtdekaocdmjndaaaGreat
open Go.RowKit Go.Shelf ah YtdekaocdmjndaaaGreatW.aj YtdekaocdmjndaaaGreatW.aH
def iR(base n:Int):Int:=n-n%base
def lJ(base n:Int):Int:=iR base (n+base-1)
theorem mO{base n:Int}(hb:2<=base):n-base<iR base n/\iR base n<=n:=by
 unfold iR
 have h1:=Int.emod_nonneg n (show base≠0 by omega)
 have h2:=Int.emod_lt_of_pos n (show 0<base by omega)
 omega
theorem rR(base n:Int)(u1 u2:Value)(w:World)(hb:2<=base)(hb1:base<=100)(hn:0<=n)(hn1:n<=1000000):
  Calls Tryz.prog 146 #[.agg #[.int .i64 base,u1,u2],.int .i64 n] w λe w'=>e= .returned (.int .i64 (iR base n))/\Below w.heap.size w w':=by
 have hr:=mO (n:=n) hb
 have hne:(base==0)=false:=by simpa using (show base≠0 by omega)
 go_enter Tryz.func146,Tryz.ntmps146
 go_wp2_with fail
 go_ret
 refine⟨?_,ae (Below.refl _ _) _⟩
 have e:wrap64 (n-n%base)=iR base n:=by
  unfold iR at hr ⊢
  unfold wrap64
  omega
 exact congrArg (λv=>Ending.returned (.int .i64 v)) e
theorem xU(base n:Int)(u1 u2:Value)(w:World)(hb:2<=base)(hb1:base<=100)(hn:0<=n)(hn1:n<=999000):
  Calls Tryz.prog 147 #[.agg #[.int .i64 base,u1,u2],.int .i64 n] w λe w'=>e= .returned (.int .i64 (lJ base n))/\Below w.heap.size w w':=by
 go_enter Tryz.func147,Tryz.ntmps147
 go_wp2_with fail
 refine(rR base _ u1 u2 _ hb hb1 (by omega) (by omega)).mono ?_
 rintro e w' ⟨rfl,hb'⟩
 go_wp2_with fail
 go_ret
 exact⟨rfl,(ae (Below.refl _ _) _).trans (hb'.mono (by simp))⟩
theorem DZ(w:World):Calls Tryz.prog 159 #[] w λe w'=>e= .returned (.agg #[.func (.func 146) #[] #[],.func (.func 147) #[] #[]])/\Below w.heap.size w w':=by
 go_enter Tryz.func159,Tryz.ntmps159
 go_wp2_with fail
 refine bodyPost_ret (results_cell_row rfl _ _ w.heap.size 287 #[.func (.func 146) #[] #[],.func (.func 147) #[] #[]] (0,0) _ rfl ?_ Tryz.underlying287 rfl (by kernel_rfl)) rfl ?_
 .exact aV.new w [.func (.func 146) #[] #[],.func (.func 147) #[] #[]] 287
 .exact⟨rfl,ae (Below.refl _ _) _⟩
theorem IU(a b:Value)(k:Nat)(hk:k<2)(w:World):(Instr.index 287 (.agg #[a,b]) (.int .i64 (k:Int))).run Tryz.prog w= .ok (.agg #[if k=0 then a else b]) w:=by
 have h:=Tryz.underlying287
 rcases(show k=0\/k=1 by omega) with rfl|rfl
 .simp[Instr.index,run_underlying h,asIntOf,go_sem]
 .simp[Instr.index,run_underlying h,asIntOf,go_sem]
theorem MM(a b:Value)(w:World):(Instr.index 287 (.agg #[a,b]) (.int .i64 0)).run Tryz.prog w= .ok (.agg #[a]) w:=IU a b 0 (by omega) w
theorem ML(a b:Value)(w:World):(Instr.index 287 (.agg #[a,b]) (.int .i64 1)).run Tryz.prog w= .ok (.agg #[b]) w:=IU a b 1 (by omega) w
attribute [local go_sem] MM ML
theorem GK(base n o:Int)(u1 u2:Value)(w:World)(hb:2<=base)(hb1:base<=100)(hn:0<=o)(hn1:o<=999000):
  Calls Tryz.prog 71 #[.agg #[.int .i64 base,u1,u2],.int .i64 n,.int .i64 o] w λe w'=>e= .returned (.bool (decide (iR base o=n)||decide (lJ base o=n)))/\Below w.heap.size w w':=by
 go_enter Tryz.func71,Tryz.ntmps71
 go_wp2_with fail
 refine(DZ _).mono ?_
 rintro e w1 ⟨rfl,hb1'⟩
 have HB:=aa.mk ((ae (Below.refl w.heap.size w) (.cells #[.int .i64 base,u1,u2] 37)).trans (hb1'.mono (by simp)))
 have BT:=aa.mk ((aV.new w [.int .i64 base,u1,u2] 37).below hb1')
 clear hb1'
 go_wp2_with fail
 go_loopw [10] (λi wr=>∃k:Nat,k<=2/\i= .int .i64 k/\(0<k->iR base o≠n)/\(1<k->lJ base o≠n)/\aa (Below w.heap.size w wr)/\aa (aV wr w.heap.size [.int .i64 base,u1,u2] 37))
  (λi _=>2-(intOf i).toNat)
 case atStart=>exact⟨0,by omega,rfl,by omega,by omega,HB,BT⟩
 case round=>
  obtain⟨k,hk,rfl,hne0,hne1,HB2,Xz⟩:=hrel
  have hc0:=Xz.out.cell 0
  have hc1:=Xz.out.cell 1
  have hc2:=Xz.out.cell 2
  simp only[dZ,dY] at hc0 hc1 hc2
  have hlt:=Xz.out.lt
  rcases Nat.lt_or_ge k 2 with hk2|hk2
  .rcases(show k=0\/k=1 by omega) with rfl|rfl
   .go_wp2_with fail
    refine(rR base o u1 u2 _ hb hb1 hn (by omega)).mono ?_
    rintro e w4 ⟨rfl,hb4⟩
    have pY:=aa.mk ((ae HB2.out (.cells #[.func (.func 146) #[] #[]] 286)).trans (hb4.mono (ae HB2.out _).size))
    have BT4:=aa.mk ((Xz.out.alloc (.cells #[.func (.func 146) #[] #[]] 286)).below hb4)
    clear hb4
    by_cases p0:iR base o=n
    .go_wp2_with fail
     go_ret
     exact⟨by simp[p0],pY.out⟩
    .go_wp2_with fail
     exact⟨⟨1,by omega,rfl,λ_=>p0,by omega,pY,BT4⟩,by simp[intOf]⟩
   .go_wp2_with fail
    refine(xU base o u1 u2 _ hb hb1 hn hn1).mono ?_
    rintro e w4 ⟨rfl,hb4⟩
    have pY:=aa.mk ((ae HB2.out (.cells #[.func (.func 147) #[] #[]] 286)).trans (hb4.mono (ae HB2.out _).size))
    have BT4:=aa.mk ((Xz.out.alloc (.cells #[.func (.func 147) #[] #[]] 286)).below hb4)
    clear hb4
    by_cases p0:lJ base o=n
    .go_wp2_with fail
     go_ret
     exact⟨by simp[p0],pY.out⟩
    .go_wp2_with fail
     exact⟨⟨2,by omega,rfl,λ_=>hne0 (by omega),λ_=>p0,pY,BT4⟩,by simp[intOf]⟩
  .obtain rfl:k=2:=by omega
   go_wp2_with fail
   go_ret
   exact⟨by simp[hne0 (by omega),hne1 (by omega)],HB2.out⟩
end Go.Proofs.YtdekaocdmjndaaaGreat
namespace Go.Proofs.YtdekaocdmjndaaaGreat
open Go.RowKit Go.Shelf ah YtdekaocdmjndaaaGreatW.aj YtdekaocdmjndaaaGreatW.aH
def mi(s:Nat->Int)(xs:List Int)(k:Nat)(c:Nat):Int:=if c<k then s c+xs.getD c 0 else s c
def ou(s:Nat->Int)(xs:List Int):Nat->Int:=mi s xs xs.length
def eD(s:Nat->Int):List Value:=[.int .i64 (s 0),.int .i64 (s 1),.int .i64 (s 2),.int .i64 (s 3)]
theorem Ej(s:Nat->Int)(xs:List Int):mi s xs 0=s:=by funext c;simp[mi]
theorem El(s:Nat->Int)(xs:List Int)(k:Nat)(hk:k<4):eD (mi s xs (k+1))=(eD (mi s xs k)).set k (.int .i64 (s k+xs.getD k 0)):=by
 rcases(show k=0\/k=1\/k=2\/k=3 by omega) with rfl|rfl|rfl|rfl<;>simp[eD,mi]
theorem Gv(s:Nat->Int)(xs:List Int)(k:Nat)(hk:k<4):(eD (mi s xs k))[k]?=some (.int .i64 (s k)):=by
 rcases(show k=0\/k=1\/k=2\/k=3 by omega) with rfl|rfl|rfl|rfl<;>simp[eD,mi]
theorem zh(s:Nat->Int){A:Option Addr}{c:Nat}(xs:List Int)(w:World)(hx:(Kd.int .i64).C w A xs.length xs)(hl:xs.length<=4)(hs:∀i,0<=s i/\s i<=100000)(hxs:∀x ∈ xs,0<=x/\x<=100000):
  Calls Tryz.prog 62 #[.agg (eD s).toArray,.slice A xs.length c] w λe w'=>e= .returned (.agg (eD (ou s xs)).toArray)/\Below w.heap.size w w':=by
 have HX:=aa.mk hx
 have HXS:=aa.mk hxs
 clear hx hxs
 unfold eD
 go_enter Tryz.func62,Tryz.ntmps62
 go_wp2_with fail
 have HB0:=aa.mk (ae (ae (Below.refl w.heap.size w) (.cells (eD s).toArray 163)) (.cells #[.int .i64 0,.int .i64 0,.int .i64 0,.int .i64 0] 163))
 have Mq:=aa.mk ((aV.new w (eD s) 163).alloc (.cells #[.int .i64 0,.int .i64 0,.int .i64 0,.int .i64 0] 163))
 have B40:=aa.mk (aV.second w (.cells (eD s).toArray 163) [.int .i64 0,.int .i64 0,.int .i64 0,.int .i64 0] 163)
 have e0:(w.alloc (.cells (eD s).toArray 163))=(w.alloc (.cells #[.int .i64 (s 0),.int .i64 (s 1),.int .i64 (s 2),.int .i64 (s 3)] 163)):=rfl
 rw[e0] at HB0 Mq B40
 generalize(w.alloc (.cells #[.int .i64 (s 0),.int .i64 (s 1),.int .i64 (s 2),.int .i64 (s 3)] 163)).alloc (.cells #[.int .i64 0,.int .i64 0,.int .i64 0,.int .i64 0] 163)=w0 at HB0 Mq B40 ⊢
 have abq:=aa.mk (show aV w0 w.heap.size (eD (mi s xs 0)) 163 by rw[Ej];exact Mq.out)
 clear Mq e0
 go_loopw [9] (λv9 wr=>∃k:Nat,k<=xs.length/\v9= .int .i64 k/\aa (Below w.heap.size w wr)/\aa (aV wr w.heap.size (eD (mi s xs k)) 163)/\aa (aV wr (w.heap.size+1) [.int .i64 0,.int .i64 0,.int .i64 0,.int .i64 0] 163)) (λv9 _=>xs.length-(intOf v9).toNat)
 case atStart=>exact⟨0,Nat.zero_le _,rfl,HB0,abq,B40⟩
 case round=>
  clear HB0 abq B40
  obtain⟨k,hk,rfl,HB,B2,B4⟩:=hrel
  by_cases hkl:k<xs.length
  .have hc:=B2.out.cell k
   have hcf:=B2.out.frozen k
   rw[Gv _ _ k (by omega)] at hc
   have hlt:=B2.out.lt
   obtain⟨ad,e,hx⟩:=Kd.gu (Kd.aC HX.out HB.out) (k:Int) (by omega) (by omega)
   cases e
   rw[Int.toNat_natCast] at hx
   have hr:rd xs (k:Int)=xs.getD k 0:=rfl
   have hb:=hs k
   have hb2:=HXS.out (xs.getD k 0) (by rw[List.getD_eq_getElem?_getD,List.getElem?_eq_getElem hkl];exact List.getElem_mem hkl)
   have hst:=El s xs k (by omega)
   rw[hr] at hx
   obtain⟨x,hxe⟩:∃x,xs.getD k 0=x:=⟨_,rfl⟩
   obtain⟨y,hye⟩:∃y,s k=y:=⟨_,rfl⟩
   rw[hxe] at hx hb2 hst
   rw[hye] at hc hb hst
   have HST:=aa.mk hst
   have hk4:(k:Int)<4:=by omega
   clear hr hst hxe hye hs
   go_wp2_with fail
   refine⟨⟨k+1,by omega,rfl,⟨HB.out.setCell (p:=⟨w.heap.size,k,none⟩) (by simp only;omega) _⟩,⟨by rw[HST.out];exact B2.out.setAt k _⟩,⟨dO B4.out (p:=⟨w.heap.size,k,none⟩) (by simp only;omega) _⟩⟩,by simp[intOf];omega⟩
  .obtain rfl:k=xs.length:=by omega
   have h0:=B2.out.cell 0
   have h1:=B2.out.cell 1
   have h2:=B2.out.cell 2
   have h3:=B2.out.cell 3
   simp only[eD,dZ,dY] at h0 h1 h2 h3
   have hg4:=B4.out.lt
   have r0:=B4.out.cell 0
   have r1:=B4.out.cell 1
   have r2:=B4.out.cell 2
   have r3:=B4.out.cell 3
   have f0:=B4.out.frozen 0
   have f1:=B4.out.frozen 1
   have f2:=B4.out.frozen 2
   have f3:=B4.out.frozen 3
   simp only[dZ,dY] at r0 r1 r2 r3
   go_wp2_with fail
   refine bodyPost_ret (results_cell_row rfl _ _ (w.heap.size+1) 163 (eD (ou s xs)).toArray (0,0) _ rfl ?_ Tryz.underlying163 rfl (by kernel_rfl)) rfl ?_
   .exact(((B4.out.setAt 0 _).setAt 1 _).setAt 2 _).setAt 3 _
   .exact⟨rfl,(((HB.out.setCell (p:=⟨w.heap.size+1,0,none⟩) (by simp only;omega) _).setCell (p:=⟨w.heap.size+1,1,none⟩) (by simp only;omega) _).setCell (p:=⟨w.heap.size+1,2,none⟩) (by simp only;omega) _).setCell (p:=⟨w.heap.size+1,3,none⟩) (by simp only;omega) _⟩
def bO(rows:List (List Int)):Nat->Int:=rows.foldl ou (λ_=>0)
theorem xS(rows:List (List Int))(k:Nat)(hk:k<rows.length):bO (rows.take (k+1))=ou (bO (rows.take k)) (rows.getD k []):=by
 unfold bO
 rw[List.take_succ,List.foldl_append,List.getElem?_eq_getElem hk,List.getD_eq_getElem?_getD,List.getElem?_eq_getElem hk]
 rfl
theorem xE{s:Nat->Int}{xs:List Int}{b:Int}(hs:∀i,0<=s i/\s i<=b){d:Int}(hd:0<=d)(hx:∀x ∈ xs,0<=x/\x<=d)(i:Nat):0<=ou s xs i/\ou s xs i<=b+d:=by
 unfold ou mi
 have h1:=hs i
 by_cases h:i<xs.length
 .rw[if_pos h]
  have:=hx (xs.getD i 0) (by rw[List.getD_eq_getElem?_getD,List.getElem?_eq_getElem h];exact List.getElem_mem h)
  omega
 .rw[if_neg h]
  omega
theorem mQ{rows:List (List Int)}(h:∀r ∈ rows,∀x ∈ r,0<=x/\x<=10100):∀k i,k<=rows.length->0<=bO (rows.take k) i/\bO (rows.take k) i<=10100*k
 |0,i,_=>by simp[bO]
 |k+1,i,hk=>by
  rw[xS _ _ (by omega)]
  have h1:=xE (b:=10100*k) (d:=10100) (λi=>mQ h k i (by omega)) (by omega) (h (rows.getD k []) (by rw[List.getD_eq_getElem?_getD,List.getElem?_eq_getElem (show k<rows.length by omega)];exact List.getElem_mem _)) i
  push_cast
  omega
theorem Fy{A:Option Addr}{c:Nat}(rows:List (List Int))(w:World)(hx:(Kd.slice 3 (Kd.int .i64)).C w A rows.length rows)(hn:rows.length<=5)(hl:∀r ∈ rows,r.length<=4)(hr:∀r ∈ rows,∀x ∈ r,0<=x/\x<=10100):
  Calls Tryz.prog 75 #[.slice A rows.length c] w λe w'=>e= .returned (.agg (eD (bO rows)).toArray)/\Below w.heap.size w w':=by
 have HX:=aa.mk hx
 have HL:=aa.mk hl
 have HR:=aa.mk hr
 clear hx hl hr
 go_enter Tryz.func75,Tryz.ntmps75
 go_wp2_with fail
 have HB0:=aa.mk (ae (Below.refl w.heap.size w) (.cells #[.int .i64 0,.int .i64 0,.int .i64 0,.int .i64 0] 163))
 have Mq:=aa.mk (show aV _ w.heap.size (eD (bO (rows.take 0))) 163 from aV.new w [.int .i64 0,.int .i64 0,.int .i64 0,.int .i64 0] 163)
 generalize w.alloc (.cells #[.int .i64 0,.int .i64 0,.int .i64 0,.int .i64 0] 163)=w0 at HB0 Mq ⊢
 go_loopw [7] (λv7 wr=>∃k:Nat,k<=rows.length/\v7= .int .i64 k/\aa (Below w.heap.size w wr)/\aa (aV wr w.heap.size (eD (bO (rows.take k))) 163)) (λv7 _=>rows.length-(intOf v7).toNat)
 case atStart=>exact⟨0,Nat.zero_le _,rfl,HB0,Mq⟩
 case round=>
  clear HB0 Mq
  obtain⟨k,hk,rfl,HB,B2⟩:=hrel
  have h0:=B2.out.cell 0
  have h1:=B2.out.cell 1
  have h2:=B2.out.cell 2
  have h3:=B2.out.cell 3
  simp only[eD,dZ,dY] at h0 h1 h2 h3
  have f0:=B2.out.frozen 0
  have f1:=B2.out.frozen 1
  have f2:=B2.out.frozen 2
  have f3:=B2.out.frozen 3
  have hg2:=B2.out.lt
  by_cases hkl:k<rows.length
  .obtain⟨ad,A0,c0,e,hc,hc0,hC⟩:=Fv (Kd.aC HX.out HB.out) (k:Int) (by omega) (by omega)
   cases e
   rw[Int.toNat_natCast] at hc
   have hst:=xS rows k hkl
   have hbd:=λi=>mQ HR.out k i (by omega)
   have hmem:rows.getD k [] ∈ rows:=by rw[List.getD_eq_getElem?_getD,List.getElem?_eq_getElem hkl];exact List.getElem_mem hkl
   have hr4:=HL.out _ hmem
   have hrx:=HR.out _ hmem
   have hrd:tO rows (k:Int)=rows.getD k []:=rfl
   rw[hrd] at hc hc0 hC
   obtain⟨r,hre⟩:∃r,rows.getD k []=r:=⟨_,rfl⟩
   rw[hre] at hc hc0 hC hst hr4 hrx
   obtain⟨s,hse⟩:∃s,bO (rows.take k)=s:=⟨_,rfl⟩
   rw[hse] at h0 h1 h2 h3 hst hbd
   have HST:=aa.mk hst
   have HC:=aa.mk hC
   have HBD:=aa.mk hbd
   have HRX:=aa.mk hrx
   clear hst hmem hrd hre hse hC hbd hrx
   go_wp2_with fail
   refine(zh s r _ HC.out hr4 (λi=>?_) (λx hx=>?_)).mono ?_
   .have:=HBD.out i
    omega
   .have:=HRX.out x hx
    omega
   rintro e w4 ⟨rfl,hb4⟩
   have pY:=aa.mk (HB.out.trans (hb4.mono HB.out.size))
   have B4:=aa.mk (B2.out.below hb4)
   have e0:=B4.out.cell 0
   have e1:=B4.out.cell 1
   have e2:=B4.out.cell 2
   have e3:=B4.out.cell 3
   have f0:=B4.out.frozen 0
   have f1:=B4.out.frozen 1
   have f2:=B4.out.frozen 2
   have f3:=B4.out.frozen 3
   have hg4:=B4.out.lt
   simp only[eD,dZ,dY] at e0 e1 e2 e3 ⊢
   clear h0 h1 h2 h3
   go_wp2_with fail
   refine⟨⟨k+1,by omega,rfl,⟨(((pY.out.setCell (p:=⟨w.heap.size,0,none⟩) (by simp only;omega) _).setCell (p:=⟨w.heap.size,1,none⟩) (by simp only;omega) _).setCell (p:=⟨w.heap.size,2,none⟩) (by simp only;omega) _).setCell (p:=⟨w.heap.size,3,none⟩) (by simp only;omega) _⟩,⟨?_⟩⟩,by simp[intOf];omega⟩
   rw[HST.out]
   exact(((B4.out.setAt 0 _).setAt 1 _).setAt 2 _).setAt 3 _
  .obtain rfl:k=rows.length:=by omega
   go_wp2_with fail
   refine bodyPost_ret (results_cell_row rfl _ _ w.heap.size 163 (eD (bO rows)).toArray (0,0) _ rfl ?_ Tryz.underlying163 rfl (by kernel_rfl)) rfl ?_
   .exact(((B2.out.setAt 0 _).setAt 1 _).setAt 2 _).setAt 3 _
   .exact⟨rfl,(((HB.out.setCell (p:=⟨w.heap.size,0,none⟩) (by simp only;omega) _).setCell (p:=⟨w.heap.size,1,none⟩) (by simp only;omega) _).setCell (p:=⟨w.heap.size,2,none⟩) (by simp only;omega) _).setCell (p:=⟨w.heap.size,3,none⟩) (by simp only;omega) _⟩
def Fg.T5:Bool×List (List Nat×List Nat):=(true,[([],[]),([],[]),([1],[1]),([2],[2]),([],[]),([4],[4]),([5],[5]),([0,3,6],[0,3,6]),([7],[7])])
def Fg.B5:List Nat:=[0,0,2,6,0,16,48,127,255]
theorem Fg.yV:eB .any (opsOf Tryz.f74 5)=Fg.T5:=by kernel_rfl
theorem Fg.rP:bI Fg.T5.2 Fg.B5=true:=by kernel_rfl
def Fg.T8:Bool×List (List Nat×List Nat):=(true,[([],[]),([],[]),([1],[1]),([],[]),([3,2],[3]),([0,2,4,4],[0,2,4]),([5,5,0,1,2,3,4,5],[5])])
def Fg.B8:List Nat:=[0,0,2,0,14,31,63]
theorem Fg.Ut:eB .any (opsOf Tryz.f74 8)=Fg.T8:=by kernel_rfl
theorem Fg.Jk:bI Fg.T8.2 Fg.B8=true:=by kernel_rfl
def pq(base n o:Int):Bool:=decide (iR base o=n)||decide (lJ base o=n)
def xX(s:Nat->Int):Int:=[s 0,s 1,s 2,s 3].sum
def qD(base:Int)(rows:List (List Int))(s:Nat->Int):Bool:=((List.range (rows.getD 0 []).length).all λc=>pq base (s c) (bO rows c))&&pq base (xX s) (xX (bO rows))
theorem PN{w:World}{g:Nat}{s:Nat->Int}{t:TypeId}(h:aV w g (eD s) t):(Kd.int .i64).C w (some ⟨g,0,none⟩) 4 [s 0,s 1,s 2,s 3]:=by
 have h0:=h.cell 0
 have h1:=h.cell 1
 have h2:=h.cell 2
 have h3:=h.cell 3
 simp only[eD,dZ,dY] at h0 h1 h2 h3
 refine⟨rfl,by decide,λ_=>⟨_,rfl,λj p hj=>?_⟩⟩
 have hj4:j<4:=by simpa using (List.getElem?_eq_some_iff.1 hj).1
 rcases(show j=0\/j=1\/j=2\/j=3 by omega) with rfl|rfl|rfl|rfl<;>(simp only[dZ,dY,Option.some.injEq] at hj;subst hj;refine⟨_,rfl,rfl,λi u hu=>?_⟩;match i,hu with|0,hu=>(cases hu;first|exact h0|exact h1|exact h2|exact h3))
theorem DU(xs:List Int)(h:∀x ∈ xs,0<=x/\x<=100000)(hl:xs.length<=10):∀(d k i:Nat) (acc:Int),i+d=xs.length->d<k->0<=acc->acc<=100000*i->cK.l0 k acc xs xs.length i=some (acc+(xs.drop i).sum)
 |0,k,i,acc,hi,hk,h0,h1=>by
  obtain⟨k,rfl⟩:∃m,k=m+1:=⟨k-1,by omega⟩
  rw[cK.l0,if_neg (by omega),List.drop_eq_nil_of_le (by omega)]
  simp
 |d+1,k,i,acc,hi,hk,h0,h1=>by
  obtain⟨k,rfl⟩:∃m,k=m+1:=⟨k-1,by omega⟩
  have hlt:i<xs.length:=by omega
  have hr:rd xs (i:Int)=xs[i]:=by
   show xs.getD (i:Int).toNat 0=xs[i]
   rw[List.getD_eq_getElem?_getD,Int.toNat_natCast,List.getElem?_eq_getElem hlt]
   rfl
  have hx:=h xs[i] (List.getElem_mem hlt)
  rw[cK.l0,if_pos (by omega),if_pos (by omega),if_pos (by omega),hr,show wrap64 (acc+xs[i])=acc+xs[i] by unfold wrap64;omega,show wrap64 ((i:Int)+1)=((i+1:Nat):Int) by unfold wrap64;push_cast;omega,DU xs h hl d k (i+1) _ (by omega) (by omega) (by omega) (by push_cast;omega),List.drop_eq_getElem_cons hlt,List.sum_cons,Int.add_assoc]
theorem qW{A:Option Addr}{c:Nat}(xs:List Int)(w:World)(hx:(Kd.int .i64).C w A xs.length xs)(hc:xs.length<=c)(h:∀x ∈ xs,0<=x/\x<=100000)(hl:xs.length<=10):
  Calls Tryz.prog 72 #[.slice A xs.length c] w λe w'=>e= .returned (.int .i64 xs.sum)/\Below w.heap.size w w':=
 (cK.calls 11 A c xs xs.sum w hx hc (by have:=DU xs h hl xs.length 11 0 0 (by omega) (by omega) (by omega) (by omega);simpa[cK.f] using this)).mono λ_ _ h=>⟨h.1,h.2.below⟩
theorem rq(base n o:Int)(b:Bool)(hn_:pq base n o=b)(u1 u2:Value)(w:World)(hb:2<=base)(hb1:base<=100)(hn:0<=o)(hn1:o<=999000):
  Calls Tryz.prog 71 #[.agg #[.int .i64 base,u1,u2],.int .i64 n,.int .i64 o] w λe w'=>e= .returned (.bool b)/\Below w.heap.size w w':=by
 subst hn_
 exact GK base n o u1 u2 w hb hb1 hn hn1
theorem Hw(s:Nat->Int)(k:Nat)(hk:k<4):(eD s)[k]?=some (.int .i64 (s k)):=by
 rcases(show k=0\/k=1\/k=2\/k=3 by omega) with rfl|rfl|rfl|rfl<;>rfl
structure wE(w:World)(A:Option Addr)(c:Nat)(base:Int)(rows:List (List Int))(Af:Option Addr)(cf:Nat)(fx:List dh):Prop where
 kr:(Kd.slice 3 (Kd.int .i64)).C w A rows.length rows
 hc:rows.length<=c
 kf:zt.C w Af fx.length fx
 hcf:fx.length<=cf
 b0:2<=base
 b1:base<=100
 n:rows.length<=5
 n1:0<rows.length
 l:∀r ∈ rows,r.length=(rows.getD 0 []).length
 l4:(rows.getD 0 []).length<=4
 x:∀r ∈ rows,∀x ∈ r,0<=x/\x<=10100
theorem wE.later{w w':World}{A:Option Addr}{c:Nat}{base:Int}{rows:List (List Int)}{Af:Option Addr}{cf:Nat}{fx:List dh}(h:wE w A c base rows Af cf fx)(hb:Below w.heap.size w w'):wE w' A c base rows Af cf fx:=
 {h with kr:=Kd.aC h.kr hb,kf:=Kd.aC h.kf hb}
theorem Dm{A:Option Addr}{c:Nat}{base:Int}{rows:List (List Int)}{Af:Option Addr}{cf:Nat}{fx:List dh}(s:Nat->Int)(w:World)(hT:wE w A c base rows Af cf fx)(hs:∀i,0<=s i/\s i<=100000):
  Calls Tryz.prog 74 #[.agg #[.int .i64 base,.slice A rows.length c,.slice Af fx.length cf],.agg (eD s).toArray] w λe w'=>e= .returned (.bool (qD base rows s))/\Below w.heap.size w w':=by
 have HT:=aa.mk hT
 have HS:=aa.mk hs
 have hb0:=hT.b0
 have hb1:=hT.b1
 clear hT hs
 unfold eD
 go_enter Tryz.func74,Tryz.ntmps74
 go_wp2_with fail
 have HB0:=aa.mk (ae (ae (Below.refl w.heap.size w) (.cells #[.int .i64 base,.slice A rows.length c,.slice Af fx.length cf] 37)) (.cells #[.int .i64 (s 0),.int .i64 (s 1),.int .i64 (s 2),.int .i64 (s 3)] 163))
 have Mq:=aa.mk ((aV.new w [.int .i64 base,.slice A rows.length c,.slice Af fx.length cf] 37).alloc (.cells #[.int .i64 (s 0),.int .i64 (s 1),.int .i64 (s 2),.int .i64 (s 3)] 163))
 have B30:=aa.mk (show aV _ (w.heap.size+1) (eD s) 163 from aV.second w (.cells #[.int .i64 base,.slice A rows.length c,.slice Af fx.length cf] 37) [.int .i64 (s 0),.int .i64 (s 1),.int .i64 (s 2),.int .i64 (s 3)] 163)
 generalize(w.alloc (.cells #[.int .i64 base,.slice A rows.length c,.slice Af fx.length cf] 37)).alloc (.cells #[.int .i64 (s 0),.int .i64 (s 1),.int .i64 (s 2),.int .i64 (s 3)] 163)=w0 at HB0 Mq B30 ⊢
 refine(Fy rows w0 (HT.out.later HB0.out).kr HT.out.n (λr hr=>by rw[HT.out.l r hr];exact HT.out.l4) HT.out.x).mono ?_
 rintro e w1 ⟨rfl,dK⟩
 have HB1:=aa.mk (HB0.out.trans (dK.mono HB0.out.size))
 have Cm:=aa.mk (Mq.out.below dK)
 have Mf:=aa.mk (B30.out.below dK)
 clear dK HB0 Mq B30
 have h20:=Cm.out.cell 0
 have h21:=Cm.out.cell 1
 have h22:=Cm.out.cell 2
 simp only[eD,dZ,dY] at h20 h21 h22 ⊢
 have hg2:=Cm.out.lt
 go_wp2_with fail
 have HB2:=aa.mk (ae HB1.out (.cells #[.int .i64 (bO rows 0),.int .i64 (bO rows 1),.int .i64 (bO rows 2),.int .i64 (bO rows 3)] 163))
 have Uj:=aa.mk (Cm.out.alloc (.cells #[.int .i64 (bO rows 0),.int .i64 (bO rows 1),.int .i64 (bO rows 2),.int .i64 (bO rows 3)] 163))
 have P9:=aa.mk (Mf.out.alloc (.cells #[.int .i64 (bO rows 0),.int .i64 (bO rows 1),.int .i64 (bO rows 2),.int .i64 (bO rows 3)] 163))
 have B52:=aa.mk (show aV _ w1.heap.size (eD (bO rows)) 163 from aV.new w1 [.int .i64 (bO rows 0),.int .i64 (bO rows 1),.int .i64 (bO rows 2),.int .i64 (bO rows 3)] 163)
 have hg5:w.heap.size+1<w1.heap.size:=Mf.out.lt
 clear HB1 Cm Mf h20 h21 h22 hg2
 generalize w1.alloc (.cells #[.int .i64 (bO rows 0),.int .i64 (bO rows 1),.int .i64 (bO rows 2),.int .i64 (bO rows 3)] 163)=w2 at HB2 Uj P9 B52 ⊢
 generalize w1.heap.size=g5 at B52 hg5 ⊢
 refine(fo.calls base A c rows Af cf fx ((rows.getD 0 []).length:Int) w2 (HT.out.later HB2.out).kr HT.out.hc (HT.out.later HB2.out).kf HT.out.hcf ?_).mono ?_
 .have:=HT.out.n1
  unfold fo.f
  rw[if_neg (by omega),if_pos (by omega)]
  rfl
 rintro e w3 ⟨rfl,dK⟩
 have HB3:=aa.mk (HB2.out.trans (dK.mono HB2.out.size))
 have WY:=aa.mk (Uj.out.below dK)
 have B33:=aa.mk (P9.out.below dK)
 have B53:=aa.mk (B52.out.below dK)
 clear dK HB2 Uj P9 B52
 have PV:(rows.getD 0 []).length<=4:=HT.out.l4
 have HM:=aa.mk (rfl:(rows.getD 0 []).length=(rows.getD 0 []).length)
 obtain⟨m,hm⟩:∃m,(rows.getD 0 []).length=m:=⟨_,rfl⟩
 have PZ:=aa.mk hm
 rw[hm] at PV ⊢
 clear hm HM
 go_wp2_with fail
 go_loopw [12] (λv12 wr=>∃k:Nat,k<=m/\v12= .int .i64 k/\aa (∀c:Nat,c<k->pq base (s c) (bO rows c)=true)/\aa (Below w.heap.size w wr)/\aa (aV wr w.heap.size [.int .i64 base,.slice A rows.length c,.slice Af fx.length cf] 37)/\aa (aV wr (w.heap.size+1) (eD s) 163)/\aa (aV wr g5 (eD (bO rows)) 163)) (λv12 _=>m-(intOf v12).toNat)
 case atStart=>exact⟨0,Nat.zero_le _,rfl,⟨λc hc=>absurd hc (by omega)⟩,HB3,WY,B33,B53⟩
 case round=>
  clear HB3 WY B33 B53
  obtain⟨k,hk,rfl,HN,HB,B2,B3,B5⟩:=hrel
  have h20:=B2.out.cell 0
  have h21:=B2.out.cell 1
  have h22:=B2.out.cell 2
  simp only[dZ,dY] at h20 h21 h22
  by_cases hkl:k<m
  .have h3:=B3.out.cell k
   have h5:=B5.out.cell k
   rw[Hw _ k (by omega)] at h3 h5
   have hk4:(k:Int)<4:=by omega
   have hl3:=B3.out.lt
   have hl5:=B5.out.lt
   have hbd:=mQ HT.out.x rows.length k (by omega)
   rw[List.take_length] at hbd
   have hn5:=HT.out.n
   obtain⟨y,hy⟩:∃y,bO rows k=y:=⟨_,rfl⟩
   obtain⟨x,hx⟩:∃x,s k=x:=⟨_,rfl⟩
   rw[hy] at h5 hbd
   rw[hx] at h3
   obtain⟨b,hb⟩:∃b,pq base x y=b:=⟨_,rfl⟩
   have HXY:=aa.mk (show pq base (s k) (bO rows k)=b by rw[hx,hy];exact hb)
   have SG:=λw=>rq base x y b hb (.slice A rows.length c) (.slice Af fx.length cf) w hb0 hb1 hbd.1 (by omega)
   have HNR:=aa.mk SG
   clear SG hx hy hb
   go_wp2_with fail
   refine fF (n:=9) (S:=λw'=>w'.cell? ⟨w.heap.size,0,none⟩=some (.int .i64 base)/\w'.cell? ⟨w.heap.size,1,none⟩=some (.slice A rows.length c)/\w'.cell? ⟨w.heap.size,2,none⟩=some (.slice Af fx.length cf)/\w'.cell? ⟨w.heap.size+1,k,none⟩=some (.int .i64 x)/\w'.cell? ⟨g5,k,none⟩=some (.int .i64 y)) (ds:=[7]) #[O,O,O,O,O,O,O,O,O] (by kernel_rfl) rfl rfl ⟨h20,h21,h22,h3,h5⟩ (λhHeld=>?_);refine bG Fg.yV Fg.rP (λau cz=>?_)
   replace HB:=aa.mk (aN HB.out)
   replace B2:=aa.mk (B2.out.move rfl:aV wr.drew _ _ _)
   replace B3:=aa.mk (B3.out.move rfl:aV wr.drew _ _ _)
   replace B5:=aa.mk (B5.out.move rfl:aV wr.drew _ _ _)
   clear h20 h21 h22 h3 h5
   generalize wr.drew=wd at HB B2 B3 B5 hHeld ⊢
   refine fJ 0 15 #[I,O,O,O,O,O,O,O,O] au cz hHeld (hy:=by(rintro w' ⟨s0,s1,s2,s3,s4⟩;go_simp;with_reducible rfl)) (h:=?_)
   refine bq 1 16 #[I,I,O,O,O,O,O,O,O] au (h:=?_)
   refine bq 2 17 #[I,I,I,O,O,O,O,O,O] au (h:=?_)
   refine fJ 3 18 #[I,I,I,I,O,O,O,O,O] au cz hHeld (hy:=by(rintro w' ⟨s0,s1,s2,s3,s4⟩;go_simp;with_reducible rfl)) (h:=?_)
   refine bq 4 19 #[I,I,I,I,I,O,O,O,O] au (h:=?_)
   refine bq 5 20 #[I,I,I,I,I,I,O,O,O] au (h:=?_)
   refine fJ 6 21 #[I,I,I,I,I,I,I,O,O] au cz hHeld (hy:=by(rintro w' ⟨s0,s1,s2,s3,s4⟩;go_simp;with_reducible rfl)) (h:=?_)
   refine fB (i:=7) (N:=some 22) #[I,I,I,I,I,I,I,I,O] rfl rfl (aM au.out (by kernel_rfl)) (by decide) (λK hK=>?_)
   refine bT Tryz.func71 (by kernel_rfl) rfl #[.agg #[.int .i64 base,.slice A rows.length c,.slice Af fx.length cf],.int .i64 x,.int .i64 y] (by rfl) rfl rfl (by(try simp only[List.map_toArray,List.map_cons,List.map_nil]);rfl) ?_
   refine(HNR.out _).mono ?_
   rintro e_ w_ ⟨rfl,hbx⟩
   refine⟨_,rfl,hK.out _ _ ?_⟩
   clear hK K
   have qV:=aa.mk (HB.out.trans (hbx.mono HB.out.size))
   have B2':=aa.mk (B2.out.below hbx)
   have B3':=aa.mk (B3.out.below hbx)
   have B5':=aa.mk (B5.out.below hbx)
   clear HB B2 B3 B5 hHeld
   refine j4 ?_
   refine bq 8 23 #[I,I,I,I,I,I,I,I,I] au (h:=?_)
   refine fM (bP au.out (by kernel_rfl)) ?_
   cases b
   .go_wp2_with fail
    go_ret
    refine⟨?_,qV.out⟩
    have:qD base rows s=false:=by
     unfold qD
     rw[show((List.range (rows.getD 0 []).length).all λc=>pq base (s c) (bO rows c))=false from List.all_eq_false.2 ⟨k,by rw[PZ.out];exact List.mem_range.2 hkl,by rw[HXY.out];simp⟩]
     rfl
    rw[this]
    rfl
   .go_wp2_with fail
    refine⟨⟨k+1,by omega,by go_num,⟨λc hc=>?_⟩,qV,B2',B3',B5'⟩,by simp[intOf];omega⟩
    rcases Nat.lt_or_ge c k with h|h
    .exact HN.out c h
    .rw[show c=k by omega];exact HXY.out
  .obtain rfl:k=m:=by omega
   go_wp2_with fail
   have hbd:=λi=>mQ HT.out.x rows.length i (by omega)
   rw[List.take_length] at hbd
   have hn5:=HT.out.n
   have EM:=λi=>HS.out i
   have e0:qD base rows s=pq base (xX s) (xX (bO rows)):=by
    unfold qD
    rw[show((List.range (rows.getD 0 []).length).all λc=>pq base (s c) (bO rows c))=true from List.all_eq_true.2 λc hc=>HN.out c (by rw[PZ.out] at hc;exact List.mem_range.1 hc)]
    rfl
   obtain⟨b,hb⟩:∃b,pq base (xX s) (xX (bO rows))=b:=⟨_,rfl⟩
   have HE:=aa.mk (e0.trans hb)
   have HX:=aa.mk (show ∀w,Calls _ _ _ w _ from λw=>rq base (xX s) (xX (bO rows)) b hb (.slice A rows.length c) (.slice Af fx.length cf) w hb0 hb1 (by have h0:=hbd 0;have h1:=hbd 1;have h2:=hbd 2;have h3:=hbd 3;simp[xX];omega) (by have h0:=hbd 0;have h1:=hbd 1;have h2:=hbd 2;have h3:=hbd 3;simp[xX];omega))
   have HS0:=aa.mk (show ∀x ∈ [s 0,s 1,s 2,s 3],0<=x/\x<=100000 by have h0:=EM 0;have h1:=EM 1;have h2:=EM 2;have h3:=EM 3;simp;omega)
   have HA0:=aa.mk (show ∀x ∈ [bO rows 0,bO rows 1,bO rows 2,bO rows 3],0<=x/\x<=100000 by have h0:=hbd 0;have h1:=hbd 1;have h2:=hbd 2;have h3:=hbd 3;simp;omega)
   clear hbd hn5 EM e0 hb
   refine fF (n:=7) (S:=λw'=>w'.cell? ⟨w.heap.size,0,none⟩=some (.int .i64 base)/\w'.cell? ⟨w.heap.size,1,none⟩=some (.slice A rows.length c)/\w'.cell? ⟨w.heap.size,2,none⟩=some (.slice Af fx.length cf)) (ds:=[5]) #[O,O,O,O,O,O,O] (by kernel_rfl) rfl rfl ⟨h20,h21,h22⟩ (λhHeld=>?_);refine bG Fg.Ut Fg.Jk (λau cz=>?_)
   replace HB:=aa.mk (aN HB.out)
   have B2_:=aa.mk (B2.out.move rfl:aV wr.drew _ _ _)
   have B3_:=aa.mk (B3.out.move rfl:aV wr.drew _ _ _)
   have B5_:=aa.mk (B5.out.move rfl:aV wr.drew _ _ _)
   clear h20 h21 h22 B2 B3 B5
   generalize wr.drew=wd at HB B2_ B3_ B5_ hHeld ⊢
   refine fJ 0 25 #[I,O,O,O,O,O,O] au cz hHeld (hy:=by(rintro w' ⟨s0,s1,s2⟩;go_simp;with_reducible rfl)) (h:=?_)
   refine bq 1 26 #[I,I,O,O,O,O,O] au (h:=?_)
   refine bq 3 28 #[I,I,O,I,O,O,O] au (h:=?_)
   refine gB (i:=2) (N:=some 27) #[I,I,I,I,O,O,O] rfl rfl (aM au.out (by kernel_rfl)) (by decide) (λK hK=>?_)
   refine bT Tryz.func72 (by kernel_rfl) rfl #[.slice (some ⟨w.heap.size+1,0,none⟩) 4 4] (by rfl) rfl rfl (by(try simp only[List.map_toArray,List.map_cons,List.map_nil]);rfl) ?_
   refine(qW [s 0,s 1,s 2,s 3] _ (PN B3_.out) (by simp) HS0.out (by simp)).mono ?_
   rintro e_ w_ ⟨rfl,hbx⟩
   refine⟨_,rfl,hK.out _ _ ⟨(by simpa using (B2_.out.below hbx).cell 0),(by simpa using (B2_.out.below hbx).cell 1),(by simpa using (B2_.out.below hbx).cell 2)⟩ (λhHeld=>?_)⟩
   clear hK K
   have HB1:=aa.mk (HB.out.trans (hbx.mono HB.out.size))
   have Sl:=aa.mk (B2_.out.below hbx)
   have ahe:=aa.mk (B3_.out.below hbx)
   have abj:=aa.mk (B5_.out.below hbx)
   refine j4 ?_
   refine gB (i:=4) (N:=some 29) #[I,I,I,I,I,O,O] rfl rfl (aM au.out (by kernel_rfl)) (by decide) (λK hK=>?_)
   refine bT Tryz.func72 (by kernel_rfl) rfl #[.slice (some ⟨g5,0,none⟩) 4 4] (by rfl) rfl rfl (by(try simp only[List.map_toArray,List.map_cons,List.map_nil]);rfl) ?_
   refine(qW [bO rows 0,bO rows 1,bO rows 2,bO rows 3] _ (PN abj.out) (by simp) HA0.out (by simp)).mono ?_
   rintro e_ w_ ⟨rfl,hbx⟩
   refine⟨_,rfl,hK.out _ _ ⟨(by simpa using (Sl.out.below hbx).cell 0),(by simpa using (Sl.out.below hbx).cell 1),(by simpa using (Sl.out.below hbx).cell 2)⟩ (λhHeld=>?_)⟩
   clear hK K
   have HB2:=aa.mk (HB1.out.trans (hbx.mono HB1.out.size))
   have am4:=aa.mk (Sl.out.below hbx)
   have am3:=aa.mk (ahe.out.below hbx)
   have am1:=aa.mk (abj.out.below hbx)
   refine j4 ?_
   refine fB (i:=5) (N:=some 30) #[I,I,I,I,I,I,O] rfl rfl (aM au.out (by kernel_rfl)) (by decide) (λK hK=>?_)
   refine bT Tryz.func71 (by kernel_rfl) rfl #[.agg #[.int .i64 base,.slice A rows.length c,.slice Af fx.length cf],.int .i64 (xX s),.int .i64 (xX (bO rows))] (by rfl) rfl rfl (by(try simp only[List.map_toArray,List.map_cons,List.map_nil]);rfl) ?_
   refine(HX.out _).mono ?_
   rintro e_ w_ ⟨rfl,hbx⟩
   refine⟨_,rfl,hK.out _ _ ?_⟩
   clear hK K
   have qV:=aa.mk (HB2.out.trans (hbx.mono HB2.out.size))
   clear hHeld
   refine j4 ?_
   refine bq 6 4 #[I,I,I,I,I,I,I] au (h:=?_)
   refine fM (bP au.out (by kernel_rfl)) ?_
   go_wp2_with fail
   go_ret
   exact⟨by(rw[HE.out];rfl),qV.out⟩
def j6(fx:List dh)(row:Int)(xs:List Int):Bool:=fx.all λf=>!(f.f0==row)||(xs.getD f.f1.toNat 0==f.f2)
theorem ER{Af:Option Addr}{cf:Nat}{fx:List dh}{A:Option Addr}{c:Nat}(u0 u1:Value)(row:Int)(xs:List Int)(w:World)(hF:zt.C w Af fx.length fx)(hcf:fx.length<=cf)(hx:(Kd.int .i64).C w A xs.length xs)(hb:∀f ∈ fx,f.f0=row->0<=f.f1/\f.f1<xs.length)(hf:fx.length<=1000)(hu0:u0.cells=#[u0])(hu1:u1.cells=#[u1]):
  Calls Tryz.prog 73 #[.agg #[u0,u1,.slice Af fx.length cf],.int .i64 row,.slice A xs.length c] w λe w'=>e= .returned (.bool (j6 fx row xs))/\Below w.heap.size w w':=by
 have HF:=aa.mk hF
 have HX:=aa.mk hx
 have HBX:=aa.mk hb
 clear hF hx hb
 go_enter Tryz.func73,Tryz.ntmps73
 go_wp2_with fail
 have HB0:=aa.mk (ae (Below.refl w.heap.size w) (.cells #[u0,u1,.slice Af fx.length cf] 37))
 have B0:=aV.new w [u0,u1,.slice Af fx.length cf] 37
 have h2:=B0.cell 2
 simp only[dZ,dY] at h2
 have hg:=B0.lt
 clear B0
 generalize w.alloc (.cells #[u0,u1,.slice Af fx.length cf] 37)=w0 at HB0 h2 hg ⊢
 go_step3
 go_wp2_with fail
 go_step3
 go_wp2_with fail
 clear h2 hg
 go_loopw [7,13] (λv7 v wr=>∃k:Nat,k<=fx.length/\v7= .bool true/\v= .int .i64 k/\aa (j6 (fx.take k) row xs=true)/\aa (Below w.heap.size w wr)) (λv7 v _=>fx.length-(intOf v).toNat)
 case atStart=>exact⟨0,Nat.zero_le _,rfl,rfl,⟨rfl⟩,HB0⟩
 case round=>
  clear HB0
  obtain⟨k,hk,rfl,rfl,HH,HB⟩:=hrel
  by_cases hkl:k<fx.length
  .obtain⟨ad,e,h0,h1,h2⟩:=Jo (Kd.aC HF.out HB.out) (k:Int) (by omega) (by omega)
   cases e
   simp only[Int.toNat_natCast] at h0 h1 h2
   have hrr:sD fx (k:Int)=fx[k]:=by
    show fx.getD (k:Int).toNat _=fx[k]
    rw[List.getD_eq_getElem?_getD,Int.toNat_natCast,List.getElem?_eq_getElem hkl]
    rfl
   have hbx:=HBX.out fx[k] (List.getElem_mem hkl)
   have hst:j6 (fx.take (k+1)) row xs=(!(fx[k].f0==row)||(xs.getD fx[k].f1.toNat 0==fx[k].f2)):=by
    unfold j6
    rw[List.take_succ_eq_append_getElem hkl,List.all_append]
    have:=HH.out
    unfold j6 at this
    rw[this]
    simp
   have hall:j6 (fx.take (k+1)) row xs=false->j6 fx row xs=false:=λhf=>by
    unfold j6 at hf ⊢
    obtain⟨f,hm,hv⟩:=List.all_eq_false.1 hf
    exact List.all_eq_false.2 ⟨f,List.mem_of_mem_take hm,hv⟩
   rw[hrr] at h0 h1 h2
   obtain⟨f,hf⟩:∃f,fx[k]=f:=⟨_,rfl⟩
   rw[hf] at h0 h1 h2 hbx hst
   have HST:=aa.mk hst
   have IG:=aa.mk hall
   clear hst hall hrr hf
   obtain⟨f0,f1,f2⟩:=f
   simp only at h0 h1 h2 hbx
   have BF:=aa.mk (aV.new wr [.int .i64 f0,.int .i64 f1,.int .i64 f2] 158)
   have g0:=BF.out.cell 0
   have g1:=BF.out.cell 1
   have g2:=BF.out.cell 2
   simp only[dZ,dY] at g0 g1 g2
   have JG:=aa.mk (ae HB.out (.cells #[.int .i64 f0,.int .i64 f1,.int .i64 f2] 158))
   by_cases p0:f0=row
   .have Sy:(f0==row)=true:=beq_iff_eq.2 p0
    obtain⟨b1,b2⟩:=hbx p0
    obtain⟨ax,e,hx⟩:=Kd.gu (Kd.aC HX.out JG.out) f1 (by omega) (by omega)
    cases e
    have hrx:rd xs f1=xs.getD f1.toNat 0:=rfl
    rw[hrx] at hx
    obtain⟨y,hy⟩:∃y,xs.getD f1.toNat 0=y:=⟨_,rfl⟩
    have HY:=aa.mk hy
    rw[hy] at hx
    clear hrx hy p0 hbx
    by_cases p1:y=f2
    .have XV:(y !=f2)=false:=by simp[p1]
     have HE:=aa.mk (show j6 (fx.take (k+1)) row xs=true by rw[HST.out];show(_||(xs.getD f1.toNat 0==f2))=true;rw[HY.out];simp[p1])
     clear p1
     go_wp2_with fail
     go_region
     go_wp2_with fail
     exact⟨⟨k+1,by omega,rfl,by go_num,HE,⟨aN JG.out⟩⟩,by simp[intOf];omega⟩
    .have XV:(y !=f2)=true:=by simp[p1]
     have HE:=aa.mk (IG.out (show j6 (fx.take (k+1)) row xs=false by rw[HST.out];show(!(f0==row)||(xs.getD f1.toNat 0==f2))=false;rw[HY.out,Sy];simp[p1]))
     clear p1
     go_wp2_with fail
     go_region
     go_wp2_with fail
     rw[Exit.noGoto_ret]
     go_ret
     exact⟨by(rw[HE.out];rfl),aN JG.out⟩
   .have Sy:(f0==row)=false:=beq_eq_false_iff_ne.2 p0
    have HE:=aa.mk (show j6 (fx.take (k+1)) row xs=true by rw[HST.out];simp[p0])
    clear p0 hbx
    go_wp2_with fail
    go_region
    go_wp2_with fail
    exact⟨⟨k+1,by omega,rfl,by go_num,HE,⟨aN JG.out⟩⟩,by simp[intOf];omega⟩
  .obtain rfl:k=fx.length:=by omega
   have HE:=aa.mk (show j6 fx row xs=true by have:=HH.out;rwa [List.take_length] at this)
   go_wp2_with fail
   rw[Exit.noGoto_ret]
   go_ret
   exact⟨by(rw[HE.out];rfl),HB.out⟩
open Go.RowKit ah YtdekaocdmjndaaaGreatW.aj YtdekaocdmjndaaaGreatW.aH
theorem ed{n:Nat}{P:Program}{md:Region.Mode}{ops:Array Oper}{Q:Exit->Act->World->Prop}{S:World->Prop}{ds:List Nat}{fuel:Nat}{l:Array Bool}{a a':Act}{w:World}{oi:Oper}{v:Value}{T:Bool×List (List Nat×List Nat)}(i N:Nat)(l':Array Bool)
  (hT:aa (eB md ops=T)) (hi:ops[i]?=some oi:=by exact rfl) (hN:oi.dst=some N:=by exact rfl) (hc:RH T l.toList l'.toList i=true:=by kernel_rfl) (hQ:∀c a w,Q (.panic c) (a.put oi.dst v) w->Q (.panic c) a w:=by exact λ_ _ _ h=>h)
  (hw:Region.wanted oi (yielded ops a.tmps)=true:=by rfl) (hy:∀w,(execOp a.eval oi).run P w= .ok (.value v) w:=by(intro w';go_simp;with_reducible rfl))
  (ha:a.put (some N) v=a':=by(simp only[Act.put,sb0,sb1,bR,cB,dX];rfl))
  (h:gG n P md ops Q S ds fuel l' a' w):gG n P md ops Q S ds (fuel+1) l a w:=
 gV l' hi hN (dI hT.out hc) hQ (Or.inl ⟨hw,hy⟩) ha h
theorem mY{n:Nat}{P:Program}{md:Region.Mode}{ops:Array Oper}{Q:Exit->Act->World->Prop}{S:World->Prop}{ds:List Nat}{fuel:Nat}{l:Array Bool}{a a':Act}{w:World}{oi:Oper}{v:Value}{T:Bool×List (List Nat×List Nat)}{B:List Nat}(i N:Nat)(l':Array Bool)
  (hT:aa (eB md ops=T)) (hB:aa (bI T.2 B=true)) (hS:S w) (hi:ops[i]?=some oi:=by exact rfl) (hN:oi.dst=some N:=by exact rfl) (hc:IM T B ds l.toList l'.toList i=true:=by kernel_rfl) (hQ:∀c a w,Q (.panic c) (a.put oi.dst v) w->Q (.panic c) a w:=by exact λ_ _ _ h=>h)
  (hw:Region.wanted oi (yielded ops a.tmps)=true:=by rfl) (hy:∀w,S w->(execOp a.eval oi).run P w= .ok (.value v) w)
  (ha:a.put (some N) v=a':=by(simp only[Act.put,sb0,sb1,bR,cB,dX];rfl))
  (h:gG n P md ops Q S ds fuel l' a' w):gG n P md ops Q S ds (fuel+1) l a w:=
 Us l' hi hN (DV hT.out hB.out hc) hQ (Or.inl ⟨hw,hy⟩) hS ha h
end Go.Proofs.YtdekaocdmjndaaaGreat
