import Derived.Test.YtkjoilgpmngndaaGreatQ25
set_option linter.all false
namespace Go.Proofs.YtkjoilgpmngndaaGreat.Wk
open Go.RowKit au YtkjoilgpmngndaaGreatW.aj
theorem Bv(r:aV)(a b:Int):fq (rz r) a b=fq r a b:=by
 unfold fq rz
 rw[Bool.or_comm,Bool.and_comm (r.f0==b),Bool.and_comm (r.f1==b)]
structure lU(R R':List aV)(s t:Nat->Nat):Prop where
 ren:Ren R.length s t
 len:R'.length=R.length
 at_:∀i,i<R.length->R'.getD i z141=R.getD (s i) z141\/R'.getD i z141=rz (R.getD (s i) z141)
theorem Be{α:Type}(l:List α)(z:α):(List.range l.length).map (λi=>l.getD i z)=l:=by
 apply List.ext_getElem
 .simp
 .intro i h1 h2
  simp[h2]
theorem lU.same{R R':List aV}{s t:Nat->Nat}(h:lU R R' s t):fO R R':=by
 have e1:R'.map jP=(List.range R.length).map (λi=>jP (R.getD (s i) z141)):=by
  conv=>lhs;rw[<- Be R' z141]
  rw[List.map_map,h.len]
  refine List.map_congr_left λi hi=>?_
  show jP (R'.getD i z141)=_
  rcases h.at_ i (List.mem_range.1 hi) with e|e
  .rw[e]
  .rw[e,Ov]
 have e2:R.map jP=(List.range R.length).map (λi=>jP (R.getD i z141)):=by
  conv=>lhs;rw[<- Be R z141]
  rw[List.map_map]
  rfl
 show(R.map jP).Perm (R'.map jP)
 rw[e1,e2]
 have:=(h.ren.perm.map (λi=>jP (R.getD i z141))).symm
 rw[List.map_map] at this
 exact this
theorem Ps{R R':List aV}(h:fO R R')(a b:Int):R'.any (λr=>fq r a b)=R.any (λr=>fq r a b):=by
 have e:∀l:List aV,l.any (λr=>fq r a b)=(l.map jP).any (λr=>fq r a b):=by
  intro l
  rw[List.any_map]
  congr 1
  funext r
  show fq r a b=fq (jP r) a b
  rcases rV r with e|e
  .rw[e]
  .rw[e,Bv]
 rw[e R,e R']
 exact(List.Perm.any_eq h).symm
theorem Eb{R R':List aV}(h:fO R R')(a b:Int):decide (il R' a b<0)=decide (il R a b<0):=by
 have e:∀l:List aV,decide (il l a b<0)=!(l.any (λr=>fq r a b)):=by
  intro l
  rw[<- jY (λr=>fq r a b) l 0]
  show decide (il l a b<0)=!decide (0<=il l a b)
  by_cases h:il l a b<0
  .simp[h]
  .simp[h,Int.not_lt.1 h]
 rw[e,e,Ps h]
theorem fO.agE{R R':List aV}(h:fO R R')(l:List Int)(n:Nat):q9 R' l n=q9 R l n:=by
 unfold q9
 congr 1
 funext k
 rw[Eb h]
theorem fO.walk{R R':List aV}(h:fO R R')(l cs:List Int):eQ R' l cs=eQ R l cs:=by
 unfold eQ
 rw[h.agE]
theorem fO.mi{R R':List aV}(h:fO R R'):∀(p:List qI) (e:Int),mi R' p e=mi R p e
 |[],e=>rfl
 |x::p,e=>by
  unfold Go.Proofs.YtkjoilgpmngndaaGreat.Wk.mi
  rw[h.walk,fO.mi h p]
theorem fO.plan{R R':List aV}(h:fO R R')(p:List qI):lQ R' p=lQ R p:=by
 unfold lQ
 rw[h.mi]
theorem lU.road{R R':List aV}{s t:Nat->Nat}(h:lU R R' s t){W:List dP}(hc:bD W R=0){a b:Int}(hr:0<=il R a b):∃q:Nat,q<R.length/\il R' a b=(q:Int)/\il R a b=(s q:Int):=by
 obtain⟨k,hk,h1,h2⟩:=Aa (λr=>fq r a b) R 0 hr
 have hr':0<=il R' a b:=by
  have:=Eb h.same a b
  by_cases h0:il R' a b<0
  .rw[decide_eq_true h0] at this
   have:=of_decide_eq_true this.symm
   omega
  .omega
 obtain⟨q,hq,h3,h4⟩:=Aa (λr=>fq r a b) R' 0 hr'
 have hq':q<R.length:=by rw[<- h.len];exact hq
 refine⟨q,hq',by rw[show il R' a b=fi (λr=>fq r a b) R' 0 from rfl,h3];congr 1;omega,?_⟩
 have e4:fq (R.getD (s q) z141) a b=true:=by
  have e:R'[q]=R'.getD q z141:=by simp[hq]
  rw[e] at h4
  rcases h.at_ q hq' with e|e
  .rw[e] at h4;exact h4
  .rw[e,Bv] at h4;exact h4
 have hs:=h.ren.EL q hq'
 have e5:R.getD (s q) z141=R[s q]:=by simp[hs]
 rw[e5] at e4
 rw[show il R a b=fi (λr=>fq r a b) R 0 from rfl,h1]
 obtain⟨_,_,_,_,_,hrb⟩:=mD hc
 have hp:=((wh W R).1 hrb).2
 suffices k=s q by rw[this];congr 1;omega
 have hne:∀i j (hi:i<R.length) (hj:j<R.length),i<j->fq R[i] a b=true->fq R[j] a b=true->False:=by
  intro i j hi hj hij hi1 hj1
  have hnj:NJ R[i] R[j]:=List.pairwise_iff_getElem.1 hp i j hi hj hij
  unfold NJ at hnj
  have:fq R[i] R[j].f0 R[j].f1=true:=by
   unfold fq at hi1 hj1 ⊢
   simp only[Bool.or_eq_true,Bool.and_eq_true,beq_iff_eq] at hi1 hj1 ⊢
   omega
  rw[this] at hnj
  cases hnj
 rcases Nat.lt_trichotomy k (s q) with hl|hl|hl
 .exact(hne k (s q) hk hs hl h2 e4).elim
 .exact hl
 .exact(hne (s q) k hs hk hl e4 h2).elim
theorem lU.kY{R R':List aV}{s t:Nat->Nat}(h:lU R R' s t){W:List dP}(hc:bD W R=0){l cs:List Int}(hw:eQ R l cs=0)(tw:List Int){tr Qh:List Int}(ht:∀i:Nat,i<R.length->rd Qh (i:Int)=rd tr (s i:Int)):kY R' l cs tw Qh=kY R l cs tw tr:=by
 obtain⟨hl0,_,_,Re,_⟩:=wZ hw
 have:∀k,k+1<=l.length->wX R' l Qh k=wX R l tr k:=by
  intro k
  induction k with
  |zero=>intro _;rfl
  |succ k ih=>
   intro hk
   have hg:=List.all_eq_true.1 Re k (List.mem_range.2 (by omega))
   simp only[Bool.not_eq_true',decide_eq_false_iff_not] at hg
   obtain⟨q,hq,e1,e2⟩:=h.road hc (a:=rd l (k:Int)) (b:=rd l ((k+1:Nat):Int)) (by omega)
   unfold wX
   rw[ih (by omega),e1,e2,ht q hq]
 unfold Go.Proofs.YtkjoilgpmngndaaGreat.Wk.kY
 rw[this _ (by omega)]
theorem lU.mapped{R R':List aV}{s t:Nat->Nat}(h:lU R R' s t)(f:dP->Int)(i:Nat)(hi:i<R.length):rd (R'.map (λr=>f r.f2)) (i:Int)=rd (R.map (λr=>f r.f2)) (s i:Int):=by
 have hs:=h.ren.EL i hi
 have hi':i<R'.length:=by rw[h.len];exact hi
 rw[EO (λr:aV=>f r.f2) R' i hi',EO (λr:aV=>f r.f2) R (s i) hs]
 have e1:R'[i]=R'.getD i z141:=by simp[hi']
 have e2:R[s i]=R.getD (s i) z141:=by simp[hs]
 rw[e1,e2]
 rcases h.at_ i hi with e|e<;>rw[e]<;>rfl
theorem lU.bounds{R R':List aV}{s t:Nat->Nat}(h:lU R R' s t)(W:List dP)(l cs:List Int):gz W R' l cs=gz W R l cs:=by
 unfold gz
 rw[h.same.TA W,h.same.walk]
 by_cases hc:bD W R=0
 .rw[if_pos hc,if_pos hc]
  by_cases hw:eQ R l cs=0
  .rw[if_pos hw,if_pos hw,h.kY hc hw _ (h.mapped (λx=>x.f0)),h.kY hc hw _ (h.mapped (λx=>x.f1))]
  .rw[if_neg hw,if_neg hw]
 .rw[if_neg hc,if_neg hc]
theorem lU.late{R R':List aV}{s t:Nat->Nat}(h:lU R R' s t){W:List dP}(hc:bD W R=0){p:List qI}(hp:∀x ∈ p,eQ R x.f0 x.f1=0)(limit:Int):∀k,k<=p.length->jU W R' p limit k=jU W R p limit k
 |0,_=>rfl
 |k+1,hk=>by
  unfold jU
  rw[lU.late h hc hp limit k (by omega),h.kY hc (hp _ (yG (show k<p.length by omega))) _ (h.mapped (λx=>x.f1))]
theorem lU.faults{R R':List aV}{s t:Nat->Nat}(h:lU R R' s t)(W:List dP)(p:List qI)(limit:Int):dX W R' p limit=dX W R p limit:=by
 unfold dX
 rw[h.same.TA W,h.same.plan]
 by_cases hc:bD W R=0
 .by_cases hp:lQ R p=0
  .rw[if_pos hc,if_pos hc,if_pos hp,if_pos hp,h.late hc (Bh hp).2 limit _ (Nat.le_refl _)]
  .rw[if_pos hc,if_pos hc,if_neg hp,if_neg hp]
 .rw[if_neg hc,if_neg hc]
def mU(W:List dP)(R:List aV)(tw tr:List Int):Bool:=
 decide (tw.length=W.length)&&(decide (tr.length=R.length)&&((List.range W.length).all (λi=>aK (rd tw (i:Int)) (iA W (i:Int)).f0 (iA W (i:Int)).f1)&&(List.range R.length).all (λi=>aK (rd tr (i:Int)) (bZ R (i:Int)).f2.f0 (bZ R (i:Int)).f2.f1)))
theorem lU.truth{R R':List aV}{s t:Nat->Nat}(h:lU R R' s t)(W:List dP)(tw:List Int){tr Qh:List Int}(hl:Qh.length=tr.length)(ht:tr.length=R.length->∀i:Nat,i<R.length->rd Qh (i:Int)=rd tr (s i:Int)):mU W R' tw Qh=mU W R tw tr:=by
 unfold mU
 rw[hl,h.len]
 by_cases hr:tr.length=R.length
 .congr 2
  congr 1
  have e:∀i,i<R.length->(bZ R' (i:Int)).f2=(bZ R (s i:Int)).f2:=by
   intro i hi
   unfold bZ
   rw[Int.toNat_natCast,Int.toNat_natCast]
   rcases h.at_ i hi with e|e<;>rw[e]<;>rfl
  rw[Bool.eq_iff_iff,List.all_eq_true,List.all_eq_true]
  constructor
  .intro hA i hi
   have hi':=List.mem_range.1 hi
   have:=hA (t i) (List.mem_range.2 (h.ren.Jj i hi'))
   rw[ht hr _ (h.ren.Jj i hi'),e _ (h.ren.Jj i hi'),h.ren.st i hi'] at this
   exact this
  .intro hA i hi
   have hi':=List.mem_range.1 hi
   have:=hA (s i) (List.mem_range.2 (h.ren.EL i hi'))
   rw[ht hr i hi',e i hi']
   exact this
 .rw[decide_eq_false hr]
  simp
def pR(W:List dP)(R:List aV)(l cs tw tr:List Int):Int×Int:=
 if bD W R=0 then(if eQ R l cs=0 then(if mU W R tw tr=true then(kY R l cs tw tr,0) else(0,2)) else(0,eQ R l cs)) else(0,bD W R)
theorem lU.time{R R':List aV}{s t:Nat->Nat}(h:lU R R' s t)(W:List dP)(l cs tw:List Int){tr Qh:List Int}(hl:Qh.length=tr.length)(ht:tr.length=R.length->∀i:Nat,i<R.length->rd Qh (i:Int)=rd tr (s i:Int)):pR W R' l cs tw Qh=pR W R l cs tw tr:=by
 unfold pR
 rw[h.same.TA W,h.same.walk,h.truth W tw hl ht]
 by_cases hc:bD W R=0
 .by_cases hw:eQ R l cs=0
  .by_cases htr:mU W R tw tr=true
   .have hr:tr.length=R.length:=by
     unfold mU at htr
     simp only[Bool.and_eq_true,decide_eq_true_eq] at htr
     exact htr.2.1
    rw[if_pos hc,if_pos hc,if_pos hw,if_pos hw,if_pos htr,if_pos htr,h.kY hc hw tw (ht hr)]
   .rw[if_pos hc,if_pos hc,if_pos hw,if_pos hw,if_neg htr,if_neg htr]
  .rw[if_pos hc,if_pos hc,if_neg hw,if_neg hw]
 .rw[if_neg hc,if_neg hc]
end Go.Proofs.YtkjoilgpmngndaaGreat.Wk
