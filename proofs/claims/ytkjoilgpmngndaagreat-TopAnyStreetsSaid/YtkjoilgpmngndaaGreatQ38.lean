import Derived.Test.YtkjoilgpmngndaaGreatQ36
import Derived.Test.YtkjoilgpmngndaaGreatQ37
set_option linter.all false
namespace Go.Proofs.YtkjoilgpmngndaaGreat
open Go.RowKit Go.Shelf Go.Proofs.YtkjoilgpmngndaaGreat.av Go.Proofs.YtkjoilgpmngndaaGreatW.aA
def JV(n:Nat)(rj:List kW)(i:Nat):Prop:=∀j:Nat,i<=j->j<rj.length->(0<=(aZ rj (j:Int)).f0/\(aZ rj (j:Int)).f0<n)/\(0<=(aZ rj (j:Int)).f1/\(aZ rj (j:Int)).f1<n)
theorem yX(a b c:Int):aD.f a b c=some (decide (b<=a)&&decide (a<=c)):=by
 unfold aD.f
 by_cases h:b<=a
 .rw[if_pos h];simp[h]
 .rw[if_neg h];simp[h]
theorem Pf(n:Nat)(h:n<=1000):wrap64 ((n:Int)-1)=(n:Int)-1:=IntWalk.wrap64_in _ (by omega)
theorem si(n:Nat)(h:n<=1000):wrap64 ((n:Int)+1)=((n+1:Nat):Int):=by rw[IntWalk.wrap64_in _ (by omega)];omega
section
variable (old:List Int) (nw:Int) (rs:List ql) (rj:List kW)
theorem aaz(hs:rs.length<=1000)(hj:rj.length<=1000):∀(d i:Nat),rj.length=i+d->∃k r,ai.l3 k (i:Int) old nw rs rj=some r/\(r=0->JV rs.length rj i):=by
 intro d
 induction d with
 |zero=>
  intro i h
  refine⟨1,0,?_,fun _ j h1 h2=>by omega⟩
  simp only[ai.l3]
  rw[if_neg (by omega)]
 |succ d ih=>
  intro i h
  obtain⟨k,r,hk,hv⟩:=ih (i+1) (by omega)
  have e:∀k,ai.l3 (k+1) (i:Int) old nw rs rj=if(decide (0<=(aZ rj (i:Int)).f0)&&decide ((aZ rj (i:Int)).f0<=(rs.length:Int)-1))=true then(if(decide (0<=(aZ rj (i:Int)).f1)&&decide ((aZ rj (i:Int)).f1<=(rs.length:Int)-1))=true then(if(aZ rj (i:Int)).f0=(aZ rj (i:Int)).f1 then some 1 else ai.l3 k ((i+1:Nat):Int) old nw rs rj) else some 1) else some 1:=by
   intro k
   simp only[ai.l3]
   rw[if_pos (by omega),if_pos (by omega),Pf _ hs,si _ (by omega),yX,yX]
   simp only[Option.bind_some]
  by_cases h0:(decide (0<=(aZ rj (i:Int)).f0)&&decide ((aZ rj (i:Int)).f0<=(rs.length:Int)-1))=true
  .by_cases h1:(decide (0<=(aZ rj (i:Int)).f1)&&decide ((aZ rj (i:Int)).f1<=(rs.length:Int)-1))=true
   .by_cases h2:(aZ rj (i:Int)).f0=(aZ rj (i:Int)).f1
    .exact⟨1,1,by rw[e 0,if_pos h0,if_pos h1,if_pos h2],fun h=>absurd h (by omega)⟩
    .refine⟨k+1,r,by rw[e k,if_pos h0,if_pos h1,if_neg h2];exact hk,fun hr j hj1 hj2=>?_⟩
     by_cases hji:j=i
     .subst hji
      simp only[Bool.and_eq_true,decide_eq_true_eq] at h0 h1
      exact⟨⟨h0.1,by omega⟩,⟨h1.1,by omega⟩⟩
     .exact hv hr j (by omega) hj2
   .exact⟨1,1,by rw[e 0,if_pos h0,if_neg h1],fun h=>absurd h (by omega)⟩
  .exact⟨1,1,by rw[e 0,if_neg h0],fun h=>absurd h (by omega)⟩
theorem WO(ho:old.length<=1000)(hs:rs.length<=1000)(hj:rj.length<=1000):∀(D x5:Nat),old.length=x5+D->∃k r,ai.l1 k (x5:Int) old nw rs rj=some r/\(r=0->JV rs.length rj 0):=by
 intro D
 induction D with
 |zero=>
  intro x5 h
  obtain⟨k,r,hk,hv⟩:=aaz old nw rs rj hs hj rj.length 0 (by omega)
  refine⟨k+1,r,?_,hv⟩
  simp only[ai.l1]
  rw[if_neg (by omega)]
  exact hk
 |succ D ih=>
  intro x5 h
  obtain⟨k,r,hk,hv⟩:=ih (x5+1) (by omega)
  have key:∀(d x7:Nat) (x6:Int),rs.length=x7+d->∃k r,ai.l2 k (x5:Int) x6 (x7:Int) old nw rs rj=some r/\(r=0->JV rs.length rj 0):=by
   intro d
   induction d with
   |zero=>
    intro x7 x6 h7
    have e:∀k,ai.l2 (k+1) (x5:Int) x6 (x7:Int) old nw rs rj=if(decide (0<=rd old (x5:Int))&&decide (rd old (x5:Int)<=10000))=true then(if x6=0 then some 1 else ai.l1 k ((x5+1:Nat):Int) old nw rs rj) else some 1:=by
     intro k
     simp only[ai.l2]
     rw[if_neg (by omega),if_pos (by omega),if_pos (by omega),yX,si _ (by omega)]
     simp only[Option.bind_some]
    by_cases h0:(decide (0<=rd old (x5:Int))&&decide (rd old (x5:Int)<=10000))=true
    .by_cases h1:x6=0
     .exact⟨1,1,by rw[e 0,if_pos h0,if_pos h1],fun h=>absurd h (by omega)⟩
     .exact⟨k+1,r,by rw[e k,if_pos h0,if_neg h1];exact hk,hv⟩
    .exact⟨1,1,by rw[e 0,if_neg h0],fun h=>absurd h (by omega)⟩
   |succ d ih2=>
    intro x7 x6 h7
    have e:∀k,ai.l2 (k+1) (x5:Int) x6 (x7:Int) old nw rs rj=if(bf rs (x7:Int)).f0=(x5:Int) then ai.l2 k (x5:Int) (wrap64 (x6+(bf rs (x7:Int)).f2)) ((x7+1:Nat):Int) old nw rs rj else ai.l2 k (x5:Int) x6 ((x7+1:Nat):Int) old nw rs rj:=by
     intro k
     simp only[ai.l2]
     rw[if_pos (by omega),if_pos (by omega),si _ (by omega)]
    by_cases h0:(bf rs (x7:Int)).f0=(x5:Int)
    .obtain⟨k2,r2,hk2,hv2⟩:=ih2 (x7+1) (wrap64 (x6+(bf rs (x7:Int)).f2)) (by omega)
     exact⟨k2+1,r2,by rw[e k2,if_pos h0];exact hk2,hv2⟩
    .obtain⟨k2,r2,hk2,hv2⟩:=ih2 (x7+1) x6 (by omega)
     exact⟨k2+1,r2,by rw[e k2,if_neg h0];exact hk2,hv2⟩
  obtain⟨k2,r2,hk2,hv2⟩:=key rs.length 0 0 (by omega)
  refine⟨k2+1,r2,?_,hv2⟩
  simp only[ai.l1]
  rw[if_pos (by omega)]
  exact hk2
theorem aaA(ho:old.length<=1000)(hs:rs.length<=1000)(hj:rj.length<=1000):∀(d i:Nat),rs.length=i+d->∃k r,ai.l0 k (i:Int) old nw rs rj=some r/\(r=0->JV rs.length rj 0):=by
 intro d
 induction d with
 |zero=>
  intro i h
  obtain⟨k,r,hk,hv⟩:=WO old nw rs rj ho hs hj old.length 0 (by omega)
  refine⟨k+1,r,?_,hv⟩
  simp only[ai.l0]
  rw[if_neg (by omega)]
  exact hk
 |succ d ih=>
  intro i h
  obtain⟨k,r,hk,hv⟩:=ih (i+1) (by omega)
  obtain⟨b1,hb1⟩:∃b,(decide (0<=(bf rs (i:Int)).f0)&&decide ((bf rs (i:Int)).f0<=wrap64 ((old.length:Int)-1)))=b:=⟨_,rfl⟩
  obtain⟨b2,hb2⟩:∃b,(decide (0<=(bf rs (i:Int)).f1)&&decide ((bf rs (i:Int)).f1<=wrap64 (nw-1)))=b:=⟨_,rfl⟩
  obtain⟨b3,hb3⟩:∃b,(decide (0<=(bf rs (i:Int)).f2)&&decide ((bf rs (i:Int)).f2<=1000))=b:=⟨_,rfl⟩
  obtain⟨b4,hb4⟩:∃b,(decide (0<=(bf rs (i:Int)).f3.f0)&&decide ((bf rs (i:Int)).f3.f0<=(bf rs (i:Int)).f3.f1))=b:=⟨_,rfl⟩
  have e:∀k,ai.l0 (k+1) (i:Int) old nw rs rj=if b1=true then(if b2=true then(if b3=true then(if b4=true then(if(bf rs (i:Int)).f3.f1>10000 then some 1 else ai.l0 k ((i+1:Nat):Int) old nw rs rj) else some 1) else some 1) else some 1) else some 1:=by
   intro k
   simp only[ai.l0]
   rw[if_pos (by omega),if_pos (by omega),si _ (by omega),yX,yX,yX,yX,hb1,hb2,hb3,hb4]
   simp only[Option.bind_some]
  cases b1 with
  |false=>exact⟨1,1,by rw[e 0];rfl,fun h=>absurd h (by omega)⟩
  |true=>
   cases b2 with
   |false=>exact⟨1,1,by rw[e 0];rfl,fun h=>absurd h (by omega)⟩
   |true=>
    cases b3 with
    |false=>exact⟨1,1,by rw[e 0];rfl,fun h=>absurd h (by omega)⟩
    |true=>
     cases b4 with
     |false=>exact⟨1,1,by rw[e 0];rfl,fun h=>absurd h (by omega)⟩
     |true=>
      by_cases h5:(bf rs (i:Int)).f3.f1>10000
      .exact⟨1,1,by rw[e 0,if_pos rfl,if_pos rfl,if_pos rfl,if_pos rfl,if_pos h5],fun h=>absurd h (by omega)⟩
      .exact⟨k+1,r,by rw[e k,if_pos rfl,if_pos rfl,if_pos rfl,if_pos rfl,if_neg h5];exact hk,hv⟩
theorem M8(x:Bool)(ho:old.length<=1000)(hs:rs.length<=1000)(hj:rj.length<=1000):∃k r,ai.j1 k x old nw rs rj=some r/\(r=0->JV rs.length rj 0):=by
 cases x with
 |true=>exact⟨1,1,by simp only[ai.j1];rfl,fun h=>absurd h (by omega)⟩
 |false=>
  obtain⟨k,r,hk,hv⟩:=aaA old nw rs rj ho hs hj rs.length 0 (by omega)
  exact⟨k+1,r,by simp only[ai.j1];rw[if_neg (by simp)];exact hk,hv⟩
theorem aaB(x:Bool)(ho:old.length<=1000)(hs:rs.length<=1000)(hj:rj.length<=1000):∃k r,ai.j0 k x old nw rs rj=some r/\(r=0->JV rs.length rj 0):=by
 cases x with
 |true=>exact⟨1,3,by simp only[ai.j0];rfl,fun h=>absurd h (by omega)⟩
 |false=>
  by_cases h0:(old.length:Int)=0
  .obtain⟨k,r,hk,hv⟩:=M8 old nw rs rj true ho hs hj
   exact⟨k+1,r,by simp only[ai.j0];rw[if_neg (by simp),if_pos h0];exact hk,hv⟩
  .obtain⟨b,hb⟩:∃b,(decide (1<=nw)&&decide (nw<=4))=b:=⟨_,rfl⟩
   have e:∀k,ai.j0 (k+1) false old nw rs rj=if b=true then ai.j1 k ((rs.length:Int)==0) old nw rs rj else ai.j1 k true old nw rs rj:=by
    intro k
    simp only[ai.j0]
    rw[if_neg (by simp),if_neg h0,yX,hb]
    simp only[Option.bind_some]
   cases b with
   |true=>
    obtain⟨k,r,hk,hv⟩:=M8 old nw rs rj ((rs.length:Int)==0) ho hs hj
    exact⟨k+1,r,by rw[e k,if_pos rfl];exact hk,hv⟩
   |false=>
    obtain⟨k,r,hk,hv⟩:=M8 old nw rs rj true ho hs hj
    exact⟨k+1,r,by rw[e k,if_neg (by simp)];exact hk,hv⟩
theorem LM(ho:old.length<=1000)(hs:rs.length<=1000)(hj:rj.length<=1000):∃k r,ai.f k old nw rs rj=some r/\(r=0->JV rs.length rj 0):=by
 have key:∀x:Bool,(∀k,ai.f k old nw rs rj=ai.j0 k x old nw rs rj)->∃k r,ai.f k old nw rs rj=some r/\(r=0->JV rs.length rj 0):=by
  intro x hx
  obtain⟨k,r,hk,hv⟩:=aaB old nw rs rj x ho hs hj
  exact⟨k,r,by rw[hx k,hk],hv⟩
 by_cases h4:(old.length:Int)>4
 .exact key true (fun k=>by unfold ai.f;rw[if_pos h4])
 .by_cases h8:(rs.length:Int)>8
  .exact key true (fun k=>by unfold ai.f;rw[if_neg h4,if_pos h8])
  .exact key _ (fun k=>by unfold ai.f;rw[if_neg h4,if_neg h8])
end
theorem Y8(old:List Int)(nw:Int)(rs:List ql)(rj:List kW):iM.f old nw rs rj=some (decide (old.length<=7)&&(decide (rs.length<=11)&&decide (rj.length<=24))):=by
 unfold iM.f
 by_cases h:old.length<=7
 .rw[if_pos (by omega)]
  by_cases h2:rs.length<=11
  .rw[if_pos (by omega)];simp[h,h2];omega
  .rw[if_neg (by omega)];simp[h,h2]
 .rw[if_neg (by omega)];simp[h]
end Go.Proofs.YtkjoilgpmngndaaGreat
namespace Go.Proofs.YtkjoilgpmngndaaGreat
open Go.RowKit Go.Shelf Go.Proofs.YtkjoilgpmngndaaGreat.av Go.Proofs.YtkjoilgpmngndaaGreatW.aA
theorem OH(rs:List ql)(i:Nat)(h:i<rs.length):aG (rs.map IY) i=IY (rs.getD i z36):=by
 simp[aG,fI,List.getD,h]
theorem MP{n:Nat}{rj:List kW}(h:JV n rj 0)(q:Nat)(hq:q<rj.length):∃a b:Nat,a<n/\b<n/\aZ rj (q:Int)=⟨(a:Int),(b:Int)⟩:=by
 obtain⟨⟨h1,h2⟩,⟨h3,h4⟩⟩:=h q (Nat.zero_le _) hq
 generalize aZ rj (q:Int)=x at h1 h2 h3 h4
 obtain⟨a,b⟩:=x
 simp only at h1 h2 h3 h4
 exact⟨a.toNat,b.toNat,by omega,by omega,by rw[Int.toNat_of_nonneg h1,Int.toNat_of_nonneg h3]⟩
theorem rF(rj:List kW)(x:kW):x ∈ rj↔∃q:Nat,q<rj.length/\aZ rj (q:Int)=x:=by
 rw[List.mem_iff_getElem]
 constructor
 .rintro⟨q,hq,rfl⟩
  exact⟨q,hq,by simp[aZ,List.getD,hq]⟩
 .rintro⟨q,hq,rfl⟩
  exact⟨q,hq,by simp[aZ,List.getD,hq]⟩
structure IA(t σ:Nat->Nat)(rj xs:List kW):Prop where
 len:xs.length=rj.length
 lt:∀m,m<rj.length->σ m<rj.length
 onto:∀q,q<rj.length->∃m,m<rj.length/\σ m=q
 at_:∀m,m<rj.length->aZ xs (m:Int)=⟨(t (aZ rj (σ m:Int)).f0.toNat:Int),(t (aZ rj (σ m:Int)).f1.toNat:Int)⟩\/aZ xs (m:Int)=⟨(t (aZ rj (σ m:Int)).f1.toNat:Int),(t (aZ rj (σ m:Int)).f0.toNat:Int)⟩
theorem IA.iff{t σ:Nat->Nat}{rj xs:List kW}(h:IA t σ rj xs){n:Nat}(hv:JV n rj 0)(R:kW->Prop)(R':kW->Prop)(hR:∀a b:Nat,a<n->b<n->(R' ⟨(t a:Int),(t b:Int)⟩↔R ⟨(a:Int),(b:Int)⟩))(hs:∀a b:Int,R' ⟨a,b⟩↔R' ⟨b,a⟩):
  (∀m,m<rj.length->(R' (aZ xs (m:Int))↔R (aZ rj (σ m:Int)))):=by
 intro m hm
 obtain⟨a,b,ha,hb,e⟩:=MP hv (σ m) (h.lt m hm)
 rcases h.at_ m hm with h1|h1
 .rw[h1,e]
  simp only[Int.toNat_natCast]
  exact hR a b ha hb
 .rw[h1,e]
  simp only[Int.toNat_natCast]
  rw[hs]
  exact hR a b ha hb
theorem IA.ex{t σ:Nat->Nat}{rj xs:List kW}(h:IA t σ rj xs){R R':kW->Prop}(hi:∀m,m<rj.length->(R' (aZ xs (m:Int))↔R (aZ rj (σ m:Int)))):(∃x ∈ xs,R' x)↔∃x ∈ rj,R x:=by
 constructor
 .rintro⟨x,hx,hr⟩
  obtain⟨m,hm,rfl⟩:=(rF xs x).1 hx
  rw[h.len] at hm
  exact⟨_,(rF rj _).2 ⟨σ m,h.lt m hm,rfl⟩,(hi m hm).1 hr⟩
 .rintro⟨x,hx,hr⟩
  obtain⟨q,hq,rfl⟩:=(rF rj x).1 hx
  obtain⟨m,hm,rfl⟩:=h.onto q hq
  exact⟨_,(rF xs _).2 ⟨m,by rw[h.len];exact hm,rfl⟩,(hi m hm).2 hr⟩
theorem IA.all{t σ:Nat->Nat}{rj xs:List kW}(h:IA t σ rj xs){R R':kW->Prop}(hi:∀m,m<rj.length->(R' (aZ xs (m:Int))↔R (aZ rj (σ m:Int)))):(∀x ∈ xs,R' x)↔∀x ∈ rj,R x:=by
 constructor
 .intro ha x hx
  obtain⟨q,hq,rfl⟩:=(rF rj x).1 hx
  obtain⟨m,hm,rfl⟩:=h.onto q hq
  exact(hi m hm).1 (ha _ ((rF xs _).2 ⟨m,by rw[h.len];exact hm,rfl⟩))
 .intro ha x hx
  obtain⟨m,hm,rfl⟩:=(rF xs x).1 hx
  rw[h.len] at hm
  exact(hi m hm).2 (ha _ ((rF rj _).2 ⟨σ m,h.lt m hm,rfl⟩))
theorem Sa(js:List bS)(a b:Nat):jn js a b=true↔∃j ∈ js,(j.f0=(a:Int)/\j.f1=(b:Int))\/(j.f0=(b:Int)/\j.f1=(a:Int)):=by
 unfold jn
 rw[List.any_eq_true]
 simp only[Bool.or_eq_true,Bool.and_eq_true,beq_iff_eq]
theorem Sy(rj:List kW)(R:bS->Prop):(∃j ∈ rj.map uO,R j)↔∃x ∈ rj,R (uO x):=by
 constructor
 .rintro⟨j,hj,h⟩
  obtain⟨x,hx,rfl⟩:=List.mem_map.1 hj
  exact⟨x,hx,h⟩
 .rintro⟨x,hx,h⟩
  exact⟨_,List.mem_map_of_mem hx,h⟩
theorem Rq{rs rs':List ql}{rj xs:List kW}{s t σ:Nat->Nat}(hr:Ren rs.length s t)(hl:rs'.length=rs.length)(hg:∀i,i<rs.length->rs'.getD i z36=rs.getD (s i) z36)(hv:JV rs.length rj 0)(hj:IA t σ rj xs):fU (rs.map IY) (rs'.map IY) (rj.map uO) (xs.map uO) s t:=by
 have hinj:∀{a b:Nat},a<rs.length->b<rs.length->(t a=b↔a=s b):=by
  intro a b ha hb
  constructor
  .rintro rfl;rw[hr.st a ha]
  .rintro rfl;rw[hr.ts b hb]
 refine⟨by rw[List.length_map];exact hr,by rw[List.length_map,List.length_map,hl],by rw[List.length_map,List.length_map,hj.len],fun i hi=>?_,fun i k hi hk=>?_,?_⟩
 .rw[List.length_map] at hi
  rw[OH _ _ (by rw[hl];exact hi),OH _ _ (hr.um i hi),hg i hi]
 .rw[List.length_map] at hi hk
  rw[Bool.eq_iff_iff,Sa,Sa,Sy,Sy]
  refine hj.ex (hj.iff hv (fun x=>((uO x).f0=(s i:Int)/\(uO x).f1=(s k:Int))\/((uO x).f0=(s k:Int)/\(uO x).f1=(s i:Int))) (fun x=>((uO x).f0=(i:Int)/\(uO x).f1=(k:Int))\/((uO x).f0=(k:Int)/\(uO x).f1=(i:Int))) (fun a b ha hb=>?_) (fun a b=>?_))
  .simp only[uO,Int.ofNat_inj]
   rw[hinj ha hi,hinj hb hk,hinj ha hk,hinj hb hi]
  .simp only[uO]
   constructor
   .rintro(⟨h1,h2⟩|⟨h1,h2⟩)
    .exact .inr ⟨h2,h1⟩
    .exact .inl ⟨h2,h1⟩
   .rintro(⟨h1,h2⟩|⟨h1,h2⟩)
    .exact .inr ⟨h2,h1⟩
    .exact .inl ⟨h2,h1⟩
 .rw[List.length_map,Bool.eq_iff_iff,List.all_eq_true,List.all_eq_true,List.forall_mem_map,List.forall_mem_map]
  refine hj.all (hj.iff hv (fun x=>ni rs.length (uO x)=true) (fun x=>ni rs.length (uO x)=true) (fun a b ha hb=>?_) (fun a b=>?_))
  .have h1:=hr.vD a ha
   have h2:=hr.vD b hb
   have h3:t a=t b↔a=b:=⟨fun e=>hr.symm.inj ha hb e,fun e=>by rw[e]⟩
   simp only[ni,aY,uO,Bool.and_eq_true,decide_eq_true_eq,bne_iff_ne,ne_eq,Int.ofNat_inj]
   rw[h3]
   constructor
   .rintro⟨_,_,h⟩;exact⟨⟨decide_eq_true (by omega),decide_eq_true (by omega)⟩,⟨decide_eq_true (by omega),decide_eq_true (by omega)⟩,h⟩
   .rintro⟨_,_,h⟩;exact⟨⟨decide_eq_true (by omega),decide_eq_true (by omega)⟩,⟨decide_eq_true (by omega),decide_eq_true (by omega)⟩,h⟩
  .simp only[ni,aY,uO,Bool.and_eq_true,decide_eq_true_eq,bne_iff_ne,ne_eq]
   constructor
   .rintro⟨h1,h2,h3⟩;exact⟨h2,h1,fun e=>h3 e.symm⟩
   .rintro⟨h1,h2,h3⟩;exact⟨h2,h1,fun e=>h3 e.symm⟩
theorem Oh{i k n:Nat}(hi:i<n)(hk:k<n):(i+k)%n=if i+k<n then i+k else i+k-n:=by
 by_cases h:i+k<n
 .rw[if_pos h,Nat.mod_eq_of_lt h]
 .rw[if_neg h,Nat.mod_eq_sub_mod (by omega),Nat.mod_eq_of_lt (by omega)]
theorem CV{i k n:Nat}(hi:i<n)(hk:k<n):(i+n-k)%n=if i<k then i+n-k else i-k:=by
 by_cases h:i<k
 .rw[if_pos h,Nat.mod_eq_of_lt (by omega)]
 .rw[if_neg h,Nat.mod_eq_sub_mod (by omega),Nat.mod_eq_of_lt (by omega)]
  omega
theorem U0{n k:Nat}(hk:k<n):Ren n (fun i=>(i+k)%n) (fun j=>(j+n-k)%n):=by
 refine⟨fun i hi=>Nat.mod_lt _ (by omega),fun i hi=>Nat.mod_lt _ (by omega),fun i hi=>?_,fun i hi=>?_⟩
 .show((i+k)%n+n-k)%n=i
  have h0:(i+k)%n<n:=Nat.mod_lt _ (by omega)
  rw[CV h0 hk,Oh hi hk]
  by_cases h:i+k<n
  .rw[if_pos h,if_neg (by omega)];omega
  .rw[if_neg h,if_pos (by omega)];omega
 .show((i+n-k)%n+k)%n=i
  have h0:(i+n-k)%n<n:=Nat.mod_lt _ (by omega)
  rw[Oh h0 hk,CV hi hk]
  by_cases h:i<k
  .rw[if_pos h,if_neg (by omega)];omega
  .rw[if_neg h,if_pos (by omega)];omega
theorem Rs(nj bn:Nat)(q:Nat)(hq:q<nj):∃m,m<nj/\(m+bn)%nj=q:=by
 have hb:bn%nj<nj:=Nat.mod_lt _ (by omega)
 have hr:=U0 hb
 refine⟨(q+nj-bn%nj)%nj,Nat.mod_lt _ (by omega),?_⟩
 have h:((q+nj-bn%nj)%nj+bn%nj)%nj=q:=hr.st q hq
 rw[<- Nat.add_mod_mod ((q+nj-bn%nj)%nj) bn nj]
 exact h
def NI(n k bn:Nat)(rj xs:List kW):Prop:=∀m,m<xs.length->aZ xs (m:Int)=⟨((aZ rj (((m+bn)%rj.length:Nat):Int)).f0+n-k)%n,((aZ rj (((m+bn)%rj.length:Nat):Int)).f1+n-k)%n⟩\/aZ xs (m:Int)=⟨((aZ rj (((m+bn)%rj.length:Nat):Int)).f1+n-k)%n,((aZ rj (((m+bn)%rj.length:Nat):Int)).f0+n-k)%n⟩
theorem NI.nil(n k bn:Nat)(rj:List kW):NI n k bn rj []:=fun m hm=>absurd hm (by simp)
theorem NI.snoc{n k bn:Nat}{rj xs:List kW}(h:NI n k bn rj xs){y:kW}(hy:y=⟨((aZ rj (((xs.length+bn)%rj.length:Nat):Int)).f0+n-k)%n,((aZ rj (((xs.length+bn)%rj.length:Nat):Int)).f1+n-k)%n⟩\/y=⟨((aZ rj (((xs.length+bn)%rj.length:Nat):Int)).f1+n-k)%n,((aZ rj (((xs.length+bn)%rj.length:Nat):Int)).f0+n-k)%n⟩):NI n k bn rj (xs++[y]):=by
 intro m hm
 rw[List.length_append,List.length_singleton] at hm
 by_cases e:m=xs.length
 .subst e
  have h1:aZ (xs++[y]) (xs.length:Int)=y:=by simp[aZ,List.getD]
  rw[h1]
  exact hy
 .have h1:aZ (xs++[y]) (m:Int)=aZ xs (m:Int):=by
   simp only[aZ,Int.toNat_natCast,List.getD_eq_getElem?_getD]
   rw[List.getElem?_append_left (by omega)]
  rw[h1]
  exact h m (by omega)
theorem NI.rel{n k bn:Nat}{rj xs:List kW}(h:NI n k bn rj xs)(hl:xs.length=rj.length)(hv:JV n rj 0)(hk:k<n):IA (fun j=>(j+n-k)%n) (fun m=>(m+bn)%rj.length) rj xs:=by
 refine⟨hl,fun m hm=>Nat.mod_lt _ (by omega),fun q hq=>Rs rj.length bn q hq,fun m hm=>?_⟩
 have hm':=h m (by omega)
 obtain⟨a,b,ha,hb,e⟩:=MP hv ((m+bn)%rj.length) (Nat.mod_lt _ (by omega))
 rw[e] at hm' ⊢
 simp only[Int.toNat_natCast] at hm' ⊢
 have key:∀c:Nat,c<n->((c:Int)+n-k)%n=(((c+n-k)%n:Nat):Int):=by
  intro c hc
  rw[Int.natCast_emod]
  congr 1
  omega
 rw[key a ha,key b hb] at hm'
 exact hm'
end Go.Proofs.YtkjoilgpmngndaaGreat
namespace Go.Proofs.YtkjoilgpmngndaaGreat
open Go.RowKit Go.Shelf Go.Proofs.YtkjoilgpmngndaaGreat.av Go.Proofs.YtkjoilgpmngndaaGreatW.aA Go.Proofs.YtkjoilgpmngndaaGreatW.aJ Go.Proofs.YtkjoilgpmngndaaGreatW.dn
def lg.T39:Bool×List (List Nat×List Nat):=(true,[([],[]),([],[]),([0,1],[0,1]),([],[]),([],[]),([3,4,2],[3,4]),([2,5],[2,5]),([6,5],[6]),([7,7],[7]),([7,8],[7,8]),([9,8,0,1,2,3,4,5,6,7,8,9],[9])])
def lg.B39:List Nat:=[0,0,3,0,0,31,63,127,255,511,1023]
theorem lg.acs:eu .any (opsOf Tryz.f3 39)=lg.T39:=by kernel_rfl
theorem lg.aaY:bO lg.T39.2 lg.B39=true:=by kernel_rfl
def xS:Nat->Code->Code
 |0,c=>c
 |n+1,.seq _ b=>xS n b
 |_,c=>c
def leftOf:Code->Code
 | .seq a _=>a
 |c=>c
def XT:Code->Bool
 | .seq _ _=>true
 |_=>false
theorem yG:∀(n:Nat) (c:Code),XT (xS n c)=true->xS n c= .seq (leftOf (xS n c)) (xS (n+1) c)
 |0,c,h=>by cases c<;>first|rfl|cases h
 |n+1,c,h=>by
  cases c with
  |seq x y=>exact yG n y h
  |_=>cases h
noncomputable def jI(n:Nat):Code:=xS n ((Tryz.f3.body).getD .skip)
def CE(p2 p3 p4 p5 p9 p10 p11 p12 p14 p18 U3 p38:Value)(u:Nat->Value):Array Value:=#[u 0,u 1,p2,p3,p4,p5,u 6,u 7,u 8,p9,p10,p11,p12,u 13,p14,u 15,u 16,u 17,p18,U3,u 20,u 21,u 22,u 23,u 24,u 25,u 26,u 27,u 28,u 29,u 30,u 31,u 32,u 33,u 34,u 35,u 36,u 37,p38,u 39,u 40,u 41,u 42,u 43,u 44,u 45,u 46,u 47,u 48,u 49,u 50,u 51,u 52,u 53,u 54,u 55,u 56,u 57,u 58,u 59,u 60,u 61,u 62,u 63,u 64,u 65,u 66,u 67,u 68,u 69,u 70,u 71,u 72,u 73,u 74,u 75,u 76,u 77,u 78,u 79,u 80,u 81,u 82,u 83,u 84,u 85,u 86,u 87,u 88,u 89,u 90,u 91,u 92,u 93,u 94,u 95,u 96,u 97,u 98,u 99,u 100,u 101,u 102,u 103,u 104,u 105,u 106,u 107,u 108,u 109,u 110,u 111,u 112,u 113,u 114,u 115,u 116,u 117,u 118,u 119,u 120,u 121,u 122,u 123,u 124,u 125,u 126,u 127,u 128,u 129,u 130,u 131,u 132,u 133,u 134,u 135,u 136,u 137,u 138,u 139,u 140,u 141,u 142,u 143,u 144,u 145,u 146,u 147,u 148,u 149,u 150,u 151,u 152,u 153,u 154,u 155,u 156,u 157,u 158,u 159,u 160,u 161,u 162,u 163,u 164,u 165,u 166,u 167,u 168,u 169,u 170,u 171,u 172,u 173,u 174,u 175,u 176,u 177,u 178,u 179,u 180,u 181,u 182,u 183,u 184,u 185,u 186,u 187,u 188,u 189,u 190,u 191,u 192,u 193,u 194,u 195,u 196,u 197,u 198,u 199,u 200,u 201,u 202,u 203,u 204,u 205,u 206,u 207,u 208,u 209,u 210,u 211,u 212,u 213,u 214,u 215,u 216,u 217,u 218,u 219,u 220,u 221,u 222,u 223,u 224,u 225,u 226,u 227,u 228,u 229,u 230,u 231,u 232,u 233,u 234,u 235,u 236,u 237,u 238,u 239,u 240,u 241,u 242,u 243,u 244,u 245,u 246,u 247,u 248,u 249,u 250,u 251,u 252,u 253,u 254,u 255,u 256,u 257,u 258,u 259,u 260]
def mZ(w0:World):Exit->Act->World->Prop:=bodyPost Tryz.prog Tryz.f3 (fun e w'=>e= .returned (.bool true)/\Below w0.heap.size w0 w')
theorem dZ(n:Nat){Q:Exit->Act->World->Prop}{a:Act}{w:World}(h:XT (jI n)=true)(hh:∀K:Act->World->Prop,(∀a' w',Code.wp Tryz.prog (jI (n+1)) Q a' w'->K a' w')->Code.wp Tryz.prog (leftOf (jI n)) (Exit.then K Q) a w):Code.wp Tryz.prog (jI n) Q a w:=by
 have e:jI n= .seq (leftOf (jI n)) (jI (n+1)):=yG n _ h
 rw[e]
 exact wp_seq_k hh
structure LQ(w0 w:World)(old:List Int)(nw lo hi:Int)(ss jF:List bH)(js jG:List bS)(ps fr:List Int)(b18 b19:Nat)(Y0 Y2 Y3 Z0 Z2 Z3 Ap Af:Option Addr)(y0 y2 y3 z0 z2 z3 cp cf:Nat):Prop where
 below:Below w0.heap.size w0 w
 b5:aR w (w0.heap.size+1) [.int .i64 lo,.int .i64 hi] 28
 b18:aR w b18 [.slice Y0 old.length y0,.int .i64 nw,.slice Y2 ss.length y2,.slice Y3 js.length y3] 43
 b19:aR w b19 [.slice Z0 old.length z0,.int .i64 nw,.slice Z2 jF.length z2,.slice Z3 jG.length z3] 43
 i18:uX w Y0 y0 old Y2 y2 ss Y3 y3 js
 i19:uX w Z0 z0 old Z2 z2 jF Z3 z3 jG
 kp:Kd.C (Kd.int .i64) w Ap ps.length ps
 kf:Kd.C (Kd.int .i64) w Af fr.length fr
theorem LQ.later{w0 w:World}{old:List Int}{nw lo hi:Int}{ss jF:List bH}{js jG:List bS}{ps fr:List Int}{b18 b19:Nat}{Y0 Y2 Y3 Z0 Z2 Z3 Ap Af:Option Addr}{y0 y2 y3 z0 z2 z3 cp cf:Nat}{w':World}(h:LQ w0 w old nw lo hi ss jF js jG ps fr b18 b19 Y0 Y2 Y3 Z0 Z2 Z3 Ap Af y0 y2 y3 z0 z2 z3 cp cf)(hb:Below w.heap.size w w'):LQ w0 w' old nw lo hi ss jF js jG ps fr b18 b19 Y0 Y2 Y3 Z0 Z2 Z3 Ap Af y0 y2 y3 z0 z2 z3 cp cf:=
 ⟨h.below.trans (hb.mono h.below.size),h.b5.below hb,h.b18.below hb,h.b19.below hb,h.i18.below hb,h.i19.below hb,Kd.aK h.kp hb,Kd.aK h.kf hb⟩
set_option maxRecDepth 100000 in
set_option maxHeartbeats 40000000 in
theorem acK{w0 w:World}{old:List Int}{nw lo hi:Int}{ss jF:List bH}{js jG:List bS}{ps fr:List Int}{b18 b19:Nat}{Y0 Y2 Y3 Z0 Z2 Z3 Ap Af:Option Addr}{y0 y2 y3 z0 z2 z3 cp cf:Nat}{Am:Option Addr}{cm:Nat}{ms:List Int}(a:Act)(ha:a={tmps:=CE (.slice Ap ps.length cp) (a.tmps.getD 3 undef) (a.tmps.getD 4 undef) (.pointer (some ⟨w0.heap.size+1,0,none⟩)) (.int .i64 (fr.length:Int)) (.slice Af fr.length cf) (a.tmps.getD 11 undef) (a.tmps.getD 12 undef) (a.tmps.getD 14 undef) (.pointer (some ⟨b18,0,none⟩)) (.pointer (some ⟨b19,0,none⟩)) (.slice Am ms.length cm) (fun i=>a.tmps.getD i undef),defers:=[]})(L:LQ w0 w old nw lo hi ss jF js jG ps fr b18 b19 Y0 Y2 Y3 Z0 Z2 Z3 Ap Af y0 y2 y3 z0 z2 z3 cp cf)(km:Kd.C (Kd.int .i64) w Am ms.length ms)(hbp:ps.length<=281474976710656)(X5:ms.length<=281474976710656)(ht:kK old nw jF jG ms=kK old nw ss js ps):Code.wp Tryz.prog (jI 22) (mZ w0) a w:=by
 obtain⟨b,jR⟩:∃b,kK old nw ss js ps=b:=⟨_,rfl⟩
 have HT1:=aa.mk jR
 have HT2:=aa.mk (ht.trans jR)
 have HL:=aa.mk L
 have KM:=aa.mk km
 clear ht jR L km
 obtain⟨u,hu⟩:∃u:Nat->Value,a={tmps:=CE (.slice Ap ps.length cp) (u 3) (u 4) (.pointer (some ⟨w0.heap.size+1,0,none⟩)) (.int .i64 (fr.length:Int)) (.slice Af fr.length cf) (u 11) (u 12) (u 14) (.pointer (some ⟨b18,0,none⟩)) (.pointer (some ⟨b19,0,none⟩)) (.slice Am ms.length cm) u,defers:=[]}:=⟨fun i=>a.tmps.getD i undef,ha⟩
 clear ha
 subst hu
 unfold CE
 refine dZ 22 (by kernel_rfl) (fun K hK=>?_)
 unfold jI
 conv=>arg 2;whnf
 unfold mZ
 refine gz (n:=11) (S:=fun w'=>w'.cell? ⟨b18,0,none⟩=some (.slice Y0 old.length y0)/\w'.cell? ⟨b18,1,none⟩=some (.int .i64 nw)/\w'.cell? ⟨b18,2,none⟩=some (.slice Y2 ss.length y2)/\w'.cell? ⟨b18,3,none⟩=some (.slice Y3 js.length y3)/\w'.cell? ⟨b19,0,none⟩=some (.slice Z0 old.length z0)/\w'.cell? ⟨b19,1,none⟩=some (.int .i64 nw)/\w'.cell? ⟨b19,2,none⟩=some (.slice Z2 jF.length z2)/\w'.cell? ⟨b19,3,none⟩=some (.slice Z3 jG.length z3)) (ds:=[5,8]) #[O,O,O,O,O,O,O,O,O,O,O] (by kernel_rfl) rfl rfl ⟨(by simpa using (HL.out).b18.cell 0),(by simpa using (HL.out).b18.cell 1),(by simpa using (HL.out).b18.cell 2),(by simpa using (HL.out).b18.cell 3),(by simpa using (HL.out).b19.cell 0),(by simpa using (HL.out).b19.cell 1),(by simpa using (HL.out).b19.cell 2),(by simpa using (HL.out).b19.cell 3)⟩ (fun hHeld=>?_);refine bK lg.acs lg.aaY (fun aC bW=>?_)
 have Ld:=aa.mk (HL.out.later (bG (Below.refl _ _)))
 have KMd:=aa.mk (Kd.aK KM.out (bG (Below.refl _ _)))
 clear HL KM
 generalize w.drew=wd at Ld KMd hHeld ⊢
 refine eP 0 251 #[I,O,O,O,O,O,O,O,O,O,O] aC bW hHeld (hy:=by(rintro w' ⟨s0,s1,s2,s3,s4,s5,s6,s7⟩;go_simp;with_reducible rfl)) (h:=?_)
 refine bI 1 252 #[I,I,O,O,O,O,O,O,O,O,O] aC (h:=?_)
 refine eP 3 254 #[I,I,O,I,O,O,O,O,O,O,O] aC bW hHeld (hy:=by(rintro w' ⟨s0,s1,s2,s3,s4,s5,s6,s7⟩;go_simp;with_reducible rfl)) (h:=?_)
 refine bI 4 255 #[I,I,O,I,I,O,O,O,O,O,O] aC (h:=?_)
 refine iC (i:=2) (N:=some 253) #[I,I,I,I,I,O,O,O,O,O,O] rfl rfl (aN aC.out (by kernel_rfl)) (by decide) (fun K hK=>?_)
 refine fD Tryz.func18 (by kernel_rfl) rfl #[.agg #[.slice Y0 old.length y0,.int .i64 nw,.slice Y2 ss.length y2,.slice Y3 js.length y3],.slice Ap ps.length cp] (by rfl) rfl rfl (by(try simp only[List.map_toArray,List.map_cons,List.map_nil]);rfl) ?_
 refine(qi Ld.out.i18 Ld.out.kp hbp).mono ?_
 rintro e_ w_ ⟨rfl,hbx⟩
 rw[HT1.out]
 refine⟨_,rfl,hK.out _ _ ⟨(by simpa using (Ld.out.later hbx).b18.cell 0),(by simpa using (Ld.out.later hbx).b18.cell 1),(by simpa using (Ld.out.later hbx).b18.cell 2),(by simpa using (Ld.out.later hbx).b18.cell 3),(by simpa using (Ld.out.later hbx).b19.cell 0),(by simpa using (Ld.out.later hbx).b19.cell 1),(by simpa using (Ld.out.later hbx).b19.cell 2),(by simpa using (Ld.out.later hbx).b19.cell 3)⟩ (fun hHeld=>?_)⟩
 have Le:=aa.mk (Ld.out.later hbx)
 have KMe:=aa.mk (Kd.aK KMd.out hbx)
 clear hK K hbx Ld
 refine bF (by simp only[Act.put,List.setIfInBounds_toArray,List.set_cons_zero,List.set_cons_succ];rfl) ?_
 refine dW (i:=5) (N:=some 256) #[I,I,I,I,I,I,O,O,O,O,O] rfl rfl (aN aC.out (by kernel_rfl)) (by decide) (fun K hK=>?_)
 refine fD Tryz.func18 (by kernel_rfl) rfl #[.agg #[.slice Z0 old.length z0,.int .i64 nw,.slice Z2 jF.length z2,.slice Z3 jG.length z3],.slice Am ms.length cm] (by rfl) rfl rfl (by(try simp only[List.map_toArray,List.map_cons,List.map_nil]);rfl) ?_
 refine(qi Le.out.i19 KMe.out X5).mono ?_
 rintro e_ w_ ⟨rfl,hbx⟩
 rw[HT2.out]
 refine⟨_,rfl,hK.out _ _ ?_⟩
 have Lf:=aa.mk (Le.out.later hbx)
 clear hK K hbx Le
 refine bF (by simp only[Act.put,List.setIfInBounds_toArray,List.set_cons_zero,List.set_cons_succ];rfl) ?_
 refine bI 6 257 #[I,I,I,I,I,I,I,O,O,O,O] aC (h:=?_)
 refine bI 7 258 #[I,I,I,I,I,I,I,I,O,O,O] aC (h:=?_)
 refine dW (i:=8) (N:=some 259) #[I,I,I,I,I,I,I,I,I,O,O] rfl rfl (aN aC.out (by kernel_rfl)) (by decide) (fun K hK=>?_)
 refine fD Tryz.func7 (by kernel_rfl) rfl #[] (by rfl) rfl rfl (by simp) ?_
 refine(jT _).mono ?_
 rintro e_ w_ ⟨rfl,hbx⟩
 refine⟨_,rfl,hK.out _ _ ?_⟩
 have L7:=aa.mk (Lf.out.later hbx)
 clear hK K hbx Lf
 refine bF (by simp only[Act.put,List.setIfInBounds_toArray,List.set_cons_zero,List.set_cons_succ];rfl) ?_
 refine bI 9 260 #[I,I,I,I,I,I,I,I,I,I,O] aC (h:=?_)
 refine bI 10 8 #[I,I,I,I,I,I,I,I,I,I,I] aC (h:=?_)
 refine fF (bQ aC.out (by kernel_rfl)) ?_
 refine hK _ _ ?_
 unfold jI mZ
 conv=>arg 2;whnf
 go_wp2_with fail
 go_ret
 exact⟨rfl,L7.out.below⟩
end Go.Proofs.YtkjoilgpmngndaaGreat
namespace Go.Proofs.YtkjoilgpmngndaaGreat
open Go.RowKit Go.Shelf Go.Proofs.YtkjoilgpmngndaaGreat.av Go.Proofs.YtkjoilgpmngndaaGreatW.aA Go.Proofs.YtkjoilgpmngndaaGreatW.aJ Go.Proofs.YtkjoilgpmngndaaGreatW.dn
theorem MH{ps ms:List Int}{s:Nat->Nat}{i:Nat}(hl:ms.length=i)(h:∀j:Nat,j<i->rd ms (j:Int)=rd ps (s j:Int)):∀j:Nat,j<i+1->rd (ms++[rd ps (s i:Int)]) (j:Int)=rd ps (s j:Int):=by
 intro j hj
 unfold rd at h ⊢
 simp only[Int.toNat_natCast,List.getD] at h ⊢
 by_cases e:j<i
 .rw[List.getElem?_append_left (by omega)]
  exact h j e
 .obtain rfl:j=i:=by omega
  rw[List.getElem?_append_right (by omega),hl]
  simp
theorem PV{α:Type}{xs:List α}{k:Nat}{r:α}(h:xs.length=k):(xs++[r]).length=k+1:=by simp[h]
def NA(old:List Int)(nw:Int)(ss jF:List bH)(js jG:List bS)(ps:List Int)(n:Nat)(s:Nat->Nat):Prop:=
 ps.length=n->∀ms:List Int,ms.length=n->(∀j:Nat,j<n->rd ms (j:Int)=rd ps (s j:Int))->kK old nw jF jG ms=kK old nw ss js ps
set_option maxRecDepth 100000 in
set_option maxHeartbeats 40000000 in
theorem acL{w0 w:World}{old:List Int}{nw lo hi:Int}{ss jF:List bH}{js jG:List bS}{ps fr:List Int}{b18 b19:Nat}{Y0 Y2 Y3 Z0 Z2 Z3 Ap Af:Option Addr}{y0 y2 y3 z0 z2 z3 cp cf:Nat}{s:Nat->Nat}(a:Act)(ha:a={tmps:=CE (.slice Ap ps.length cp) (a.tmps.getD 3 undef) (a.tmps.getD 4 undef) (.pointer (some ⟨w0.heap.size+1,0,none⟩)) (.int .i64 (fr.length:Int)) (.slice Af fr.length cf) (a.tmps.getD 11 undef) (a.tmps.getD 12 undef) (a.tmps.getD 14 undef) (.pointer (some ⟨b18,0,none⟩)) (.pointer (some ⟨b19,0,none⟩)) (a.tmps.getD 38 undef) (fun i=>a.tmps.getD i undef),defers:=[]})(L:LQ w0 w old nw lo hi ss jF js jG ps fr b18 b19 Y0 Y2 Y3 Z0 Z2 Z3 Ap Af y0 y2 y3 z0 z2 z3 cp cf)(hf:ky fr.length s fr)(hs:∀i,i<fr.length->s i<fr.length)(hn:fr.length<=11)(hpl:ps.length=fr.length)(ht:NA old nw ss jF js jG ps fr.length s):Code.wp Tryz.prog (jI 20) (mZ w0) a w:=by
 have HT:=aa.mk (ht hpl)
 have YG:=aa.mk hpl
 have HL:=aa.mk L
 have HF:=aa.mk hf
 clear ht L hf hpl
 obtain⟨u,hu⟩:∃u:Nat->Value,a={tmps:=CE (.slice Ap ps.length cp) (u 3) (u 4) (.pointer (some ⟨w0.heap.size+1,0,none⟩)) (.int .i64 (fr.length:Int)) (.slice Af fr.length cf) (u 11) (u 12) (u 14) (.pointer (some ⟨b18,0,none⟩)) (.pointer (some ⟨b19,0,none⟩)) (u 38) u,defers:=[]}:=⟨fun i=>a.tmps.getD i undef,ha⟩
 clear ha
 subst hu
 unfold CE
 refine dZ 20 (by kernel_rfl) (fun K hK=>?_)
 unfold jI
 conv=>arg 2;whnf
 unfold mZ
 go_wp2_with fail
 refine dZ 21 (by kernel_rfl) (fun K2 hK2=>?_)
 unfold jI
 conv=>arg 2;whnf
 unfold mZ
 go_wp2_with fail
 go_loopw [38,39] (fun v38 v39 wr=>∃(i:Nat) (ms:List Int),i<=fr.length/\v39= .int .i64 i/\w.heap.size<=wr.heap.size/\aa (ms.length=i)/\aa (∀j:Nat,j<i->rd ms (j:Int)=rd ps (s j:Int))/\aa (Below w.heap.size w wr)/\aa ((Kd.int .i64).R 3 wr w.heap.size (fun b=>w.heap.size<=b) v38 ms)) (fun _ v39 _=>fr.length-(intOf v39).toNat)
 case atStart=>exact⟨0,[],Nat.zero_le _,rfl,Nat.le_refl _,⟨rfl⟩,⟨fun j hj=>absurd hj (Nat.not_lt_zero _)⟩,⟨Below.refl _ _⟩,⟨Kd.jL _ _ _ _ _⟩⟩
 case round=>
  obtain⟨i,ms,hi,rfl,oH,HM,HJ,HB,HR⟩:=hrel
  by_cases hil:i<fr.length
  .obtain⟨af,e,hq0⟩:=Kd.dz (Kd.aK HL.out.kf HB.out) (i:Int) (by omega) (by omega)
   cases e
   rw[HF.out.at_ i hil] at hq0
   have hsi:=hs i hil
   obtain⟨ap,e,hq1⟩:=Kd.dz (Kd.aK HL.out.kp HB.out) (s i:Int) (by omega) (by have:=YG.out;omega)
   cases e
   simp only[Int.toNat_natCast] at hq0 hq1
   have hiI:(i:Int)<fr.length:=by omega
   have hsI:(s i:Int)<ps.length:=by have:=YG.out;omega
   have aja:(0:Int)<=(s i:Int):=by omega
   have TY:=aa.mk (MH HM.out HJ.out)
   obtain⟨sI,acQ⟩:∃z:Nat,s i=z:=⟨_,rfl⟩
   obtain⟨pv,hpv⟩:∃z,rd ps (s i:Int)=z:=⟨_,rfl⟩
   rw[hpv] at hq1 TY
   rw[acQ] at hq0 hq1 hsI aja
   clear hpv acQ hsi
   have HME:=aa.mk (show fr.length-(intOf (.int .i64 ((i:Int)+1))).toNat<fr.length-(intOf (.int .i64 (i:Int))).toNat by simp[intOf];omega)
   have I6:=aa.mk (show ms.length<=11 by rw[HM.out];omega)
   go_wp2_with ((with_reducible refine cO (b:= .append) (xs:=#[.tmp 241,.tmp 249]) rfl ?_);at_builtin;refine Kd.jk (Kd.int .i64) (w0:=wr) w.heap.size rfl (.tmp 241) (.tmp 249) 22 3 (.int .i64 0) 8 rfl Tryz.underlying22 info3 rfl (by decide) (by omega) u38 ms pv [.int .i64 pv] (fun b=>w.heap.size<=b) (fun _=>False) rfl rfl ?aP (fun _ hk=>hk.elim) ?aF ?aO ?aB ?aS ?aL ?_;(case aP=>exact rfl);(case aF=>exact(fun b hb=>Nat.le_trans oH hb));(case aO=>exact HR.out);(case aB=>exact Below.refl _ _);(case aS=>exact oH);(case aL=>have:=I6.out;omega);intro vn wn hon hbn hgn fP;have uU:=aa.mk hon;have BZ:=aa.mk (HB.out.trans (hbn.mono (Nat.le_refl _)));have hsn:=Nat.le_trans oH hbn.size;clear hon hbn hgn fP)
   go_roundw
   case rel=>exact⟨i+1,ms++[pv],by omega,by go_num,hsn,⟨PV HM.out⟩,TY,BZ,uU⟩
   case measure=>exact HME.out
  .obtain rfl:i=fr.length:=by omega
   obtain⟨Am,cm,rfl,hcm,hC⟩:=Kd.dU HR.out
   have HC:=aa.mk hC
   have HTR:=aa.mk (HT.out ms HM.out HJ.out)
   clear hC
   go_wp2_with fail
   refine acK (ms:=ms) (cm:=cm) (Am:=Am) _ ?_ (HL.out.later HB.out) HC.out (by have:=YG.out;omega) (by have:=HM.out;omega) HTR.out
   rfl
set_option maxRecDepth 100000 in
set_option maxHeartbeats 40000000 in
theorem acM{w0 w:World}{old:List Int}{nw lo hi:Int}{ss jF:List bH}{js jG:List bS}{ps fr:List Int}{b18 b19:Nat}{Y0 Y2 Y3 Z0 Z2 Z3 Ap Af:Option Addr}{y0 y2 y3 z0 z2 z3 cp cf:Nat}{s:Nat->Nat}(a:Act)(ha:a={tmps:=CE (.slice Ap ps.length cp) (a.tmps.getD 3 undef) (a.tmps.getD 4 undef) (.pointer (some ⟨w0.heap.size+1,0,none⟩)) (.int .i64 (fr.length:Int)) (.slice Af fr.length cf) (a.tmps.getD 11 undef) (a.tmps.getD 12 undef) (a.tmps.getD 14 undef) (.pointer (some ⟨b18,0,none⟩)) (.pointer (some ⟨b19,0,none⟩)) (a.tmps.getD 38 undef) (fun i=>a.tmps.getD i undef),defers:=[]})(L:LQ w0 w old nw lo hi ss jF js jG ps fr b18 b19 Y0 Y2 Y3 Z0 Z2 Z3 Ap Af y0 y2 y3 z0 z2 z3 cp cf)(hf:ky fr.length s fr)(hs:∀i,i<fr.length->s i<fr.length)(hn:fr.length<=11)(ht:NA old nw ss jF js jG ps fr.length s)(hb:(qg old nw jF jG lo hi).2=(qg old nw ss js lo hi).2):Code.wp Tryz.prog (jI 16) (mZ w0) a w:=by
 have HT:=aa.mk ht
 have HL:=aa.mk L
 have HF:=aa.mk hf
 have HS:=aa.mk hs
 have HN:=aa.mk hn
 obtain⟨⟨mb,eb⟩,hqb⟩:∃x,(qg old nw ss js lo hi).2=x:=⟨_,rfl⟩
 have NV:=aa.mk hqb
 have HE2:=aa.mk (hb.trans hqb)
 clear ht L hf hs hn hb hqb
 obtain⟨u,hu⟩:∃u:Nat->Value,a={tmps:=CE (.slice Ap ps.length cp) (u 3) (u 4) (.pointer (some ⟨w0.heap.size+1,0,none⟩)) (.int .i64 (fr.length:Int)) (.slice Af fr.length cf) (u 11) (u 12) (u 14) (.pointer (some ⟨b18,0,none⟩)) (.pointer (some ⟨b19,0,none⟩)) (u 38) u,defers:=[]}:=⟨fun i=>a.tmps.getD i undef,ha⟩
 clear ha
 subst hu
 unfold CE
 refine dZ 16 (by kernel_rfl) (fun K hK=>?_)
 unfold jI
 conv=>arg 2;whnf
 unfold mZ
 have h80:=HL.out.b18.cell 0
 have h81:=HL.out.b18.cell 1
 have h82:=HL.out.b18.cell 2
 have h83:=HL.out.b18.cell 3
 have h50:=HL.out.b5.cell 0
 have Di:=HL.out.b5.cell 1
 simp only[List.getElem?_cons_zero,List.getElem?_cons_succ] at h80 h81 h82 h83 h50 Di
 go_wp2_with fail
 refine(BD HL.out.i18 lo hi).mono ?_
 rintro e w1 ⟨⟨v,rfl,_⟩,hbx⟩
 rw[NV.out]
 dsimp only
 have L1:=aa.mk (HL.out.later hbx)
 clear hbx HL h80 h81 h82 h83 h50 Di
 have h90:=L1.out.b19.cell 0
 have h91:=L1.out.b19.cell 1
 have h92:=L1.out.b19.cell 2
 have h93:=L1.out.b19.cell 3
 have h50:=L1.out.b5.cell 0
 have Di:=L1.out.b5.cell 1
 simp only[List.getElem?_cons_zero,List.getElem?_cons_succ] at h90 h91 h92 h93 h50 Di
 go_wp2_with fail
 refine dZ 17 (by kernel_rfl) (fun K2 hK2=>?_)
 unfold jI
 conv=>arg 2;whnf
 unfold mZ
 go_wp2_with fail
 refine(BD L1.out.i19 lo hi).mono ?_
 rintro e w2 ⟨⟨v2,rfl,_⟩,hbx⟩
 rw[HE2.out]
 dsimp only
 have L2:=aa.mk (L1.out.later hbx)
 clear hbx L1 h90 h91 h92 h93 h50 Di
 go_wp2_with fail
 refine dZ 18 (by kernel_rfl) (fun K3 hK3=>?_)
 unfold jI
 conv=>arg 2;whnf
 unfold mZ
 go_wp2_with fail
 refine dZ 19 (by kernel_rfl) (fun K4 hK4=>?_)
 unfold jI
 conv=>arg 2;whnf
 unfold mZ
 by_cases hl:ps.length=fr.length
 .have YG:=aa.mk hl
  have hlb:((ps.length:Int) !=(fr.length:Int))=false:=by simp[hl]
  clear hl
  go_wp2_with fail
  refine acL _ ?_ L2.out HF.out HS.out HN.out YG.out HT.out
  rfl
 .have hlb:((ps.length:Int) !=(fr.length:Int))=true:=by simp;omega
  clear hl
  go_wp2_with fail
  refine(jT _).mono ?_
  rintro e w3 ⟨rfl,hbx⟩
  have L3:=aa.mk (L2.out.later hbx)
  go_wp2_with fail
  go_ret
  exact⟨rfl,L3.out.below⟩
end Go.Proofs.YtkjoilgpmngndaaGreat
