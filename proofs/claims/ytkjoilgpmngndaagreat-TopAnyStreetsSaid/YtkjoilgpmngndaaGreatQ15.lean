import Derived.BigQuiet
import Derived.Deep.QuietTactic
import Derived.Test.YtkjoilgpmngndaaGreatQ14
set_option linter.all false
namespace Go.Proofs.YtkjoilgpmngndaaGreat
inductive Ca (f:Nat->Nat->Bool) (M:List Nat):Nat->Nat->Prop
 |refl (x:Nat):Ca f M x x
 |step {x y z:Nat}:Ca f M x y->z ∈ M->f y z=true->Ca f M x z
theorem Ca.trans{f:Nat->Nat->Bool}{M:List Nat}{x y z:Nat}(h:Ca f M x y)(k:Ca f M y z):Ca f M x z:=by
 induction k with
 |refl=>exact h
 |step _ hm hf ih=>exact .step ih hm hf
theorem Ca.symm{f:Nat->Nat->Bool}(hf:∀a b,f a b=f b a){M:List Nat}{x y:Nat}(h:Ca f M x y)(hx:x ∈ M):Ca f M y x:=by
 have key:y ∈ M/\Ca f M y x:=by
  induction h with
  |refl=>exact⟨hx,.refl _⟩
  |@step y z _ hm X4 ih=>exact⟨hm,(Ca.step (.refl z) ih.1 (by rw[hf];exact X4)).trans ih.2⟩
 exact key.2
theorem Ca.perm{f:Nat->Nat->Bool}{M M':List Nat}(e:∀x,x ∈ M↔x ∈ M'){x y:Nat}(h:Ca f M x y):Ca f M' x y:=by
 induction h with
 |refl=>exact .refl _
 |step _ hm hf ih=>exact .step ih ((e _).1 hm) hf
def tY(f:Nat->Nat->Bool)(M:List Nat):Prop:=M≠[]/\∀x ∈ M,∀y ∈ M,Ca f M x y
theorem tY.map{f g:Nat->Nat->Bool}{M M':List Nat}(s:Nat->Nat)(hfg:∀x ∈ M,∀y ∈ M,g (s x) (s y)=f x y)(hM:∀y,y ∈ M'↔∃x ∈ M,y=s x)(h:tY f M):tY g M':=by
 obtain⟨h0,h1⟩:=h
 constructor
 .intro e
  cases M with
  |nil=>exact h0 rfl
  |cons a r=>
   have:=(hM (s a)).2 ⟨a,List.mem_cons_self,rfl⟩
   rw[e] at this
   cases this
 .intro x' hx' y' hy'
  obtain⟨x,hx,rfl⟩:=(hM x').1 hx'
  obtain⟨y,hy,rfl⟩:=(hM y').1 hy'
  have key:∀z,Ca f M x z->z ∈ M/\Ca g M' (s x) (s z):=by
   intro z hz
   induction hz with
   |refl=>exact⟨hx,.refl _⟩
   |@step y z _ hm X4 ih=>exact⟨hm,.step ih.2 ((hM _).2 ⟨z,hm,rfl⟩) (by rw[hfg _ ih.1 _ hm];exact X4)⟩
  exact(key y (h1 x hx y hy)).2
theorem C8{f:Nat->Nat->Bool}{M S:List Nat}{a b:Nat}(ha:a ∈ S)(haM:a ∈ M)(hb:b ∈ M)(hbS:b ∉ S)(hc:∀y ∈ S,∀z ∈ M,z ∉ S->f y z=false):¬tY f M:=by
 rintro⟨_,h⟩
 have key:∀z,Ca f M a z->z ∈ S:=by
  intro z hz
  induction hz with
  |refl=>exact ha
  |@step y z _ hm X4 ih=>
   by_cases ZH:z ∈ S
   .exact ZH
   .rw[hc y ih z hm ZH] at X4
    cases X4
 exact hbS (key b (h a haM b hb))
theorem A8{f:Nat->Nat->Bool}(hf:∀a b,f a b=f b a){M:List Nat}{a:Nat}(ha:a ∈ M)(h:∀x ∈ M,Ca f M a x):tY f M:=
 ⟨fun e=>(by rw[e] at ha;cases ha),fun x hx y hy=>((h x hx).symm hf ha).trans (h y hy)⟩
def Dj(f:Nat->Nat->Bool):Nat->List Nat->List Nat->Bool
 |_,[],rest=>rest.isEmpty
 |0,_::_,_=>false
 |n+1,x::fs,rest=>Dj f n (fs++rest.filter (fun z=>f x z)) (rest.filter (fun z=>!f x z))
def qf(f:Nat->Nat->Bool):List Nat->Bool
 |[]=>false
 |a::r=>Dj f (r.length+1) [a] r
theorem Qj{f:Nat->Nat->Bool}(hf:∀a b,f a b=f b a){M:List Nat}{a:Nat}:∀(n:Nat) (D F R:List Nat),F.length+R.length<=n->(∀x ∈ R,x ∉ D++F)->(∀x,x ∈ D++F++R↔x ∈ M)->a ∈ D++F->(∀x ∈ D++F,Ca f M a x)->(∀x ∈ D,∀z ∈ R,f x z=false)->(Dj f n F R=true↔tY f M):=by
 intro n
 induction n with
 |zero=>
  intro D F R hl h0 h1 h2 h3 h4
  have eF:F=[]:=List.length_eq_zero_iff.1 (by omega)
  have eR:R=[]:=List.length_eq_zero_iff.1 (by omega)
  subst eF eR
  simp only[Dj,List.isEmpty_nil,true_iff]
  simp only[List.append_nil] at h1 h2 h3
  exact A8 hf ((h1 a).1 h2) (fun x hx=>h3 x ((h1 x).2 hx))
 |succ n ih=>
  intro D F R hl h0 h1 h2 h3 h4
  cases F with
  |nil=>
   simp only[Dj,List.isEmpty_iff]
   simp only[List.append_nil] at h0 h1 h2 h3
   constructor
   .rintro rfl
    simp only[List.append_nil] at h1
    exact A8 hf ((h1 a).1 h2) (fun x hx=>h3 x ((h1 x).2 hx))
   .intro hc
    cases R with
    |nil=>rfl
    |cons b R=>
     exfalso
     refine C8 (S:=D) h2 ((h1 a).1 (List.mem_append_left _ h2)) ((h1 b).1 (List.mem_append_right _ List.mem_cons_self)) (fun hb=>?_) (fun y hy z hz ZH=>?_) hc
     .exact h0 b List.mem_cons_self hb
     .rcases List.mem_append.1 ((h1 z).2 hz) with h|h
      .exact absurd h ZH
      .exact h4 y hy z h
  |cons x F=>
   simp only[Dj]
   have hlen:(R.filter (fun z=>f x z)).length+(R.filter (fun z=>!f x z)).length=R.length:=by
    clear hl h0 h1 h2 h3 h4
    induction R with
    |nil=>rfl
    |cons z R ihR=>
     by_cases h:f x z=true
     .simp[List.filter_cons,h];omega
     .simp only[Bool.not_eq_true] at h
      simp[List.filter_cons,h];omega
   have hmem:∀z,z ∈ (D++[x])++(F++R.filter (fun z=>f x z))++R.filter (fun z=>!f x z)↔z ∈ D++x::F++R:=by
    intro z
    simp only[List.mem_append,List.mem_cons,List.mem_filter,List.mem_nil_iff,or_false]
    cases hfx:f x z<;>simp[hfx]<;>grind
   refine ih (D++[x]) (F++R.filter (fun z=>f x z)) (R.filter (fun z=>!f x z)) ?_ ?_ (fun z=>(hmem z).trans (h1 z)) ?_ ?_ ?_
   .simp only[List.length_append,List.length_cons] at hl ⊢
    omega
   .intro z hz
    have hz':=List.mem_filter.1 hz
    have h0z:=h0 z hz'.1
    simp only[List.mem_append,List.mem_cons,List.mem_filter,List.mem_nil_iff,or_false] at h0z ⊢
    have hfz:f x z=false:=by simpa using hz'.2
    rw[hfz]
    simp only[Bool.false_eq_true,and_false,or_false]
    grind
   .simp only[List.mem_append,List.mem_cons,List.mem_nil_iff,or_false] at h2 ⊢
    grind
   .intro z hz
    have hxc:=h3 x (List.mem_append_right _ List.mem_cons_self)
    simp only[List.mem_append,List.mem_cons,List.mem_filter,List.mem_nil_iff,or_false] at hz
    rcases hz with(hz|hz)|hz|hz
    .exact h3 z (List.mem_append_left _ hz)
    .rw[hz];exact hxc
    .exact h3 z (List.mem_append_right _ (List.mem_cons_of_mem _ hz))
    .exact .step hxc ((h1 z).1 (List.mem_append_right _ hz.1)) hz.2
   .intro y hy z hz
    simp only[List.mem_append,List.mem_cons,List.mem_filter,List.mem_nil_iff,or_false] at hy hz
    rcases hy with hy|hy
    .exact h4 y hy z hz.1
    .rw[hy]
     simpa using hz.2
theorem yx{f:Nat->Nat->Bool}(hf:∀a b,f a b=f b a){M:List Nat}(hnd:M.Nodup):qf f M=true↔tY f M:=by
 cases M with
 |nil=>
  simp only[qf,Bool.false_eq_true,false_iff]
  exact fun h=>h.1 rfl
 |cons a r=>
  rw[List.nodup_cons] at hnd
  unfold qf
  refine Qj hf _ [] [a] r (by simp;omega) (fun x hx=>?_) (fun x=>by simp) (a:=a) (by simp) (fun x hx=>?_) (fun x hx=>by cases hx)
  .simp only[List.nil_append,List.mem_singleton]
   rintro rfl
   exact hnd.1 hx
  .simp only[List.nil_append,List.mem_singleton] at hx
   subst hx
   exact .refl _
def vE{α:Type}(xs:List α)(k r:Nat)(a b:α):List α:=(xs.set k a).set r b
structure UH(f:Nat->Nat->Bool)(ms xs:List Nat)(r nx:Nat):Prop where
 mem:∀x,x ∈ xs↔x ∈ ms
 inj:∀i j,i<xs.length->j<xs.length->xs.getD i 0=xs.getD j 0->i=j
 len:xs.length=ms.length
 r1:1<=r
 rl:r<=xs.length
 nr:nx<=r
 con:∀i (_:i<r),Ca f ms (xs.getD 0 0) (xs.getD i 0)
 done:∀i,i<nx->∀j,r<=j->j<xs.length->f (xs.getD i 0) (xs.getD j 0)=false
theorem lF{xs:List Nat}{i:Nat}(h:i<xs.length):xs.getD i 0 ∈ xs:=by
 simp[List.getD,h]
theorem PR{xs:List Nat}(h:xs.Nodup):∀i j,i<xs.length->j<xs.length->xs.getD i 0=xs.getD j 0->i=j:=by
 intro i j hi hj e
 simp only[List.getD,List.getElem?_eq_getElem hi,List.getElem?_eq_getElem hj,Option.getD_some] at e
 have hp:=List.pairwise_iff_getElem.1 h
 rcases Nat.lt_trichotomy i j with hl|hl|hl
 .exact absurd e (hp i j hi hj hl)
 .exact hl
 .exact absurd e.symm (hp j i hj hi hl)
theorem UH.start{f:Nat->Nat->Bool}{ms:List Nat}(hnd:ms.Nodup)(h:0<ms.length):UH f ms ms 1 0 where
 mem:=fun _=>Iff.rfl
 inj:=PR hnd
 len:=rfl
 r1:=Nat.le_refl _
 rl:=h
 nr:=Nat.zero_le _
 con:=fun i hi=>by
  obtain rfl:i=0:=by omega
  exact .refl _
 done:=fun i hi=>absurd hi (Nat.not_lt_zero _)
theorem UH.fin{f:Nat->Nat->Bool}(hf:∀a b,f a b=f b a){ms xs:List Nat}{r:Nat}(h:UH f ms xs r r):(decide (r=xs.length)=true)↔tY f ms:=by
 have hl:0<xs.length:=by have:=h.r1;have:=h.rl;omega
 have h0m:xs.getD 0 0 ∈ ms:=(h.mem _).1 (lF hl)
 rw[decide_eq_true_eq]
 constructor
 .intro e
  refine A8 hf h0m (fun x hx=>?_)
  obtain⟨i,hi,hx'⟩:=List.getElem_of_mem ((h.mem x).2 hx)
  have:=h.con i (by omega)
  simpa[List.getD,hi,hx'] using this
 .intro hc
  by_cases e:r=xs.length
  .exact e
  .exfalso
   have hrl:r<xs.length:=by have:=h.rl;omega
   refine C8 (S:=xs.take r) (a:=xs.getD 0 0) (b:=xs.getD r 0) ?_ h0m ((h.mem _).1 (lF hrl)) ?_ ?_ hc
   .rw[List.mem_take_iff_getElem]
    exact⟨0,by have:=h.r1;omega,by simp[List.getD,hl]⟩
   .intro hin
    rw[List.mem_take_iff_getElem] at hin
    obtain⟨i,hi,e2⟩:=hin
    have hi':i<xs.length:=by omega
    have:=h.inj i r hi' hrl (by simp only[List.getD,List.getElem?_eq_getElem hrl,List.getElem?_eq_getElem hi',Option.getD_some];simpa[List.getD,hrl] using e2)
    omega
   .intro y hy z hz ZH
    rw[List.mem_take_iff_getElem] at hy ZH
    obtain⟨i,hi,rfl⟩:=hy
    obtain⟨j,hj,rfl⟩:=List.getElem_of_mem ((h.mem z).2 hz)
    have hjr:r<=j:=by
     refine Nat.le_of_not_lt (fun hlt=>ZH ⟨j,by omega,rfl⟩)
    have hi':i<xs.length:=by omega
    have:=h.done i (by omega) j hjr hj
    simpa[List.getD,hi',hj] using this
structure tZ(f:Nat->Nat->Bool)(ms xs:List Nat)(r nx k:Nat):Prop where
 b:UH f ms xs r nx
 lt:nx<r
 rk:r<=k
 kl:k<=xs.length
 no:∀j,r<=j->j<k->f (xs.getD nx 0) (xs.getD j 0)=false
theorem UH.enter{f:Nat->Nat->Bool}{ms xs:List Nat}{r nx:Nat}(h:UH f ms xs r nx)(hn:nx<r):tZ f ms xs r nx r:=⟨h,hn,Nat.le_refl _,h.rl,fun j h1 h2=>by omega⟩
theorem tZ.leave{f:Nat->Nat->Bool}{ms xs:List Nat}{r nx:Nat}(h:tZ f ms xs r nx xs.length):UH f ms xs r (nx+1):=
 ⟨h.b.mem,h.b.inj,h.b.len,h.b.r1,h.b.rl,h.lt,h.b.con,fun i hi j h1 h2=>by
  by_cases e:i=nx
  .rw[e];exact h.no j h1 h2
  .exact h.b.done i (by omega) j h1 h2⟩
theorem tZ.pass{f:Nat->Nat->Bool}{ms xs:List Nat}{r nx k:Nat}(h:tZ f ms xs r nx k)(hk:k<xs.length)(hf:f (xs.getD nx 0) (xs.getD k 0)=false):tZ f ms xs r nx (k+1):=
 ⟨h.b,h.lt,by have:=h.rk;omega,by omega,fun j h1 h2=>by
  by_cases e:j=k
  .rw[e];exact hf
  .exact h.no j h1 (by omega)⟩
theorem Qk(xs:List Nat){k r:Nat}(hr:r<xs.length)(hk:k<xs.length)(i:Nat)(hi:i<xs.length):
  (vE xs k r (xs.getD r 0) (xs.getD k 0)).getD i 0=if i=r then xs.getD k 0 else if i=k then xs.getD r 0 else xs.getD i 0:=by
 unfold vE
 simp only[List.getD,List.getElem?_set,List.length_set]
 by_cases e1:i=r
 .subst e1;simp[hi,hk]
 .rw[if_neg (fun h=>e1 h.symm),if_neg e1]
  by_cases e2:i=k
  .subst e2;simp[hi,hr]
  .rw[if_neg (fun h=>e2 h.symm),if_neg e2]
theorem Rj(xs:List Nat)(k r a b:Nat):(vE xs k r a b).length=xs.length:=by simp[vE]
theorem tZ.swap{f:Nat->Nat->Bool}{ms xs:List Nat}{r nx k:Nat}(h:tZ f ms xs r nx k)(hk:k<xs.length)(hf:f (xs.getD nx 0) (xs.getD k 0)=true):tZ f ms (vE xs k r (xs.getD r 0) (xs.getD k 0)) (r+1) nx (k+1):=by
 have XV:=h.rk
 have hr:r<xs.length:=by omega
 have hg:=fun i hi=>Qk xs hr hk i hi
 have hr1:=h.b.r1
 have hnx:=h.lt
 have hls:=Rj xs k r (xs.getD r 0) (xs.getD k 0)
 obtain⟨S,hS⟩:∃S,vE xs k r (xs.getD r 0) (xs.getD k 0)=S:=⟨_,rfl⟩
 rw[hS] at hls ⊢
 simp only[hS] at hg
 have hmem:∀x,x ∈ S↔x ∈ xs:=by
  intro x
  constructor
  .intro hx
   obtain⟨i,hi,rfl⟩:=List.getElem_of_mem hx
   have hi':=hi
   rw[hls] at hi'
   have e:S[i]=S.getD i 0:=by simp[List.getD,hi]
   rw[e,hg i hi']
   split
   .exact lF hk
   .split
    .exact lF hr
    .exact lF hi'
  .intro hx
   obtain⟨i,hi,rfl⟩:=List.getElem_of_mem hx
   have e:xs[i]=xs.getD i 0:=by simp[List.getD,hi]
   have hSm:∀m,m<xs.length->S.getD m 0 ∈ S:=fun m hm=>lF (by omega)
   rw[e]
   by_cases e1:i=r
   .have h1:=hg k hk
    by_cases e2:k=r
    .rw[if_pos e2] at h1
     rw[e1,<- e2,<- h1];exact hSm k hk
    .rw[if_neg e2,if_pos rfl] at h1
     rw[e1,<- h1];exact hSm k hk
   .by_cases e2:i=k
    .have h1:=hg r hr
     rw[if_pos rfl] at h1
     rw[e2,<- h1];exact hSm r hr
    .have h1:=hg i hi
     rw[if_neg e1,if_neg e2] at h1
     rw[<- h1];exact hSm i hi
 have h0:S.getD 0 0=xs.getD 0 0:=by rw[hg 0 (by omega),if_neg (by omega),if_neg (by omega)]
 have hn:S.getD nx 0=xs.getD nx 0:=by rw[hg nx (by omega),if_neg (by omega),if_neg (by omega)]
 refine⟨⟨fun x=>(hmem x).trans (h.b.mem x),?_,hls.trans h.b.len,by omega,by omega,by omega,fun i hi=>?_,fun i hi j h1 h2=>?_⟩,by omega,by omega,by omega,fun j h1 h2=>?_⟩
 .intro i j hi hj e
  rw[hls] at hi hj
  rw[hg i hi,hg j hj] at e
  have hinj:=h.b.inj
  split at e<;>split at e<;>(try split at e)<;>(try split at e)<;>first|omega|(have:=hinj _ _ (by omega) (by omega) e;omega)
 .rw[h0,hg i (by omega)]
  by_cases e:i=r
  .rw[if_pos e]
   exact .step (h.b.con nx hnx) ((h.b.mem _).1 (lF hk)) hf
  .rw[if_neg e,if_neg (by omega)]
   exact h.b.con i (by omega)
 .rw[hls] at h2
  rw[hg i (by omega),if_neg (by omega),if_neg (by omega),hg j h2,if_neg (by omega)]
  split
  .exact h.b.done i hi r (Nat.le_refl _) hr
  .exact h.b.done i hi j (by omega) h2
 .rw[hn,hg j (by omega),if_neg (by omega)]
  split
  .exact h.no r (Nat.le_refl _) (by omega)
  .exact h.no j (by omega) (by omega)
end Go.Proofs.YtkjoilgpmngndaaGreat
namespace Go.Proofs.YtkjoilgpmngndaaGreat
open Go.RowKit Go.Shelf Go.Proofs.YtkjoilgpmngndaaGreat.av Go.Proofs.YtkjoilgpmngndaaGreatW.aA Go.Proofs.YtkjoilgpmngndaaGreatW.aJ Go.Proofs.YtkjoilgpmngndaaGreatW.dn
def cn.T17:Bool×List (List Nat×List Nat):=(true,[([],[]),([0],[0]),([1],[1]),([2],[2]),([],[]),([],[]),([4,5],[4,5]),([6],[6]),([],[]),([],[]),([8,9],[8,9]),([10],[10]),([7,11],[7,11]),([3,12],[3,12])])
def cn.B17:List Nat:=[0,1,3,7,0,0,48,112,0,0,768,1792,4080,8191]
theorem cn.XK:eu .any (opsOf Tryz.f47 17)=cn.T17:=by kernel_rfl
theorem cn.Tp:bO cn.T17.2 cn.B17=true:=by kernel_rfl
def cn.T18:Bool×List (List Nat×List Nat):=(true,[([],[]),([],[]),([],[]),([],[]),([],[]),([],[]),([4,5],[4,5]),([6],[6]),([],[]),([],[]),([8,9],[8,9]),([10],[10]),([0,1,0,1,4,5,6,7,11],[0,1]),([12,7,0,1,4,5,6,7,11],[7,12]),([2,3,0,1,2,3,4,5,6,7,8,9,10,11,12,13],[2,3]),([14,11,13,0,1,2,3,4,5,6,7,8,9,10,11,12,13],[11,14])])
def cn.B18:List Nat:=[0,0,0,0,0,0,48,112,0,0,768,1792,4083,8179,16383,32767]
theorem cn.acx:eu .any (opsOf Tryz.f47 18)=cn.T18:=by kernel_rfl
theorem cn.aa2:bO cn.T18.2 cn.B18=true:=by kernel_rfl
def jK(ys:List Nat):List Int:=ys.map (fun n:Nat=>(n:Int))
theorem Qx(ys:List Nat)(i:Nat)(h:i<ys.length):DI (0:Int) (jK ys) (i:Int)=((ys.getD i 0:Nat):Int):=by
 simp[DI,jK,List.getD,h]
theorem mf{W:World}{base g n cap:Nat}{ok:Nat->Prop}{ys:List Nat}(h:(Kd.int .i64).R 3 W base ok (.slice (some ⟨g,0,none⟩) n cap) (jK ys))(i:Nat)(hi:i<n):W.cell? ⟨g,i,none⟩=some (.int .i64 ((ys.getD i 0:Nat):Int))/\W.frozen? ⟨g,i,none⟩=false:=by
 have hl:n=ys.length:=by obtain⟨e,_⟩:=Kd.iQ h;rw[e];simp[jK]
 have:=Kd.iR (0:Int) h (i:Int) (by omega) (by omega)
 rw[Qx ys i (by omega)] at this
 exact this
theorem J4{W:World}{base g n cap:Nat}{ok:Nat->Prop}{xs:List Int}(h:(Kd.int .i64).R 3 W base ok (.slice (some ⟨g,0,none⟩) n cap) xs)(i:Nat)(x:Nat):(Kd.int .i64).R 3 (W.setCell ⟨g,i,none⟩ (.int .i64 (x:Int))) base ok (.slice (some ⟨g,0,none⟩) n cap) (xs.set i (x:Int)):=
 Kd.rX h (i:Int) (x:Int)
theorem ints_at{W:World}{base g n cap:Nat}{ok:Nat->Prop}{xs:List Int}(h:(Kd.int .i64).R 3 W base ok (.slice (some ⟨g,0,none⟩) n cap) xs)(i:Nat)(hi:i<n):W.cell? ⟨g,i,none⟩=some (.int .i64 (DI (0:Int) xs (i:Int))):=(Kd.iR (0:Int) h (i:Int) (by omega) (by omega)).1
theorem J5{W:World}{base g n cap:Nat}{ok:Nat->Prop}{xs:List Int}(h:(Kd.int .i64).R 3 W base ok (.slice (some ⟨g,0,none⟩) n cap) xs)(i:Nat)(hi:i<n):W.frozen? ⟨g,i,none⟩=false:=(Kd.iR (0:Int) h (i:Int) (by omega) (by omega)).2
theorem Nh(ys:List Nat)(k r a b:Nat):((jK ys).set k (a:Int)).set r (b:Int)=jK (vE ys k r a b):=by simp[jK,vE,List.map_set]
def di(l:Nat->Int)(d:Int)(k:Nat):List Nat:=(List.range k).filter (fun i=>l i==d)
theorem AA(l:Nat->Int)(d:Int)(k:Nat):di l d (k+1)=if l k==d then di l d k++[k] else di l d k:=by
 unfold di
 rw[List.range_succ,List.filter_append]
 by_cases h:(l k==d)=true
 .rw[if_pos h]
  simp[List.filter_cons,h]
 .rw[if_neg h]
  simp[List.filter_cons,h]
theorem za(l:Nat->Int)(d:Int)(k:Nat):(di l d k).Nodup:=List.Nodup.sublist List.filter_sublist List.nodup_range
theorem tJ(l:Nat->Int)(d:Int)(k:Nat):(di l d k).length<=k:=by
 have:=List.length_filter_le (fun i=>l i==d) (List.range k)
 rwa [List.length_range] at this
theorem DT{l:Nat->Int}{d:Int}{k x:Nat}(h:x ∈ di l d k):x<k:=List.mem_range.1 (List.mem_filter.1 h).1
theorem zq(js:List bS)(a b:Nat):jn js a b=jn js b a:=by
 unfold jn
 congr 1
 funext j
 rw[Bool.or_comm]
set_option maxRecDepth 100000 in
set_option maxHeartbeats 40000000 in
theorem qZ{A0:Option Addr}{c0:Nat}{old:List Int}{nw:Int}{A2:Option Addr}{c2:Nat}{ss:List bH}{A3:Option Addr}{c3:Nat}{js:List bS}{w:World}{gw mb:Nat}(hw:Xl w gw mb A0 c0 old nw A2 c2 ss A3 c3 js)(hss:ss.length<=8)(l:Nat->Int)(d:Int):
  Calls Tryz.prog 47 #[.pointer (some ⟨gw,0,none⟩),sS l,.int .i64 d] w fun e w'=>e= .returned (.bool (qf (jn js) (di l d ss.length)))/\Below w.heap.size w w':=by
 have QQ:=aa.mk hw.blk
 have HJM:=aa.mk hw.jm
 clear hw
 unfold sS
 go_enter Tryz.func47,Tryz.ntmps47
 have hgw:=QQ.out.lt
 have hmb:=HJM.out.lt
 have hc2:=QQ.out.cell 2
 simp only[List.getElem?_cons_zero,List.getElem?_cons_succ] at hc2
 go_wp2_with fail
 clear hc2
 have HB0:=aa.mk (ae (Below.refl w.heap.size w) (.cells #[.int .i64 (l 0),.int .i64 (l 1),.int .i64 (l 2),.int .i64 (l 3),.int .i64 (l 4),.int .i64 (l 5),.int .i64 (l 6),.int .i64 (l 7)] 121))
 have B1:=aa.mk (show aR (w.alloc (.cells #[.int .i64 (l 0),.int .i64 (l 1),.int .i64 (l 2),.int .i64 (l 3),.int .i64 (l 4),.int .i64 (l 5),.int .i64 (l 6),.int .i64 (l 7)] 121)) w.heap.size (bJ l) 121 from aR.new w (bJ l) 121)
 have hs0:w.heap.size<(w.alloc (.cells #[.int .i64 (l 0),.int .i64 (l 1),.int .i64 (l 2),.int .i64 (l 3),.int .i64 (l 4),.int .i64 (l 5),.int .i64 (l 6),.int .i64 (l 7)] 121)).heap.size:=by simp
 generalize w.alloc (.cells #[.int .i64 (l 0),.int .i64 (l 1),.int .i64 (l 2),.int .i64 (l 3),.int .i64 (l 4),.int .i64 (l 5),.int .i64 (l 6),.int .i64 (l 7)] 121)=w1 at HB0 B1 hs0 ⊢
 go_loopw [7,18] (fun v7 v18 wr=>∃k:Nat,k<=ss.length/\v18= .int .i64 k/\aa (Below w.heap.size w wr)/\aa (aR wr w.heap.size (bJ l) 121)/\w1.heap.size<=wr.heap.size/\aa ((Kd.int .i64).R 3 wr w1.heap.size (fun b=>w1.heap.size<=b) v7 (jK (di l d k)))) (fun _ v18 _=>ss.length-(intOf v18).toNat)
 case atStart=>exact⟨0,Nat.zero_le _,rfl,HB0,B1,Nat.le_refl _,⟨Kd.jL _ _ _ _ _⟩⟩
 case round=>
  clear HB0 B1
  obtain⟨k,hk,rfl,HB,B1,oH,HR⟩:=hrel
  by_cases hkl:k<ss.length
  .have hc:=B1.out.cell k
   rw[gJ l k (by omega)] at hc
   have hk0:(0:Int)<=(k:Int):=by omega
   have hk8:(k:Int)<8:=by omega
   have hsu:=AA l d k
   have hle:=tJ l d k
   cases hm:(l k==d)
   .rw[hm,if_neg (by simp)] at hsu
    have QJ:=aa.mk hsu
    clear hsu hle
    go_wp2_with fail
    refine⟨⟨k+1,by omega,by go_num,HB,B1,oH,⟨by rw[QJ.out];exact HR.out⟩⟩,by simp[intOf];omega⟩
   .rw[hm,if_pos rfl] at hsu
    have QJ:=aa.mk hsu
    clear hsu
    have I6:=aa.mk (show(jK (di l d k)).length<=k by simpa[jK] using hle)
    clear hle
    go_wp2_with ((with_reducible refine cO (b:= .append) (xs:=#[.tmp 26,.tmp 28]) rfl ?_);at_builtin;refine Kd.jk (Kd.int .i64) (w0:=wr) w1.heap.size rfl (.tmp 26) (.tmp 28) 22 3 (.int .i64 0) 8 rfl Tryz.underlying22 info3 rfl (by decide) (by omega) u7 (jK (di l d k)) (k:Int) [.int .i64 (k:Int)] (fun b=>w1.heap.size<=b) (fun _=>False) rfl rfl ?aP (fun _ hk=>hk.elim) ?aF ?aO ?aB ?aS ?aL ?_;(case aP=>exact rfl);(case aF=>exact(fun b hb=>Nat.le_trans oH hb));(case aO=>exact HR.out);(case aB=>exact Below.refl _ _);(case aS=>exact oH);(case aL=>have:=I6.out;omega);intro vn wn hon hbn hgn fP;have uU:=aa.mk hon;have BZ:=aa.mk (HB.out.trans (hbn.mono (by omega)));have Bn:=aa.mk (B1.out.move (hbn.block _ hs0));have hsn:=Nat.le_trans oH hbn.size;clear hon hbn hgn fP)
    go_roundw
    case rel=>exact⟨k+1,by omega,by go_num,BZ,Bn,hsn,⟨by rw[QJ.out];have:=uU.out;simpa[jK] using this⟩⟩
    case measure=>simp[intOf];omega
  .obtain rfl:k=ss.length:=by omega
   have HND:=aa.mk (za l d ss.length)
   have HLT:=aa.mk (fun x (hx:x ∈ di l d ss.length)=>(DT hx:x<ss.length))
   have hle:=tJ l d ss.length
   obtain⟨ms,hms⟩:∃ms,di l d ss.length=ms:=⟨_,rfl⟩
   rw[hms] at HR HND HLT hle
   have HMS:=aa.mk hms
   clear hms
   obtain⟨A7,c7,hv,_,_⟩:=Kd.dU HR.out
   subst hv
   obtain⟨n,hn⟩:∃n,(jK ms).length=n:=⟨_,rfl⟩
   have hnl:n=ms.length:=by rw[<- hn];simp[jK]
   rw[hn] at HR
   rw[hn]
   by_cases h0:n=0
   .have e0:ms=[]:=List.length_eq_zero_iff.1 (by omega)
    subst h0 e0
    clear hn hnl
    go_wp2_with fail
    go_ret
    rw[HMS.out]
    exact⟨rfl,HB.out⟩
   have hnz:((n:Int)==0)=false:=by simpa using h0
   obtain⟨g,cap,hv,hg1,hg2,_⟩:=Kd.Bq HR.out (by rw[hn];omega)
   rw[hn] at hv
   injection hv with hv1 hv2 hv3
   subst hv1 hv3
   have Qd:n<=8:=by omega
   have HF:=aa.mk (UH.start (f:=jn js) HND.out (show 0<ms.length by omega))
   have HN:=aa.mk hnl
   clear hn hnl hv2 hle B1
   go_wp2_with fail
   have hgb:w.heap.size<=g:=by omega
   go_loopw [9,10] (fun v9 v10 wr=>∃(ys:List Nat) (r nx:Nat),v9= .int .i64 r/\v10= .int .i64 nx/\nx<=r/\r<=n/\aa (UH (jn js) ms ys r nx)/\aa (Below w.heap.size w wr)/\aa ((Kd.int .i64).R 3 wr w1.heap.size (fun b=>w1.heap.size<=b) (.slice (some ⟨g,0,none⟩) n c7) (jK ys))) (fun _ v10 _=>n-(intOf v10).toNat)
   case atStart=>exact⟨ms,1,0,rfl,rfl,by omega,by omega,HF,HB,HR⟩
   case round=>
    clear HF HB HR hg2
    obtain⟨ys,r,nx,rfl,rfl,hnr,hrn,HF,HB,HR⟩:=hrel
    by_cases hlt:nx<r
    .have ac7:decide ((nx:Int)<(r:Int))=true:=by simpa using hlt
     go_wp2_with fail
     go_loopw [9,11] (fun v9 v11 wr=>∃(ys:List Nat) (r k:Nat),v9= .int .i64 r/\v11= .int .i64 k/\nx<r/\r<=k/\k<=n/\aa (tZ (jn js) ms ys r nx k)/\aa (Below w.heap.size w wr)/\aa ((Kd.int .i64).R 3 wr w1.heap.size (fun b=>w1.heap.size<=b) (.slice (some ⟨g,0,none⟩) n c7) (jK ys))) (fun _ v11 _=>n-(intOf v11).toNat)
     case atStart=>exact⟨ys,r,r,rfl,rfl,hlt,Nat.le_refl _,hrn,⟨HF.out.enter hlt⟩,HB,HR⟩
     case round=>
      clear HF HB HR hlt ac7 hnr hrn
      obtain⟨ys,r,k,rfl,rfl,hnx,XV,hkn,HF,HB,HR⟩:=hrel
      have HYL:=aa.mk (show ys.length=n by rw[HF.out.b.len,HN.out])
      by_cases hk:k<n
      .have hkb:decide ((k:Int)<(n:Int))=true:=by simpa using hk
       have ac2:nx<n:=by omega
       have hrn:r<n:=by omega
       have q1:(0:Int)<=(nx:Int):=by omega
       have q2:(nx:Int)<(n:Int):=by omega
       have q3:(0:Int)<=(k:Int):=by omega
       have q4:(k:Int)<(n:Int):=by omega
       have q5:(0:Int)<=(r:Int):=by omega
       have q6:(r:Int)<(n:Int):=by omega
       have hcx:=(mf HR.out nx ac2).1
       have hck:=(mf HR.out k hk).1
       have ZW:=(mf HR.out k hk).2
       have hcr:=(mf HR.out r hrn).1
       have BWw:=aa.mk (QQ.out.below HB.out)
       have HJw:=aa.mk (HJM.out.move (HB.out.block mb hmb))
       have hyx:ys.getD nx 0<8:=by have:=HLT.out _ ((HF.out.b.mem _).1 (lF (by rw[HYL.out];exact ac2)));omega
       have hyk:ys.getD k 0<8:=by have:=HLT.out _ ((HF.out.b.mem _).1 (lF (by rw[HYL.out];exact hk)));omega
       have hlk:=HJw.out.lookup hyx hyk wr.drew rfl
       unfold oI at hlk
       obtain⟨vx,hvx⟩:∃v,ys.getD nx 0=v:=⟨_,rfl⟩
       obtain⟨vk,hvk⟩:∃v,ys.getD k 0=v:=⟨_,rfl⟩
       obtain⟨vr,hvr⟩:∃v,ys.getD r 0=v:=⟨_,rfl⟩
       rw[hvx] at hcx hlk
       rw[hvk] at hck hlk
       rw[hvr] at hcr
       have HVX:=aa.mk hvx
       have HVK:=aa.mk hvk
       have HVR:=aa.mk hvr
       clear hvx hvk hvr hyx hyk hcr
       go_wp2_with fail
       refine gz (n:=14) (S:=fun w'=>w'.cell? ⟨gw,4,none⟩=some (.map (some mb))/\w'.cell? ⟨g,nx,none⟩=some (.int .i64 (vx:Int))/\w'.cell? ⟨g,k,none⟩=some (.int .i64 (vk:Int))/\(Instr.lookup 130 (.map (some mb)) (.agg #[.int .i64 (vx:Int),.int .i64 (vk:Int)]) false).run Tryz.prog w'= .ok (.bool (jn js vx vk)) w') (ds:=[]) #[O,O,O,O,O,O,O,O,O,O,O,O,O,O] (by kernel_rfl) rfl rfl ⟨(by simpa using BWw.out.cell 4),hcx,hck,hlk⟩ (fun hHeld=>?_);refine bK cn.XK cn.Tp (fun aC bW=>?_)
       have qV:=aa.mk (bG HB.out)
       have Bv:=aa.mk (Kd.fE HR.out)
       clear HB HR BWw HJw hcx hck hlk ZW
       generalize wr.drew=wd at qV Bv hHeld ⊢
       refine bI 0 46 #[I,O,O,O,O,O,O,O,O,O,O,O,O,O] aC (h:=?_)
       refine bI 1 47 #[I,I,O,O,O,O,O,O,O,O,O,O,O,O] aC (h:=?_)
       refine bI 2 48 #[I,I,I,O,O,O,O,O,O,O,O,O,O,O] aC (h:=?_)
       refine eP 3 49 #[I,I,I,I,O,O,O,O,O,O,O,O,O,O] aC bW hHeld (hy:=by(rintro w' ⟨s0,s1,s2,s3⟩;go_simp;with_reducible rfl)) (h:=?_)
       refine bI 4 50 #[I,I,I,I,I,O,O,O,O,O,O,O,O,O] aC (h:=?_)
       refine bI 5 51 #[I,I,I,I,I,I,O,O,O,O,O,O,O,O] aC (h:=?_)
       refine bI 6 52 #[I,I,I,I,I,I,I,O,O,O,O,O,O,O] aC (h:=?_)
       refine eP 7 53 #[I,I,I,I,I,I,I,I,O,O,O,O,O,O] aC bW hHeld (hy:=by(rintro w' ⟨s0,s1,s2,s3⟩;go_simp;with_reducible rfl)) (h:=?_)
       refine bI 8 54 #[I,I,I,I,I,I,I,I,I,O,O,O,O,O] aC (h:=?_)
       refine bI 9 55 #[I,I,I,I,I,I,I,I,I,I,O,O,O,O] aC (h:=?_)
       refine bI 10 56 #[I,I,I,I,I,I,I,I,I,I,I,O,O,O] aC (h:=?_)
       refine eP 11 57 #[I,I,I,I,I,I,I,I,I,I,I,I,O,O] aC bW hHeld (hy:=by(rintro w' ⟨s0,s1,s2,s3⟩;go_simp;with_reducible rfl)) (h:=?_)
       refine bI 12 58 #[I,I,I,I,I,I,I,I,I,I,I,I,I,O] aC (h:=?_)
       refine eP 13 59 #[I,I,I,I,I,I,I,I,I,I,I,I,I,I] aC bW hHeld (hy:=by(rintro w' ⟨s0,s1,s2,s3⟩;go_simp;with_reducible rfl)) (h:=?_)
       refine fF (bQ aC.out (by kernel_rfl)) ?_
       have hcr:=(mf Bv.out r hrn).1
       have hck:=(mf Bv.out k hk).1
       have ZW:=(mf Bv.out k hk).2
       rw[HVR.out] at hcr
       rw[HVK.out] at hck
       cases hj:jn js vx vk
       .clear hcr hck ZW
        go_wp2_with fail
        go_roundw
        case rel=>exact⟨ys,r,k+1,rfl,by go_num,hnx,by omega,by omega,⟨HF.out.pass (by rw[HYL.out];exact hk) (by rw[HVX.out,HVK.out];exact hj)⟩,qV,Bv⟩
        case measure=>simp[intOf];omega
       .go_wp2_with fail
        refine gz (n:=16) (S:=fun w'=>w'.cell? ⟨g,r,none⟩=some (.int .i64 (vr:Int))/\w'.cell? ⟨g,k,none⟩=some (.int .i64 (vk:Int))) (ds:=[13,15]) #[O,O,O,O,O,O,O,O,O,O,O,O,O,O,O,O] (by kernel_rfl) rfl rfl ⟨hcr,hck⟩ (fun hHeld=>?_);refine bK cn.acx cn.aa2 (fun aC bW=>?_)
        have HB1:=aa.mk (bG qV.out)
        have HR1:=aa.mk (Kd.fE Bv.out)
        replace hck:=(show wd.drew.cell? ⟨g,k,none⟩=some (.int .i64 (vk:Int)) from hck)
        replace ZW:wd.drew.frozen? ⟨g,k,none⟩=false:=ZW
        clear qV Bv hcr
        generalize wd.drew=we at HB1 HR1 hck ZW hHeld ⊢
        refine bI 0 60 #[I,O,O,O,O,O,O,O,O,O,O,O,O,O,O,O] aC (h:=?_)
        refine bI 1 61 #[I,I,O,O,O,O,O,O,O,O,O,O,O,O,O,O] aC (h:=?_)
        refine bI 2 62 #[I,I,I,O,O,O,O,O,O,O,O,O,O,O,O,O] aC (h:=?_)
        refine bI 3 63 #[I,I,I,I,O,O,O,O,O,O,O,O,O,O,O,O] aC (h:=?_)
        refine bI 4 64 #[I,I,I,I,I,O,O,O,O,O,O,O,O,O,O,O] aC (h:=?_)
        refine bI 5 65 #[I,I,I,I,I,I,O,O,O,O,O,O,O,O,O,O] aC (h:=?_)
        refine bI 6 66 #[I,I,I,I,I,I,I,O,O,O,O,O,O,O,O,O] aC (h:=?_)
        refine eP 7 67 #[I,I,I,I,I,I,I,I,O,O,O,O,O,O,O,O] aC bW hHeld (hy:=by(rintro w' ⟨s0,s1⟩;go_simp;with_reducible rfl)) (h:=?_)
        refine bI 8 68 #[I,I,I,I,I,I,I,I,I,O,O,O,O,O,O,O] aC (h:=?_)
        refine bI 9 69 #[I,I,I,I,I,I,I,I,I,I,O,O,O,O,O,O] aC (h:=?_)
        refine bI 10 70 #[I,I,I,I,I,I,I,I,I,I,I,O,O,O,O,O] aC (h:=?_)
        refine eP 11 71 #[I,I,I,I,I,I,I,I,I,I,I,I,O,O,O,O] aC bW hHeld (hy:=by(rintro w' ⟨s0,s1⟩;go_simp;with_reducible rfl)) (h:=?_)
        refine bI 12 72 #[I,I,I,I,I,I,I,I,I,I,I,I,I,O,O,O] aC (h:=?_)
        refine dW (i:=13) (N:=none) #[I,I,I,I,I,I,I,I,I,I,I,I,I,I,O,O] rfl rfl (aN aC.out (by kernel_rfl)) (by decide) (fun K hK=>?_)
        have eB:=hck
        have gP:=ZW
        refine ib (w1:=?_) (by rfl) rfl ?_ ?_
        rotate_left
        .go_simp
         rfl
        refine hK.out _ _ ?_
        clear hK K eB gP
        have HB2:=aa.mk (HB1.out.setCell (p:=⟨g,k,none⟩) (by simp only;omega) (.int .i64 (vr:Int)))
        have HR2:=aa.mk (J4 HR1.out k vr)
        have hrf:=(J5 HR2.out r hrn)
        have aal:=(ints_at HR2.out r hrn)
        clear HB1 HR1
        generalize we.setCell ⟨g,k,none⟩ (.int .i64 (vr:Int))=wf at HB2 HR2 hrf aal ⊢
        refine bI 14 73 #[I,I,I,I,I,I,I,I,I,I,I,I,I,I,I,O] aC (h:=?_)
        refine dW (i:=15) (N:=none) #[I,I,I,I,I,I,I,I,I,I,I,I,I,I,I,I] rfl rfl (aN aC.out (by kernel_rfl)) (by decide) (fun K hK=>?_)
        have eB:=aal
        have gP:=hrf
        refine ib (w1:=?_) (by rfl) rfl ?_ ?_
        rotate_left
        .go_simp
         rfl
        refine hK.out _ _ ?_
        clear hK K eB gP
        have HB3:=aa.mk (HB2.out.setCell (p:=⟨g,r,none⟩) (by simp only;omega) (.int .i64 (vk:Int)))
        have HR3:=aa.mk (J4 HR2.out r vk)
        clear HB2 HR2 aal
        generalize wf.setCell ⟨g,r,none⟩ (.int .i64 (vk:Int))=wg at HB3 HR3 ⊢
        refine fF (bQ aC.out (by kernel_rfl)) ?_
        go_wp2_with fail
        go_roundw
        case rel=>exact⟨vE ys k r vr vk,r+1,k+1,by go_num,by go_num,by omega,by omega,by omega,⟨by have hsw:=HF.out.swap (by rw[HYL.out];exact hk) (by rw[HVX.out,HVK.out];exact hj);rw[HVR.out,HVK.out] at hsw;exact hsw⟩,HB3,⟨by rw[<- Nh];exact HR3.out⟩⟩
        case measure=>simp[intOf];omega
      .obtain rfl:k=n:=by omega
       have hkb:decide ((k:Int)<(k:Int))=false:=by simp
       go_wp2_with fail
       go_roundw
       case rel=>exact⟨ys,r,nx+1,rfl,by go_num,by omega,by omega,⟨by have:=HF.out;rw[<- HYL.out] at this;exact this.leave⟩,HB,HR⟩
       case measure=>simp[intOf];omega
    .obtain rfl:nx=r:=by omega
     have ac7:decide ((nx:Int)<(nx:Int))=false:=by simp
     go_wp2_with fail
     go_ret
     rw[HMS.out]
     refine⟨bP ?_,HB.out⟩
     have hfin:=HF.out.fin (zq js)
     have hcb:=yx (zq js) HND.out
     have hyl:ys.length=n:=by rw[HF.out.len,HN.out]
     rw[hyl] at hfin
     rw[Bool.eq_iff_iff,hcb,<- hfin]
     simp[Int.natCast_inj]
end Go.Proofs.YtkjoilgpmngndaaGreat
