import Derived.Test.YtdekaocdmjndaaaGreatQ8
set_option linter.all false
namespace Go.Proofs.YtdekaocdmjndaaaGreat.Ag
open ah
abbrev Rg:=mh
def Mem(l:List Rg)(d:Int):Prop:=∃r ∈ l,r.f0<=d/\d<=r.f1
def Canon(l:List Rg):Prop:=(∀r ∈ l,r.f0<=r.f1)/\l.Pairwise (λa b=>a.f1+1<b.f0)
theorem mem_cons{r:Rg}{l:List Rg}{d:Int}:Mem (r::l) d↔(r.f0<=d/\d<=r.f1)\/Mem l d:=by
 unfold Mem
 simp
theorem mem_append{l m:List Rg}{d:Int}:Mem (l++m) d↔Mem l d\/Mem m d:=by
 unfold Mem
 simp only[List.mem_append]
 constructor
 .rintro⟨r,h|h,hr⟩
  .exact .inl ⟨r,h,hr⟩
  .exact .inr ⟨r,h,hr⟩
 .rintro(⟨r,h,hr⟩|⟨r,h,hr⟩)
  .exact⟨r,.inl h,hr⟩
  .exact⟨r,.inr h,hr⟩
theorem qo{d:Int}:¬Mem [] d:=by
 unfold Mem
 simp
theorem Canon.tail{r:Rg}{l:List Rg}(h:Canon (r::l)):Canon l:=⟨λx hx=>h.1 x (List.mem_cons_of_mem _ hx),(List.pairwise_cons.1 h.2).2⟩
theorem Canon.head{r:Rg}{l:List Rg}(h:Canon (r::l)):r.f0<=r.f1:=h.1 r List.mem_cons_self
theorem Canon.above{r:Rg}{l:List Rg}{d:Int}(h:Canon (r::l))(hd:Mem l d):r.f1+1<d:=by
 obtain⟨x,hx,h1,h2⟩:=hd
 have:=(List.pairwise_cons.1 h.2).1 x hx
 omega
theorem Canon.low{r:Rg}{l:List Rg}{d:Int}(h:Canon (r::l))(hd:Mem (r::l) d):r.f0<=d:=by
 rcases mem_cons.1 hd with h1|h1
 .exact h1.1
 .have:=h.above h1
  have:=h.head
  omega
theorem Canon.ext:∀{a b:List Rg},Canon a->Canon b->(∀d,Mem a d↔Mem b d)->a=b
 |[],[],_,_,_=>rfl
 |[],y::bs,_,hb,h=>absurd ((h y.f0).2 (mem_cons.2 (.inl ⟨Int.le_refl _,hb.head⟩))) qo
 |x::az,[],ha,_,h=>absurd ((h x.f0).1 (mem_cons.2 (.inl ⟨Int.le_refl _,ha.head⟩))) qo
 |x::az,y::bs,ha,hb,h=>by
  have hx:=ha.head
  have hy:=hb.head
  have e0:x.f0=y.f0:=by
   have h1:=hb.low ((h x.f0).1 (mem_cons.2 (.inl ⟨Int.le_refl _,hx⟩)))
   have h2:=ha.low ((h y.f0).2 (mem_cons.2 (.inl ⟨Int.le_refl _,hy⟩)))
   omega
  have e1:x.f1=y.f1:=by
   rcases Int.lt_trichotomy x.f1 y.f1 with hl|he|hl
   .exfalso
    rcases mem_cons.1 ((h (x.f1+1)).2 (mem_cons.2 (.inl ⟨by omega,by omega⟩))) with h1|h1
    .omega
    .have:=ha.above h1
     omega
   .exact he
   .exfalso
    rcases mem_cons.1 ((h (y.f1+1)).1 (mem_cons.2 (.inl ⟨by omega,by omega⟩))) with h1|h1
    .omega
    .have:=hb.above h1
     omega
  have e:x=y:=by
   obtain⟨a,b⟩:=x
   obtain⟨c,d⟩:=y
   cases e0
   cases e1
   rfl
  subst e
  rw[Canon.ext ha.tail hb.tail (λd=>?_)]
  constructor
  .intro hd
   have h0:=ha.above hd
   rcases mem_cons.1 ((h d).1 (mem_cons.2 (.inr hd))) with h1|h1
   .omega
   .exact h1
  .intro hd
   have h0:=hb.above hd
   rcases mem_cons.1 ((h d).2 (mem_cons.2 (.inr hd))) with h1|h1
   .omega
   .exact h1
def vU(a b:Rg):List Rg:=if max a.f0 b.f0<=min a.f1 b.f1 then [⟨max a.f0 b.f0,min a.f1 b.f1⟩] else []
def iB:List Rg->List Rg->List Rg
 |a::az,b::bs=>vU a b++if a.f1<b.f1 then iB az (b::bs) else iB (a::az) bs
 |_,_=>[]
termination_by a b=>a.length+b.length
theorem Ro{a b:Rg}{d:Int}:Mem (vU a b) d↔(a.f0<=d/\d<=a.f1)/\(b.f0<=d/\d<=b.f1):=by
 unfold vU
 split
 .rename_i h
  rw[mem_cons]
  simp only[qo,or_false]
  constructor
  .intro⟨h1,h2⟩
   omega
  .intro⟨h1,h2⟩
   constructor<;>omega
 .rename_i h
  constructor
  .intro h1
   exact absurd h1 qo
  .intro⟨h1,h2⟩
   omega
theorem ry(a:List Rg):iB a []=[]:=by
 cases a<;>unfold iB<;>rfl
theorem rf(b:List Rg):iB [] b=[]:=by
 unfold iB
 rfl
theorem pG(a b:Rg)(az bs:List Rg):iB (a::az) (b::bs)=vU a b++if a.f1<b.f1 then iB az (b::bs) else iB (a::az) bs:=by
 conv=>lhs;unfold iB
theorem sJ:∀(n:Nat) {x y:List Rg} {r:Rg},x.length+y.length<=n->r ∈ iB x y->(∃p ∈ x,p.f0<=r.f0)/\(∃q ∈ y,q.f0<=r.f0)/\r.f0<=r.f1
 |_,[],y,r,_,h=>by simp[rf] at h
 |_,_::_,[],r,_,h=>by simp[ry] at h
 |0,_::_,_::_,r,hn,_=>by simp at hn
 |n+1,a::az,b::bs,r,hn,h=>by
  rw[pG,List.mem_append] at h
  simp only[List.length_cons] at hn
  rcases h with h|h
  .unfold vU at h
   split at h
   .rename_i hc
    obtain rfl:=List.mem_singleton.1 h
    exact⟨⟨a,List.mem_cons_self,by dsimp only;omega⟩,⟨b,List.mem_cons_self,by dsimp only;omega⟩,hc⟩
   .exact absurd h List.not_mem_nil
  .split at h
   .obtain⟨⟨p,hp,h1⟩,hq,h3⟩:=sJ n (by simp only[List.length_cons];omega) h
    exact⟨⟨p,List.mem_cons_of_mem _ hp,h1⟩,hq,h3⟩
   .obtain⟨hp,⟨q,hq,h2⟩,h3⟩:=sJ n (by simp only[List.length_cons];omega) h
    exact⟨hp,⟨q,List.mem_cons_of_mem _ hq,h2⟩,h3⟩
theorem zn:∀(n:Nat) {x y:List Rg} (d:Int),x.length+y.length<=n->Canon x->Canon y->(Mem (iB x y) d↔Mem x d/\Mem y d)
 |_,[],y,d,_,_,_=>by
  rw[rf]
  exact⟨λh=>absurd h qo,λh=>h.1⟩
 |_,_::_,[],d,_,_,_=>by
  rw[ry]
  exact⟨λh=>absurd h qo,λh=>h.2⟩
 |0,_::_,_::_,d,hn,_,_=>by simp at hn
 |n+1,a::az,b::bs,d,hn,ha,hb=>by
  simp only[List.length_cons] at hn
  rw[pG,mem_append,Ro,mem_cons,mem_cons]
  split
  .rename_i hl
   rw[zn n d (by simp only[List.length_cons];omega) ha.tail hb,mem_cons]
   constructor
   .rintro(⟨h1,h2⟩|⟨h1,h2⟩)
    .exact⟨.inl h1,.inl h2⟩
    .exact⟨.inr h1,h2⟩
   .rintro⟨h1|h1,h2⟩
    .rcases h2 with h2|h2
     .exact .inl ⟨h1,h2⟩
     .have:=hb.above h2
      omega
    .exact .inr ⟨h1,h2⟩
  .rename_i hl
   rw[zn n d (by simp only[List.length_cons];omega) ha hb.tail,mem_cons]
   constructor
   .rintro(⟨h1,h2⟩|⟨h1,h2⟩)
    .exact⟨.inl h1,.inl h2⟩
    .exact⟨h1,.inr h2⟩
   .rintro⟨h1,h2|h2⟩
    .rcases h1 with h1|h1
     .exact .inl ⟨h1,h2⟩
     .have:=ha.above h1
      omega
    .exact .inr ⟨h1,h2⟩
theorem qp:∀(n:Nat) {x y:List Rg},x.length+y.length<=n->Canon x->Canon y->Canon (iB x y)
 |_,[],y,_,_,_=>by
  rw[rf]
  exact⟨by simp,List.Pairwise.nil⟩
 |_,_::_,[],_,_,_=>by
  rw[ry]
  exact⟨by simp,List.Pairwise.nil⟩
 |0,_::_,_::_,hn,_,_=>by simp at hn
 |n+1,a::az,b::bs,hn,ha,hb=>by
  simp only[List.length_cons] at hn
  rw[pG]
  have key:∀(t:List Rg) (k:Int),Canon t->(∀r ∈ t,k+1<r.f0)->min a.f1 b.f1<=k->Canon (vU a b++t):=by
   intro t k ht hk hm
   unfold vU
   split
   .rename_i hc
    refine⟨λr hr=>?_,List.pairwise_cons.2 ⟨λr hr=>?_,ht.2⟩⟩
    .rcases List.mem_cons.1 hr with rfl|h
     .exact hc
     .exact ht.1 r h
    .have:=hk r hr
     dsimp only
     omega
   .exact ht
  split
  .rename_i hl
   refine key _ a.f1 (qp n (by simp only[List.length_cons];omega) ha.tail hb) (λr hr=>?_) (by omega)
   obtain⟨⟨p,hp,h1⟩,_,_⟩:=sJ _ (Nat.le_refl _) hr
   have:=(List.pairwise_cons.1 ha.2).1 p hp
   omega
  .rename_i hl
   refine key _ b.f1 (qp n (by simp only[List.length_cons];omega) ha hb.tail) (λr hr=>?_) (by omega)
   obtain⟨_,⟨q,hq,h1⟩,_⟩:=sJ _ (Nat.le_refl _) hr
   have:=(List.pairwise_cons.1 hb.2).1 q hq
   omega
def jN(l:List Rg)(lo hi:Int):List Rg:=
 match l.getLast? with
 |some r=>if lo<=r.f1+1 then l.dropLast++[⟨r.f0,max r.f1 hi⟩] else l++[⟨lo,hi⟩]
 |none=>[⟨lo,hi⟩]
theorem Canon.init{l:List Rg}{r:Rg}(h:Canon (l++[r])):Canon l:=⟨λx hx=>h.1 x (List.mem_append_left _ hx),(List.pairwise_append.1 h.2).1⟩
theorem Canon.concat{l:List Rg}{r:Rg}(h:Canon l)(hr:r.f0<=r.f1)(hl:∀x ∈ l,x.f1+1<r.f0):Canon (l++[r]):=
 ⟨λx hx=>by
  rcases List.mem_append.1 hx with h1|h1
  .exact h.1 x h1
  .obtain rfl:=List.mem_singleton.1 h1
   exact hr,List.pairwise_append.2 ⟨h.2,List.pairwise_singleton _ _,λa ha b hb=>by
  obtain rfl:=List.mem_singleton.1 hb
  exact hl a ha⟩⟩
theorem Ca{l:List Rg}{lo hi:Int}(h:Canon l)(hlh:lo<=hi)(hl:∀r ∈ l,r.f0<=lo):
  Canon (jN l lo hi)/\(∀r ∈ jN l lo hi,r.f0<=lo):=by
 rcases List.eq_nil_or_concat l with rfl|⟨m,r,rfl⟩
 .exact⟨⟨by simpa[jN] using hlh,by simp[jN]⟩,by simp[jN]⟩
 .rw[List.concat_eq_append] at h hl ⊢
  have hr:=h.1 r (by simp)
  have hm:∀x ∈ m,x.f1+1<r.f0:=λx hx=>(List.pairwise_append.1 h.2).2.2 x hx r (by simp)
  unfold jN
  rw[List.getLast?_concat]
  dsimp only
  split
  .rename_i hc
   rw[List.dropLast_concat]
   refine⟨h.init.concat (by dsimp only;omega) hm,λx hx=>?_⟩
   rcases List.mem_append.1 hx with h1|h1
   .exact hl x (List.mem_append_left _ h1)
   .obtain rfl:=List.mem_singleton.1 h1
    exact hl r (by simp)
  .rename_i hc
   refine⟨h.concat hlh (λx hx=>?_),λx hx=>?_⟩
   .dsimp only
    rcases List.mem_append.1 hx with h1|h1
    .have:=hm x h1
     omega
    .obtain rfl:=List.mem_singleton.1 h1
     omega
   .rcases List.mem_append.1 hx with h1|h1
    .exact hl x h1
    .obtain rfl:=List.mem_singleton.1 h1
     exact Int.le_refl _
def kU(out:List Int):List (List Rg)->Nat->List Rg->List Rg
 |[],_,l=>l
 |a::al,i,l=>kU out al (i+1) (if(i:Int) ∈ out then l else iB l a)
def nI(born:Rg)(al:List (List Rg))(out:List Int):List Rg:=kU out al 0 [born]
theorem xO{out:List Int}:∀{al:List (List Rg)} {i:Nat} {l:List Rg},(∀a ∈ al,Canon a)->Canon l->Canon (kU out al i l)
 |[],_,_,_,h=>h
 |a::al,i,l,ha,h=>by
  unfold kU
  refine xO (λx hx=>ha x (List.mem_cons_of_mem _ hx)) ?_
  split
  .exact h
  .exact qp _ (Nat.le_refl _) h (ha a List.mem_cons_self)
theorem Cc{out:List Int}{d:Int}:∀{al:List (List Rg)} {i:Nat} {l:List Rg},(∀a ∈ al,Canon a)->Canon l ->
  (Mem (kU out al i l) d↔Mem l d/\∀(k:Nat) a,al[k]?=some a->((i+k:Nat):Int) ∉ out->Mem a d)
 |[],i,l,_,_=>by simp[kU]
 |a::al,i,l,ha,h=>by
  unfold kU
  have ha':∀x ∈ al,Canon x:=λx hx=>ha x (List.mem_cons_of_mem _ hx)
  have hc:Canon (if(i:Int) ∈ out then l else iB l a):=by
   split
   .exact h
   .exact qp _ (Nat.le_refl _) h (ha a List.mem_cons_self)
  rw[Cc ha' hc]
  have e:Mem (if(i:Int) ∈ out then l else iB l a) d↔Mem l d/\((i:Int) ∉ out->Mem a d):=by
   split
   .rename_i hi
    exact⟨λh1=>⟨h1,λh2=>absurd hi h2⟩,λh1=>h1.1⟩
   .rename_i hi
    rw[zn _ d (Nat.le_refl _) h (ha a List.mem_cons_self)]
    exact⟨λh1=>⟨h1.1,λ_=>h1.2⟩,λh1=>⟨h1.1,h1.2 hi⟩⟩
  rw[e]
  constructor
  .rintro⟨⟨h1,h2⟩,h3⟩
   refine⟨h1,λk b hb hn=>?_⟩
   cases k with
   |zero=>
    obtain rfl:a=b:=by simpa using hb
    exact h2 hn
   |succ k=>
    exact h3 k b (by simpa using hb) (by rwa [show i+1+k=i+(k+1) from by omega])
  .rintro⟨h1,h2⟩
   exact⟨⟨h1,λhn=>h2 0 a (by simp) hn⟩,λk b hb hn=>h2 (k+1) b (by simpa using hb) (by rwa [show i+(k+1)=i+1+k from by omega])⟩
theorem Cg{b:Rg}(h:b.f0<=b.f1):Canon [b]:=⟨by simpa using h,List.pairwise_singleton _ _⟩
theorem oF{born:Rg}{al:List (List Rg)}{out:List Int}(hb:born.f0<=born.f1)(ha:∀a ∈ al,Canon a):Canon (nI born al out):=xO ha (Cg hb)
theorem sS{born:Rg}{al:List (List Rg)}{out:List Int}{d:Int}(hb:born.f0<=born.f1)(ha:∀a ∈ al,Canon a):
  Mem (nI born al out) d↔(born.f0<=d/\d<=born.f1)/\∀(k:Nat) a,al[k]?=some a->(k:Int) ∉ out->Mem a d:=by
 unfold nI
 rw[Cc ha (Cg hb),mem_cons]
 simp only[qo,or_false,Nat.zero_add]
theorem K4{born:Rg}{al bl:List (List Rg)}(hb:born.f0<=born.f1)(ha:∀a ∈ al,Canon a)(hp:al.Perm bl):nI born al []=nI born bl []:=by
 have hc:∀a ∈ bl,Canon a:=λa h=>ha a (hp.mem_iff.2 h)
 refine Canon.ext (oF hb ha) (oF hb hc) (λd=>?_)
 rw[sS hb ha,sS hb hc]
 have key:∀{xs ys:List (List Rg)},(∀a,a ∈ ys->a ∈ xs)->(∀(k:Nat) a,xs[k]?=some a->(k:Int) ∉ ([]:List Int)->Mem a d)->∀(k:Nat) a,ys[k]?=some a->(k:Int) ∉ ([]:List Int)->Mem a d:=by
  intro xs ys hs h k a hk _
  obtain⟨j,hj⟩:=List.getElem?_of_mem (hs a (List.mem_of_getElem? hk))
  exact h j a hj (by simp)
 exact⟨λh=>⟨h.1,key (λa h1=>hp.mem_iff.2 h1) h.2⟩,λh=>⟨h.1,key (λa h1=>hp.mem_iff.1 h1) h.2⟩⟩
def jf(test:List Int->Bool)(n:Nat):Nat->List Int->Nat->Option (List Int)
 |0,out,_=>if test out then some out else none
 |m+1,out,next=>(List.range' next (n-next)).findSome? λ(i:Nat)=>jf test n m (out++[(i:Int)]) (i+1)
def Up(a n:Nat)(s:List Int):Prop:=s.Pairwise (· < ·)/\∀x ∈ s,(a:Int)<=x/\x<n
theorem zq{test:List Int->Bool}{n:Nat}:∀{m:Nat} {out l:List Int} {next:Nat},jf test n m out next=some l->∃s,l=out++s/\s.length=m/\Up next n s/\test l=true
 |0,out,l,next,h=>by
  unfold jf at h
  split at h
  .rename_i ht
   cases h
   exact⟨[],by simp,rfl,⟨List.Pairwise.nil,by simp⟩,ht⟩
  .cases h
 |m+1,out,l,next,h=>by
  unfold jf at h
  obtain⟨i,hi,h1⟩:=List.exists_of_findSome?_eq_some h
  obtain⟨s,hs,hm,hu,ht⟩:=zq h1
  rw[List.mem_range'_1] at hi
  refine⟨(i:Int)::s,by simp[hs],by simp[hm],⟨List.pairwise_cons.2 ⟨λx hx=>?_,hu.1⟩,λx hx=>?_⟩,ht⟩
  .have:=hu.2 x hx
   omega
  .rcases List.mem_cons.1 hx with rfl|hx
   .omega
   .have:=hu.2 x hx
    omega
theorem uy{test:List Int->Bool}{n:Nat}:∀{m:Nat} {out s:List Int} {next:Nat},jf test n m out next=none->s.length=m->Up next n s->test (out++s)=false
 |0,out,s,next,h,hs,_=>by
  obtain rfl:=List.eq_nil_of_length_eq_zero hs
  unfold jf at h
  split at h
  .cases h
  .rename_i ht
   simpa using ht
 |m+1,out,[],next,h,hs,_=>by simp at hs
 |m+1,out,x::s,next,h,hs,hu=>by
  unfold jf at h
  rw[List.findSome?_eq_none_iff] at h
  have hx:=hu.2 x List.mem_cons_self
  obtain⟨i,rfl⟩:=Int.eq_ofNat_of_zero_le (show 0<=x by omega)
  have h1:=h i (by rw[List.mem_range'_1];omega)
  have:=uy (s:=s) h1 (by simpa using hs) ⟨(List.pairwise_cons.1 hu.1).2,λy hy=>⟨by
   have:=(List.pairwise_cons.1 hu.1).1 y hy
   omega,(hu.2 y (List.mem_cons_of_mem _ hy)).2⟩⟩
  simpa using this
def qM(test:List Int->Bool)(n:Nat):Option (List Int):=(List.range (n+1)).findSome? λm=>jf test n m [] 0
theorem Fq{test:List Int->Bool}{n:Nat}{l:List Int}(h:qM test n=some l):
  Up 0 n l/\l.length<=n/\test l=true/\∀s,Up 0 n s->s.length<l.length->test s=false:=by
 unfold qM at h
 rw[List.findSome?_eq_some_iff] at h
 obtain⟨l1,m,l2,h1,h2,h3⟩:=h
 obtain⟨s,hs,hm,hu,ht⟩:=zq h2
 obtain rfl:l=s:=by simpa using hs
 have hl1:l1.length=m:=by
  have:=congrArg (λt=>t[l1.length]?) h1
  simp only[List.getElem?_append_right (Nat.le_refl _),Nat.sub_self,List.getElem?_cons_zero] at this
  obtain⟨_,h4⟩:=List.getElem?_eq_some_iff.1 this
  simpa using h4
 refine⟨hu,?_,ht,λs hs hlt=>?_⟩
 .have:=congrArg List.length h1
  simp at this
  omega
 .have hm':s.length ∈ l1:=by
   have e:l1[s.length]?=some s.length:=by
    have:=congrArg (λt=>t[s.length]?) h1
    rw[List.getElem?_append_left (by omega)] at this
    rw[<- this,List.getElem?_range (by have:=congrArg List.length h1;simp at this;omega)]
   exact List.mem_of_getElem? e
  simpa using uy (h3 _ hm') rfl hs
theorem Ep:∀{xs ys:List Int},xs.Pairwise (· < ·)->(∀x ∈ xs,x ∈ ys)->xs.length<=ys.length
 |[],_,_,_=>Nat.zero_le _
 |x::xs,ys,hp,hs=>by
  have hx:=hs x List.mem_cons_self
  have h1:=Ep (xs:=xs) (ys:=ys.erase x) (List.pairwise_cons.1 hp).2 (λy hy=>by
   have hlt:=(List.pairwise_cons.1 hp).1 y hy
   exact(List.mem_erase_of_ne (by omega)).2 (hs y (List.mem_cons_of_mem _ hy)))
  rw[List.length_erase_of_mem hx] at h1
  have:=List.length_pos_of_mem hx
  rw[List.length_cons]
  omega
def wB(p:List Rg->Bool):List (List Rg)->Nat->List Int
 |[],_=>[]
 |a::al,i=>if p a then(i:Int)::wB p al (i+1) else wB p al (i+1)
theorem l8{p:List Rg->Bool}:∀{al:List (List Rg)} {i:Nat},(wB p al i).length=al.countP p
 |[],i=>rfl
 |a::al,i=>by
  unfold wB
  rw[List.countP_cons]
  split
  .rw[List.length_cons,l8]
  .rw[l8]
   rfl
theorem wy{p:List Rg->Bool}{y:Int}:∀{al:List (List Rg)} {i:Nat},y ∈ wB p al i↔∃(k:Nat) (a:List Rg),al[k]?=some a/\p a=true/\y=((i+k:Nat):Int)
 |[],i=>by simp[wB]
 |a::al,i=>by
  unfold wB
  have e:y ∈ wB p al (i+1)↔∃(k:Nat) (b:List Rg),al[k]?=some b/\p b=true/\y=((i+(k+1):Nat):Int):=by
   rw[wy]
   constructor
   .rintro⟨k,b,h1,h2,h3⟩
    exact⟨k,b,h1,h2,by omega⟩
   .rintro⟨k,b,h1,h2,h3⟩
    exact⟨k,b,h1,h2,by omega⟩
  constructor
  .intro h
   split at h
   .rename_i hp
    rcases List.mem_cons.1 h with rfl|h
    .exact⟨0,a,by simp,hp,by simp⟩
    .obtain⟨k,b,h1,h2,h3⟩:=e.1 h
     exact⟨k+1,b,by simpa using h1,h2,h3⟩
   .obtain⟨k,b,h1,h2,h3⟩:=e.1 h
    exact⟨k+1,b,by simpa using h1,h2,h3⟩
  .rintro⟨k,b,h1,h2,h3⟩
   cases k with
   |zero=>
    obtain rfl:a=b:=by simpa using h1
    rw[if_pos h2]
    exact List.mem_cons.2 (.inl (by simpa using h3))
   |succ k=>
    have:=e.2 ⟨k,b,by simpa using h1,h2,h3⟩
    split
    .exact List.mem_cons_of_mem _ this
    .exact this
theorem yH{p:List Rg->Bool}:∀{al:List (List Rg)} {i:Nat},Up i (i+al.length) (wB p al i)
 |[],i=>⟨List.Pairwise.nil,by simp[wB]⟩
 |a::al,i=>by
  have h:=yH (p:=p) (al:=al) (i:=i+1)
  have hb:∀x ∈ wB p al (i+1),((i:Nat):Int)<x/\x<((i+(a::al).length:Nat):Int):=λx hx=>by
   have:=h.2 x hx
   rw[List.length_cons]
   omega
  unfold wB
  split
  .refine⟨List.pairwise_cons.2 ⟨λx hx=>(hb x hx).1,h.1⟩,λx hx=>?_⟩
   rcases List.mem_cons.1 hx with rfl|hx
   .rw[List.length_cons]
    omega
   .have:=hb x hx
    omega
  .exact⟨h.1,λx hx=>by
    have:=hb x hx
    omega⟩
def jr(born:Rg)(al:List (List Rg))(out:List Int):Bool:=!(nI born al out).isEmpty
theorem yU{born:Rg}{al:List (List Rg)}{out:List Int}(hb:born.f0<=born.f1)(ha:∀a ∈ al,Canon a):
  jr born al out=true↔∃d,(born.f0<=d/\d<=born.f1)/\∀(k:Nat) a,al[k]?=some a->(k:Int) ∉ out->Mem a d:=by
 have h1:=λd=>sS (out:=out) (d:=d) hb ha
 have h2:=oF (out:=out) hb ha
 unfold jr
 generalize nI born al out=l at h1 h2
 constructor
 .intro h
  cases l with
  |nil=>simp at h
  |cons r l=>exact⟨r.f0,(h1 r.f0).1 (mem_cons.2 (.inl ⟨Int.le_refl _,h2.head⟩))⟩
 .rintro⟨d,hd⟩
  obtain⟨r,hr,_⟩:=(h1 d).2 hd
  cases l with
  |nil=>simp at hr
  |cons r l=>rfl
theorem Et{born:Rg}{al bl:List (List Rg)}{l:List Int}(hb:born.f0<=born.f1)(ha:∀a ∈ al,Canon a)(hp:al.Perm bl)(ht:jr born al l=true):
  ∃s,Up 0 bl.length s/\s.length<=l.length/\jr born bl s=true:=by
 classical
 obtain⟨d,hd,hm⟩:=(yU hb ha).1 ht
 have hc:∀a ∈ bl,Canon a:=λa h=>ha a (hp.mem_iff.2 h)
 let p:List Rg->Bool:=λa=>decide (¬Mem a d)
 refine⟨wB p bl 0,by simpa using yH (p:=p) (al:=bl) (i:=0),?_,(yU hb hc).2 ⟨d,hd,λk a hk hn=>?_⟩⟩
 .rw[l8,<- hp.countP_eq,<- l8 (i:=0)]
  refine Ep (yH (p:=p) (al:=al) (i:=0)).1 (λx hx=>?_)
  obtain⟨k,a,h1,h2,h3⟩:=wy.1 hx
  rw[Nat.zero_add] at h3
  subst h3
  by_cases hn:(k:Int) ∈ l
  .exact hn
  .exact absurd (hm k a h1 hn) (by simpa[p] using h2)
 .by_cases h:Mem a d
  .exact h
  .exact absurd (wy.2 ⟨k,a,hk,by simpa[p] using h,by simp⟩) hn
theorem Ku{born:Rg}{al bl:List (List Rg)}{l m:List Int}(hb:born.f0<=born.f1)(ha:∀a ∈ al,Canon a)(hp:al.Perm bl)
  (h1:qM (jr born al) al.length=some l) (h2:qM (jr born bl) bl.length=some m):l.length=m.length:=by
 have hc:∀a ∈ bl,Canon a:=λa h=>ha a (hp.mem_iff.2 h)
 obtain⟨_,_,t1,n1⟩:=Fq h1
 obtain⟨_,_,t2,n2⟩:=Fq h2
 obtain⟨s,hs,hl,ht⟩:=Et hb ha hp t1
 obtain⟨s',hs',hl',ht'⟩:=Et hb hc hp.symm t2
 rcases Nat.lt_trichotomy l.length m.length with h|h|h
 .rw[n2 s hs (by omega)] at ht
  cases ht
 .exact h
 .rw[n1 s' hs' (by omega)] at ht'
  cases ht'
theorem Dw{born:Rg}{al:List (List Rg)}(hb:born.f0<=born.f1)(ha:∀a ∈ al,Canon a):∃l,qM (jr born al) al.length=some l:=by
 cases h:qM (jr born al) al.length with
 |some l=>exact⟨l,rfl⟩
 |none=>
  exfalso
  unfold qM at h
  rw[List.findSome?_eq_none_iff] at h
  have hu:=yH (p:=λ_=>true) (al:=al) (i:=0)
  have hl:=l8 (p:=λ_=>true) (al:=al) (i:=0)
  rw[List.countP_true] at hl
  have h1:=uy (h al.length (by simp)) hl (by simpa using hu)
  rw[List.nil_append] at h1
  have:jr born al (wB (λ_=>true) al 0)=true:=(yU hb ha).2 ⟨born.f0,⟨Int.le_refl _,hb⟩,λk a hk hn=>absurd (wy.2 ⟨k,a,hk,rfl,by simp⟩) hn⟩
  rw[h1] at this
  cases this
theorem Ho{l:List Rg}{lo hi a b:Int}(h:∀r ∈ l,a<=r.f0/\r.f1<=b)(h1:a<=lo)(h2:hi<=b):∀r ∈ jN l lo hi,a<=r.f0/\r.f1<=b:=by
 rcases List.eq_nil_or_concat l with rfl|⟨m,r,rfl⟩
 .simp[jN,h1,h2]
 .rw[List.concat_eq_append] at h ⊢
  unfold jN
  rw[List.getLast?_concat]
  dsimp only
  have hr:=h r (by simp)
  split
  .rw[List.dropLast_concat]
   intro x hx
   rcases List.mem_append.1 hx with h3|h3
   .exact h x (List.mem_append_left _ h3)
   .obtain rfl:=List.mem_singleton.1 h3
    exact⟨hr.1,by dsimp only;omega⟩
  .intro x hx
   rcases List.mem_append.1 hx with h3|h3
   .exact h x h3
   .obtain rfl:=List.mem_singleton.1 h3
    exact⟨h1,h2⟩
theorem uJ{l:List Rg}{lo hi:Int}:(jN l lo hi).length<=l.length+1:=by
 rcases List.eq_nil_or_concat l with rfl|⟨m,r,rfl⟩
 .simp[jN]
 .rw[List.concat_eq_append]
  unfold jN
  rw[List.getLast?_concat]
  dsimp only
  split
  .rw[List.dropLast_concat]
   simp
  .simp
def dE:List Bool->Nat->List Rg->List Rg
 |[],_,l=>l
 |b::bs,n,l=>dE bs (n+1) (if b then jN l n n else l)
theorem mH:∀{bs:List Bool} {n:Nat} {l:List Rg},Canon l->(∀r ∈ l,r.f0<=n)->Canon (dE bs n l)
 |[],_,_,h,_=>h
 |b::bs,n,l,h,hl=>by
  unfold dE
  split
  .obtain⟨h1,h2⟩:=Ca (hi:=(n:Int)) h (Int.le_refl _) hl
   exact mH h1 (λr hr=>by
    have:=h2 r hr
    omega)
  .exact mH h (λr hr=>by
    have:=hl r hr
    omega)
theorem BJ{a b:Int}(ha:a<=0):∀{bs:List Bool} {n:Nat} {l:List Rg},((n+bs.length:Nat):Int)<=b+1->(∀r ∈ l,a<=r.f0/\r.f1<=b)->∀r ∈ dE bs n l,a<=r.f0/\r.f1<=b
 |[],_,_,_,h=>h
 |c::bs,n,l,hn,h=>by
  rw[List.length_cons] at hn
  unfold dE
  refine BJ ha (by omega) ?_
  split
  .exact Ho h (by omega) (by omega)
  .exact h
theorem oP:∀{bs:List Bool} {n:Nat} {l:List Rg},(dE bs n l).length<=l.length+bs.length
 |[],_,_=>Nat.le_refl _
 |c::bs,n,l=>by
  unfold dE
  have h:=oP (bs:=bs) (n:=n+1) (l:=if c then jN l n n else l)
  have:(if c then jN l n n else l).length<=l.length+1:=by
   split
   .exact uJ
   .omega
  rw[List.length_cons]
  omega
def jC(day:Int):List Rg->List Rg->List Rg
 |[],l=>l
 |a::az,l=>jC day az (jN l (day-365*a.f1-364) (day-365*a.f0))
theorem xQ{day:Int}:∀{az l:List Rg},az.Pairwise (λa b=>b.f1+1<a.f0)->(∀r ∈ az,r.f0<=r.f1)->Canon l->(∀r ∈ l,∀a ∈ az,r.f0<=day-365*a.f1-364)->Canon (jC day az l)
 |[],_,_,_,h,_=>h
 |a::az,l,hp,ha,h,hl=>by
  unfold jC
  have hab:=ha a List.mem_cons_self
  obtain⟨h1,h2⟩:=Ca (hi:=day-365*a.f0) h (show day-365*a.f1-364<=_ by omega) (λr hr=>hl r hr a List.mem_cons_self)
  refine xQ (List.pairwise_cons.1 hp).2 (λr hr=>ha r (List.mem_cons_of_mem _ hr)) h1 (λr hr b hb=>?_)
  have h3:=h2 r hr
  have h4:=(List.pairwise_cons.1 hp).1 b hb
  omega
def H7(day:Int)(bits:List Bool):List Rg:=jC day (dE bits 0 []).reverse []
theorem Dx(day:Int)(bits:List Bool):Canon (H7 day bits):=by
 have h:Canon (dE bits 0 []):=mH ⟨by simp,List.Pairwise.nil⟩ (by simp)
 exact xQ (List.pairwise_reverse.2 h.2) (λr hr=>h.1 r (List.mem_reverse.1 hr)) ⟨by simp,List.Pairwise.nil⟩ (by simp)
theorem Ci{day a b:Int}:∀{az l:List Rg},(∀r ∈ az,a<=day-365*r.f1-364/\day-365*r.f0<=b)->(∀r ∈ l,a<=r.f0/\r.f1<=b)->∀r ∈ jC day az l,a<=r.f0/\r.f1<=b
 |[],_,_,h=>h
 |x::az,l,hx,h=>by
  unfold jC
  have h1:=hx x List.mem_cons_self
  exact Ci (λr hr=>hx r (List.mem_cons_of_mem _ hr)) (Ho h h1.1 h1.2)
theorem o5{day:Int}:∀{az l:List Rg},(jC day az l).length<=l.length+az.length
 |[],_=>Nat.le_refl _
 |x::az,l=>by
  unfold jC
  have h:=o5 (day:=day) (az:=az) (l:=jN l (day-365*x.f1-364) (day-365*x.f0))
  have:=uJ (l:=l) (lo:=day-365*x.f1-364) (hi:=day-365*x.f0)
  rw[List.length_cons]
  omega
def DI(day:Int):List Rg->List Rg->List Rg
 |[],l=>l
 |r::rs,l=>DI day rs (if r.f0<=day then jN l ((day-min r.f1 day)/365) ((day-r.f0)/365) else l)
theorem zk{day:Int}:∀{az l:List Rg},(DI day az l).length<=l.length+az.length
 |[],_=>Nat.le_refl _
 |x::az,l=>by
  unfold DI
  have h:=zk (day:=day) (az:=az) (l:=if x.f0<=day then jN l ((day-min x.f1 day)/365) ((day-x.f0)/365) else l)
  have:(if x.f0<=day then jN l ((day-min x.f1 day)/365) ((day-x.f0)/365) else l).length<=l.length+1:=by
   split
   .exact uJ
   .omega
  rw[List.length_cons]
  omega
abbrev Ru:=iK
abbrev Re:=jh
def oW(n lo hi:Int):Bool:=decide (lo<=n)&&decide (n<=hi)
def lD(r:Ru):Bool:=oW r.f0 0 120&&oW r.f1 1 12&&oW r.f2 0 1&&oW r.f3 0 5
def Ef(n:Nat)(r:Re):Bool:=oW r.f0 (-50000) 50000&&oW r.f1 0 ((n:Int)-1)&&oW r.f2 0 140
def wN(r:Ru)(k:Int):Int:=if k<r.f0 then k else if r.f2=0 then k-k%r.f1 else(k+r.f1/2)-(k+r.f1/2)%r.f1
def tH:Nat->Nat->List Bool->List Bool
 |0,_,a=>a
 |c+1,s,a=>tH c (s+1) (a.set s true)
theorem qY:∀{c s:Nat} {a:List Bool},(tH c s a).length=a.length
 |0,_,_=>rfl
 |c+1,s,a=>by
  unfold tH
  rw[qY,List.length_set]
def qN(r:Ru)(written:Int):Nat->Nat->List Bool->List Bool
 |0,_,a=>a
 |c+1,k,a=>qN r written c (k+1) (if wN r k=written then tH ((min ((k:Int)+r.f3) 120+1-max 0 ((k:Int)-r.f3)).toNat) (max 0 ((k:Int)-r.f3)).toNat a else a)
theorem mP{r:Ru}{written:Int}:∀{c k:Nat} {a:List Bool},(qN r written c k a).length=a.length
 |0,_,_=>rfl
 |c+1,k,a=>by
  unfold qN
  rw[mP]
  split
  .exact qY
  .rfl
def oG(r:Ru)(written:Int):List Bool:=qN r written 126 0 (List.replicate 121 false)
theorem qF(r:Ru)(written:Int):(oG r written).length=121:=by
 unfold oG
 rw[mP,List.length_replicate]
def ni(rules:List Ru)(x:Re):List Rg:=H7 x.f0 (oG (rules.getD x.f1.toNat ⟨0,0,0,0⟩) x.f2)
theorem Gl(rules:List Ru)(x:Re):Canon (ni rules x):=Dx _ _
structure fe where
 born:Rg
 rules:List Ru
 recs:List Re
def fe.fault(p:fe):Int:=
 if 4<p.rules.length\/8<p.recs.length then 3
 else if oW p.born.f0 (-50000) 50000&&oW p.born.f1 (-50000) 50000&&decide (p.born.f0<=p.born.f1)&&!p.rules.isEmpty&&p.rules.all lD&&p.recs.all (Ef p.rules.length) then 0 else 1
def fe.al(p:fe):List (List Rg):=p.recs.map (ni p.rules)
def fe.bU(p:fe):List Rg×Int:=if p.fault=0 then(nI p.born p.al [],0) else([],p.fault)
def fe.mM(p:fe):List Rg×Int:=if p.bU.2=0/\p.bU.1=[] then([],9) else p.bU
def fe.on(p:fe)(day:Int):List Rg×Int:=
 if p.bU.2≠0 then([],p.bU.2) else if oW day (-50000) 50000=false then([],2) else match p.bU.1 with
 |[]=>([],9)
 |r::_=>if day<r.f0 then([],7) else(DI day p.bU.1.reverse [],0)
def fe.leave(p:fe):List Int×Int:=if p.fault=0 then((qM (jr p.born p.al) p.recs.length).getD [],0) else([],p.fault)
structure wD(p q:fe):Prop where
 born:p.born=q.born
 rules:p.rules=q.rules
 recs:p.recs.Perm q.recs
theorem OY{α:Type}{f:α->Bool}{l m:List α}(h:l.Perm m):l.all f=m.all f:=by
 rw[Bool.eq_iff_iff,List.all_eq_true,List.all_eq_true]
 exact⟨λh1 x hx=>h1 x (h.mem_iff.2 hx),λh1 x hx=>h1 x (h.mem_iff.1 hx)⟩
theorem wD.fault{p q:fe}(h:wD p q):p.fault=q.fault:=by
 unfold fe.fault
 rw[h.born,h.rules,h.recs.length_eq,OY h.recs]
theorem wD.al{p q:fe}(h:wD p q):p.al.Perm q.al:=by
 unfold fe.al
 rw[h.rules]
 exact h.recs.map _
theorem fe.pO(p:fe):∀a ∈ p.al,Canon a:=by
 intro a ha
 obtain⟨x,_,rfl⟩:=List.mem_map.1 ha
 exact Gl _ _
theorem fe.yG{p:fe}(h:p.fault=0):p.born.f0<=p.born.f1:=by
 unfold fe.fault at h
 split at h
 .cases h
 .split at h
  .rename_i h1
   simp only[Bool.and_eq_true,decide_eq_true_eq] at h1
   exact h1.1.1.1.2
  .cases h
theorem wD.bU{p q:fe}(h:wD p q):p.bU=q.bU:=by
 unfold fe.bU
 rw[<- h.fault]
 split
 .rename_i h0
  rw[<- h.born,K4 (fe.yG h0) p.pO h.al]
 .rfl
theorem wD.mM{p q:fe}(h:wD p q):p.mM=q.mM:=by
 unfold fe.mM
 rw[h.bU]
theorem wD.on{p q:fe}(h:wD p q)(day:Int):p.on day=q.on day:=by
 unfold fe.on
 rw[h.bU]
theorem wD.leave{p q:fe}(h:wD p q):p.leave.2=q.leave.2/\p.leave.1.length=q.leave.1.length:=by
 unfold fe.leave
 rw[<- h.fault]
 split
 .rename_i h0
  refine⟨rfl,?_⟩
  have hb:=fe.yG h0
  obtain⟨l,hl⟩:=Dw hb p.pO
  obtain⟨m,hm⟩:=Dw (h.born▸hb) q.pO
  have e1:p.al.length=p.recs.length:=by simp[fe.al]
  have e2:q.al.length=q.recs.length:=by simp[fe.al]
  have:=Ku (bl:=q.al) hb p.pO h.al hl (by rw[h.born];exact hm)
  rw[<- e1,<- e2,hl,hm]
  exact this
 .exact⟨rfl,rfl⟩
end Go.Proofs.YtdekaocdmjndaaaGreat.Ag
namespace Go.Proofs.YtdekaocdmjndaaaGreat
open Go.RowKit Go.Shelf ah YtdekaocdmjndaaaGreatW.aj
attribute [local go_sem] Oper.semAt_some
abbrev IS:Type:=Nat×eY
def nV(ss:List eY)(old:Int)(k:Nat):List IS:=((List.range k).filter (λi=>(aR ss i).f0==old)).map (λi=>(i,aR ss i))
theorem Kq(ss:List eY)(old:Int)(k:Nat):nV ss old (k+1)=if(aR ss k).f0=old then nV ss old k++[(k,aR ss k)] else nV ss old k:=by
 unfold nV
 rw[List.range_succ,List.filter_append,List.map_append]
 by_cases h:(aR ss k).f0=old
 .rw[if_pos h]
  simp[List.filter_cons,h]
 .rw[if_neg h]
  simp[List.filter_cons,h]
theorem Nn(ss:List eY)(old:Int)(k:Nat):(nV ss old k).length<=k:=by
 unfold nV
 rw[List.length_map]
 have:=List.length_filter_le (λi=>(aR ss i).f0==old) (List.range k)
 rwa [List.length_range] at this
def encS(x:eY):Value:= .agg #[.int .i64 x.f0,.int .i64 x.f1,.int .i64 x.f2,.int .i64 x.f3.f0,.int .i64 x.f3.f1]
def Jd(x:IS):Array Value:=#[.int .i64 (x.1:Int),encS x.2]
structure Dz(n₀:Nat)(S:Nat->Prop)(W:World)(gm gn:Nat)(u0 u1 u3:Value)(A2:Option Addr)(c2:Nat)(ss:List eY)(old:Int):Prop where
 m:aV W gm [u0,u1,.slice A2 ss.length c2,u3] 146
 n:W.cell? ⟨gn,0,none⟩=some (.int .i64 old)
 IP:Kd.C zu W A2 ss.length ss
 lm:gm<n₀/\¬S gm
 ln:gn<n₀/\¬S gn
 lr:0<ss.length->∀ad,A2=some ad->ad.block<n₀/\¬S ad.block
theorem Ct{n₀:Nat}{S:Nat->Prop}{W W':World}{A2:Option Addr}{ss:List eY}(h:Kd.C zu W A2 ss.length ss)(hl:0<ss.length->∀ad,A2=some ad->ad.block<n₀/\¬S ad.block)(k:aY n₀ S W W')(i:Nat)(hi:i<ss.length):
  ∃ad,A2=some ad/\W'.cell? (ad.add (i*5))=some (.int .i64 (iL ss i).f0)/\W'.cell? ⟨(ad.add (i*5)).block,(ad.add (i*5)).off+1,none⟩=some (.int .i64 (iL ss i).f1)/\W'.cell? ⟨(ad.add (i*5)).block,(ad.add (i*5)).off+2,none⟩=some (.int .i64 (iL ss i).f2)/\W'.cell? ⟨(ad.add (i*5)).block,(ad.add (i*5)).off+3,none⟩=some (.int .i64 (iL ss i).f3.f0)/\W'.cell? ⟨(ad.add (i*5)).block,(ad.add (i*5)).off+4,none⟩=some (.int .i64 (iL ss i).f3.f1):=by
 obtain⟨ad,e,h0,h1,h2,h3,h4⟩:=yJ h i (by omega) (by omega)
 simp only[Int.toNat_natCast] at h0 h1 h2 h3 h4
 obtain⟨hl1,hl2⟩:=hl (by omega) ad e
 have hbk:(ad.add (i*5)).block=ad.block:=by unfold Addr.add;split<;>rfl
 refine⟨ad,e,?_,?_,?_,?_,?_⟩
 .rw[k.cell (by rw[hbk];exact hl1) (by rw[hbk];exact hl2)];exact h0
 .rw[k.cell (by simp only[hbk];exact hl1) (by simp only[hbk];exact hl2)];exact h1
 .rw[k.cell (by simp only[hbk];exact hl1) (by simp only[hbk];exact hl2)];exact h2
 .rw[k.cell (by simp only[hbk];exact hl1) (by simp only[hbk];exact hl2)];exact h3
 .rw[k.cell (by simp only[hbk];exact hl1) (by simp only[hbk];exact hl2)];exact h4
theorem jb{β:Type}{B:Nat}{J:β->World->Prop}(h:AbidesFrom B J){s:β}{W:World}(o:Obj)(hj:J s W):J s (W.alloc o):=
 h s W _ none hj (jy (ae (Below.refl _ _) o) none) (by simp)
set_option maxRecDepth 100000 in
set_option maxHeartbeats 4000000 in
theorem UN(F:Fence)(n:Nat)(hf:F.fn 262)(hro:F.round=none)(hn:1<=n)(l gm gn n₀:Nat)(S:Nat->Prop)(u0 u1 u3:Value)(A2:Option Addr)(c2:Nat)(ss:List eY)(old:Int)(uz:ss.length<=281474976710656)
  (J Jx:List IS->World->Prop) (B:Nat) (YW:AbidesFrom B J)
  (hY:∀pre k W,k<ss.length->(aR ss k).f0=old->pre=nV ss old k->J pre W->YieldAt F (n-1) Tryz.prog l (Jd (k,aR ss k)) W λe W'=>
   (e= .returned (.bool true)/\J (pre++[(k,aR ss k)]) W'/\aY n₀ S W W')\/(e= .returned (.bool false)/\Jx (pre++[(k,aR ss k)]) W'))
  (W:World) (hW:n₀<=W.heap.size) (hR:Dz n₀ S W gm gn u0 u1 u3 A2 c2 ss old) (h0:J [] W):
  CallsIn F n Tryz.prog 262 #[.func (.yield l) #[] #[],.pointer (some ⟨gm,0,none⟩),.pointer (some ⟨gn,0,none⟩)] W λe W'=>(∃v,e= .returned v) /\
   ((∃ys,ys=nV ss old ss.length/\J ys W')\/(∃pre,True/\Jx pre W')):=by
 have HR:=aa.mk hR
 have HY:=aa.mk hY
 have WJ:=aa.mk YW
 have hz2:=hR.m.cell 2
 simp only[dZ,dY] at hz2
 clear hR hY YW
 refine callsIn_of_wp Tryz.func262 rfl hf ?_ hro
 simp only[Tryz.ntmps262,List.size_toArray,List.length_cons,List.length_nil,Nat.reduceAdd,Nat.reduceSub,Array.replicate_succ,Array.replicate_zero,List.push_toArray,List.append_toArray,List.nil_append,List.cons_append]
 gi_wp2
 gi_loopw [9] (λi wr=>∃k:Nat,k<=ss.length/\i= .int .i64 k/\aa (J (nV ss old k) wr)/\aa (aY n₀ S W wr))
  (λi _=>ss.length-(intOf i).toNat)
 case atStart=>exact⟨0,Nat.zero_le _,rfl,⟨h0⟩,⟨aY.refl _ _ _⟩⟩
 case round=>
  obtain⟨k,hk,rfl,HJ,HK⟩:=hrel
  by_cases hlt:k<ss.length
  .obtain⟨ad,e,h0,h1,h2,h3,h4⟩:=Ct HR.out.IP HR.out.lr HK.out k hlt
   cases e
   have hyy:=HY.out (nV ss old k) k
   have hst:=Kq ss old k
   have hrr:aR ss k=iL ss (k:Int):=rfl
   rw[hrr] at hyy hst
   obtain⟨r,hr⟩:∃r,iL ss (k:Int)=r:=⟨_,rfl⟩
   rw[hr] at h0 h1 h2 h3 h4 hyy hst
   have HYY:=aa.mk hyy
   clear hr hrr hyy
   have hgn:=(HK.out.cell (p:=⟨gn,0,none⟩) HR.out.ln.1 HR.out.ln.2).trans HR.out.n
   have aex:gn<wr.heap.size:=World.block_lt_of_cell? _ _ hgn
   have TK:=aa.mk (Nat.le_trans hW HK.out.size)
   have HJ2:=aa.mk (jb WJ.out (.cells #[.int .i64 r.f0,.int .i64 r.f1,.int .i64 r.f2,.int .i64 r.f3.f0,.int .i64 r.f3.f1] 142) HJ.out)
   by_cases p0:r.f0=old
   .have Sy:(r.f0==old)=true:=beq_iff_eq.2 p0
    rw[if_pos p0] at hst
    have HST:=aa.mk hst
    obtain⟨fn,tmps,assign,body,hy,hRR⟩:=HYY.out _ hlt p0 rfl HJ2.out
    dsimp only[Jd,encS] at hy
    clear p0 hst
    gi_wp2_with fail
    refine hRR.mono ?_
    rintro e W3 (⟨rfl,hJ3,hk3⟩|⟨rfl,hJx3⟩)
    .gi_wp2_with fail
     go_roundw
     case rel=>exact⟨k+1,by omega,by go_num,⟨by rw[HST.out];exact hJ3⟩,⟨(HK.out.alloc TK.out _).trans hk3⟩⟩
     case measure=>simp[intOf];omega
    .gi_wp2_with fail
     refine bodyPost_ret (results_none rfl _ _ _) rfl ?_
     exact⟨⟨_,rfl⟩,.inr ⟨_,trivial,hJx3⟩⟩
   .have Sy:(r.f0==old)=false:=beq_eq_false_iff_ne.2 p0
    rw[if_neg p0] at hst
    have HST:=aa.mk hst
    clear p0 hst
    gi_wp2_with fail
    refine⟨λ_ h=>(by cases h),?_⟩
    gi_wp2_with fail
    go_roundw
    case rel=>exact⟨k+1,by omega,by go_num,⟨by rw[HST.out];exact HJ2.out⟩,⟨HK.out.alloc TK.out _⟩⟩
    case measure=>simp[intOf];omega
  .obtain rfl:k=ss.length:=by omega
   gi_wp2
   go_end0
   exact⟨⟨_,rfl⟩,.inl ⟨_,rfl,HJ.out⟩⟩
def Ir(ss:List eY)(old:Int)(x:IS):Prop:=x.1<ss.length/\x.2=aR ss x.1/\x.2.f0=old
theorem Nl(F:Fence)(n:Nat)(hf:F.fn 262)(hro:F.round=none)(hn:1<=n)(gm gn n₀:Nat)(S:Nat->Prop)(u0 u1 u3:Value)(A2:Option Addr)(c2:Nat)(ss:List eY)(old:Int)(uz:ss.length<=281474976710656)
  (w:World) (hw:n₀<=w.heap.size) (hR:Dz n₀ S w gm gn u0 u1 u3 A2 c2 ss old):
  SeqStopsK F n Tryz.prog 262 #[.pointer (some ⟨gm,0,none⟩),.pointer (some ⟨gn,0,none⟩)] (λx:{x // Ir ss old x}=>Jd x.1) (aY n₀ S) (λys=>ys.map (·.1)=nV ss old ss.length) (λ_=>True) ss.length w:=λl J Jx W hW hJ hJx hY h0=>by
 have hk:aY n₀ S w W:=aY.of_below hW hw
 refine(UN F n hf hro hn l gm gn n₀ S u0 u1 u3 A2 c2 ss old uz (λpre W=>∃ys:List {x // Ir ss old x},ys.map (·.1)=pre/\J ys W) (λpre W=>∃ys:List {x // Ir ss old x},ys.map (·.1)=pre/\Jx ys W) W.heap.size ?_ ?_ W (Nat.le_trans hw hW.size) ?_ ⟨[],rfl,h0⟩).mono ?_
 .rintro s A B row ⟨ys,e,hj⟩ hg hr
  exact⟨ys,e,hJ ys A B row hj hg hr⟩
 .rintro pre k W' hkl hko he ⟨ys,rfl,hj⟩
  have hlen:ys.length<ss.length:=by
   have:=Nn ss old k
   rw[<- he,List.length_map] at this
   omega
  refine(hY ys ⟨(k,aR ss k),hkl,rfl,hko⟩ W' hj hlen).mono ?_
  rintro e W'' (⟨rfl,h1,h2⟩|⟨rfl,h1⟩)
  .exact .inl ⟨rfl,⟨_,by simp,h1⟩,h2⟩
  .exact .inr ⟨rfl,⟨_,by simp,h1⟩⟩
 .exact⟨((hk.block gm hR.lm.1 hR.lm.2).trans hR.m),(hk.cell (p:=⟨gn,0,none⟩) hR.ln.1 hR.ln.2).trans hR.n,Kd.aC hR.IP hW,hR.lm,hR.ln,hR.lr⟩
 .rintro e W' ⟨hv,⟨ys,he,zs,h1,h2⟩|⟨pre,_,zs,h1,h2⟩⟩
  .exact⟨hv,.inl ⟨zs,h1.trans he,h2⟩⟩
  .exact⟨hv,.inr ⟨zs,trivial,h2⟩⟩
theorem Sz(F:Fence)(n:Nat)(hf:F.fn 205)(hro:F.round=none)(u0 u1 u2 u3:Value)(old:Int)(hu0:u0.cells=#[u0])(hu1:u1.cells=#[u1])(hu2:u2.cells=#[u2])(hu3:u3.cells=#[u3])(w:World):
  CallsIn F n Tryz.prog 205 #[.agg #[u0,u1,u2,u3],.int .i64 old] w λe w'=>e= .returned (.func (.func 262) #[] #[.pointer (some ⟨w.heap.size,0,none⟩),.pointer (some ⟨w.heap.size+1,0,none⟩)]) /\
   w'=(w.alloc (.cells #[u0,u1,u2,u3] 146)).alloc (.cells #[.int .i64 old] 3):=by
 refine callsIn_of_wp Tryz.func205 rfl hf ?_ hro
 simp only[Tryz.ntmps205,List.size_toArray,List.length_cons,List.length_nil,Nat.reduceAdd,Nat.reduceSub,Array.replicate_succ,Array.replicate_zero,List.push_toArray,List.append_toArray,List.nil_append,List.cons_append]
 gi_wp2
 go_ret
 exact⟨rfl,rfl⟩
end Go.Proofs.YtdekaocdmjndaaaGreat
