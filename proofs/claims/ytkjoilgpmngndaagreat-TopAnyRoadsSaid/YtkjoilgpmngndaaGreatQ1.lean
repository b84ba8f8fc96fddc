import Derived.Laws.BitsLemmas
import Derived.OrdersHeld
import Derived.Test.YtkjoilgpmngndaaGreatQ0
set_option linter.all false
namespace Go.Proofs.YtkjoilgpmngndaaGreatW.aJ
section
variable {P:Program} {ops:Array Oper} {Q:Exit->Act->World->Prop} {md:Region.Mode} {S:World->Prop} {ds:List Nat}
def Region.mg(md:Region.Mode)(ops:Array Oper)(i:Nat):Nat->Nat->Bool
 |0,_=>false
 |fuel+1,d=>match ops[d]? with
  |some o=>o.after.any λe=>Region.binds md e&&(e.on==i||Region.mg md ops i fuel e.on)
  |none=>false
def Region.xZ(md:Region.Mode)(ops:Array Oper)(listed:Array Bool):Bool:=
 (List.range ops.size).all λj=>!listed.getD j false||match ops[j]? with
  |some o=>o.after.all λe=>!Region.binds md e||listed.getD e.on false
  |none=>true
def Region.lastB(md:Region.Mode)(ops:Array Oper)(listed:Array Bool)(ds:List Nat)(i:Nat):Bool:=
 ds.all λd=>listed.getD d true||Region.mg md ops i ops.size d
def jm(md:Region.Mode)(ops:Array Oper)(listed:Array Bool):Prop:=
 ∀j oj,ops[j]?=some oj->listed.getD j false=true->∀e ∈ oj.after,Region.binds md e=true->listed.getD e.on false=true
theorem Region.xY{listed:Array Bool}(h:Region.xZ md ops listed=true):jm md ops listed:=by
 intro j oj hj hl e he hb
 have hlt:j<ops.size:=(Array.getElem?_eq_some_iff.1 hj).1
 have h1:=List.all_eq_true.1 h j (List.mem_range.2 hlt)
 simp only[hl,hj,Bool.not_true,Bool.false_or] at h1
 have h2:=Array.all_eq_true_iff_forall_mem.1 h1 e he
 simpa[hb] using h2
theorem jm.set{listed:Array Bool}{i:Nat}(h:jm md ops listed)(hi:i ∈ Region.ready md ops listed):jm md ops (listed.setIfInBounds i true):=by
 obtain⟨_,oi,hoi,hall⟩:=mem_ready.1 hi
 intro j oj hj hl e he hb
 by_cases hij:i=j
 .subst hij
  have:oj=oi:=Option.some.inj (hj.symm.trans hoi)
  subst this
  exact getD_set_true (hall e he hb)
 .rw[getD_set_ne false hij] at hl
  exact getD_set_true (h j oj hj hl e he hb)
theorem Region.xq{listed:Array Bool}{i:Nat}(hc:jm md ops listed):∀(fuel d:Nat),Region.mg md ops i fuel d=true->listed.getD d false=true->listed.getD i false=true
 |0,_,h,_=>by simp[Region.mg] at h
 |fuel+1,d,h,hl=>by
  unfold Region.mg at h
  cases ho:ops[d]? with
  |none=>rw[ho] at h;simp at h
  |some o=>
   rw[ho] at h
   obtain⟨e,he,h1⟩:=Array.any_eq_true'.1 h
   simp only[Bool.and_eq_true,Bool.or_eq_true,beq_iff_eq] at h1
   have hle:=hc d o ho hl e he h1.1
   rcases h1.2 with h2|h2
   .rw[<- h2];exact hle
   .exact Region.xq hc fuel e.on h2 hle
theorem Region.sV{listed:Array Bool}{i d fuel:Nat}(hc:jm md ops listed)(hr:Region.mg md ops i fuel d=true)(hun:listed.getD i true=false):d ∉ Region.ready md ops listed:=by
 intro hd
 obtain⟨_,o,ho,hall⟩:=mem_ready.1 hd
 have hi:listed.getD i false=true:=by
  cases fuel with
  |zero=>simp[Region.mg] at hr
  |succ n=>
   unfold Region.mg at hr
   rw[ho] at hr
   obtain⟨e,he,h1⟩:=Array.any_eq_true'.1 hr
   simp only[Bool.and_eq_true,Bool.or_eq_true,beq_iff_eq] at h1
   have hle:=hall e he h1.1
   rcases h1.2 with h2|h2
   .rw[<- h2];exact hle
   .exact Region.xq hc n e.on h2 hle
 rcases Nat.lt_or_ge i listed.size with h'|h'
 .simp[h'] at hun hi
  rw[hun] at hi
  cases hi
 .simp[Array.getElem?_eq_none h'] at hun
def bC(P:Program)(md:Region.Mode)(ops:Array Oper)(Q:Exit->Act->World->Prop)(S:World->Prop)(ds:List Nat):Nat->Array Bool->Act->World->Prop
 |0,listed,a,w=>Region.ready md ops listed=[]/\Q .normal a w
 |fuel+1,listed,a,w=>
  (Region.ready md ops listed=[]->Q .normal a w) /\
  ∀i ∈ Region.ready md ops listed,wpOp P ops Q i (λa' w'=>(i ∉ ds->S w->S w')/\bC P md ops Q S ds fuel (listed.setIfInBounds i true) a' w') a w
theorem ng:∀(fuel:Nat) (listed:Array Bool) (a:Act) (w:World),bC P md ops Q S ds fuel listed a w->wpAny P md ops Q fuel listed a w
 |0,_,_,_,h=>h
 |fuel+1,_,_,_,h=>⟨h.1,λi hi=>wpOp_mono (λa' w' h'=>ng fuel _ a' w' h'.2) (h.2 i hi)⟩
theorem zK{i:Nat}{oi:Oper}{v:Value}(hi:ops[i]?=some oi)(hsel:∀(j:Nat) (o:Oper) cs b,ops[j]?=some o->o.op≠ .select cs b)
  (hQ:∀c a w,Q (.panic c) (a.put oi.dst v) w->Q (.panic c) a w) (n:Nat):
  ∀(fuel:Nat) (listed:Array Bool) (a:Act) (w:World),
   (∀j oj,ops[j]?=some oj->j≠i->listed.getD j true=false->(∀e ∈ oj.after,Region.binds md e=true->e.on≠i)->oi.apart ops oj=true) ->
   jm md ops listed->(∀d ∈ ds,listed.getD d true=false->Region.mg md ops i n d=true) ->
   i ∈ Region.ready md ops listed->YieldsIf P ops S oi v a->S w ->
   bC P md ops Q S ds fuel (listed.setIfInBounds i true) (a.put oi.dst v) w->bC P md ops Q S ds (fuel+1) listed a w:=by
 intro fuel
 induction fuel with
 |zero=>
  intro listed a w _ _ _ hr hy hS H
  refine⟨λh=>(by rw[h] at hr;cases hr),λj hj=>?_⟩
  by_cases hji:j=i
  .subst hji;exact hy.wpOp hi hS ⟨λ_ h=>h,H⟩
  .have:=ready_mono hj hji
   rw[H.1] at this
   cases this
 |succ fuel ih=>
  intro listed a w hfree hc hd hr hy hS H
  refine⟨λh=>(by rw[h] at hr;cases hr),λj hj=>?_⟩
  by_cases hji:j=i
  .subst hji;exact hy.wpOp hi hS ⟨λ_ h=>h,H⟩
  .have h1:=H.2 j (ready_mono hj hji)
   obtain⟨hjun,oj,hoj,hall⟩:=mem_ready.1 hj
   have yV:=(mem_ready.1 hr).1
   have hnot:∀e ∈ oj.after,Region.binds md e=true->e.on≠i:=λe he hb heq=>by
    have h1:=hall e he hb
    rw[heq] at h1
    rcases Nat.lt_or_ge i listed.size with h'|h'
    .simp[h'] at yV h1;rw[yV] at h1;cases h1
    .simp[Array.getElem?_eq_none h'] at h1
   have hjd:j ∉ ds:=λhm=>Region.sV hc (hd j hm hjun) yV hj
   have h2:=wpOp_putIf hoj (hfree j oj hoj hji hjun hnot) (λcs b=>hsel i oi cs b hi) (λcs b=>hsel j oj cs b hoj) hQ hy h1
   have hfree':∀k ok,ops[k]?=some ok->k≠i->(listed.setIfInBounds j true).getD k true=false ->
     (∀e ∈ ok.after,Region.binds md e=true->e.on≠i)->oi.apart ops ok=true:=λk ok hk hki hun hno=>by
    refine hfree k ok hk hki ?_ hno
    by_cases hjk:j=k
    .subst hjk;exact hjun
    .rw[getD_set_ne true hjk] at hun;exact hun
   have hd':∀d ∈ ds,(listed.setIfInBounds j true).getD d true=false->Region.mg md ops i n d=true:=λd hm hun=>by
    refine hd d hm ?_
    by_cases hjk:j=d
    .subst hjk;exact hjun
    .rw[getD_set_ne true hjk] at hun;exact hun
   refine wpOp_mono (λa' w' h3=>⟨h3.2.1,ih (listed.setIfInBounds j true) a' w' hfree' (hc.set hj) hd' (ready_mono hr (Ne.symm hji)) h3.1 (h3.2.1 hjd hS) ?_⟩) h2
   rw[Array.setIfInBounds_comm _ _ hji]
   exact h3.2.2
theorem Df{i:Nat}{oi:Oper}{v:Value}(hi:ops[i]?=some oi)(hsel:∀(j:Nat) (o:Oper) cs b,ops[j]?=some o->o.op≠ .select cs b)
  (hQ:∀c a w,Q (.panic c) (a.put oi.dst v) w->Q (.panic c) a w):
  ∀(fuel:Nat) (listed:Array Bool) (a:Act) (w:World),
   (∀j oj,ops[j]?=some oj->j≠i->listed.getD j true=false->(∀e ∈ oj.after,Region.binds md e=true->e.on≠i)->oi.apart ops oj=true) ->
   i ∈ Region.ready md ops listed->Yields P ops oi v a ->
   bC P md ops Q S ds fuel (listed.setIfInBounds i true) (a.put oi.dst v) w->bC P md ops Q S ds (fuel+1) listed a w:=by
 intro fuel
 induction fuel with
 |zero=>
  intro listed a w _ hr hy H
  refine⟨λh=>(by rw[h] at hr;cases hr),λj hj=>?_⟩
  by_cases hji:j=i
  .subst hji;exact(hy.yieldsIf (S:=λ_=>True)).wpOp hi trivial ⟨λ_ h=>h,H⟩
  .have:=ready_mono hj hji
   rw[H.1] at this
   cases this
 |succ fuel ih=>
  intro listed a w hfree hr hy H
  refine⟨λh=>(by rw[h] at hr;cases hr),λj hj=>?_⟩
  by_cases hji:j=i
  .subst hji;exact(hy.yieldsIf (S:=λ_=>True)).wpOp hi trivial ⟨λ_ h=>h,H⟩
  .have h1:=H.2 j (ready_mono hj hji)
   obtain⟨hjun,oj,hoj,hall⟩:=mem_ready.1 hj
   have yV:=(mem_ready.1 hr).1
   have hnot:∀e ∈ oj.after,Region.binds md e=true->e.on≠i:=λe he hb heq=>by
    have h1:=hall e he hb
    rw[heq] at h1
    rcases Nat.lt_or_ge i listed.size with h'|h'
    .simp[h'] at yV h1;rw[yV] at h1;cases h1
    .simp[Array.getElem?_eq_none h'] at h1
   have h2:=wpOp_put hoj (hfree j oj hoj hji hjun hnot) (λcs b=>hsel i oi cs b hi) (λcs b=>hsel j oj cs b hoj) hQ hy h1
   have hfree':∀k ok,ops[k]?=some ok->k≠i->(listed.setIfInBounds j true).getD k true=false ->
     (∀e ∈ ok.after,Region.binds md e=true->e.on≠i)->oi.apart ops ok=true:=λk ok hk hki hun hno=>by
    refine hfree k ok hk hki ?_ hno
    by_cases hjk:j=k
    .subst hjk;exact hjun
    .rw[getD_set_ne true hjk] at hun;exact hun
   refine wpOp_mono (λa' w' h3=>⟨h3.2.1,ih (listed.setIfInBounds j true) a' w' hfree' (ready_mono hr (Ne.symm hji)) h3.1 ?_⟩) h2
   rw[Array.setIfInBounds_comm _ _ hji]
   exact h3.2.2
theorem AO{i:Nat}{oi:Oper}{v:Value}{fuel:Nat}{listed:Array Bool}{a:Act}{w:World}(hi:ops[i]?=some oi)
  (hs:Region.noSelect ops=true) (hf:Region.free md ops listed i=true) (hr:(Region.ready md ops listed).contains i=true)
  (hc:Region.xZ md ops listed=true) (hl:Region.lastB md ops listed ds i=true)
  (hQ:∀c a w,Q (.panic c) (a.put oi.dst v) w->Q (.panic c) a w) (hy:YieldsIf P ops S oi v a) (hS:S w)
  (h:bC P md ops Q S ds fuel (listed.setIfInBounds i true) (a.put oi.dst v) w):bC P md ops Q S ds (fuel+1) listed a w:=
 zK hi (Region.noSelect_spec hs) hQ ops.size fuel listed a w (Region.free_spec hi hf) (Region.xY hc)
  (λd hm hun=>by have:=List.all_eq_true.1 hl d hm;rw[hun] at this;simpa using this) (by simpa using hr) hy hS h
theorem Dg{rs:List Nat}{fuel:Nat}{listed:Array Bool}{a:Act}{w:World}(hr:Region.ready md ops listed=rs)(hne:rs≠[])
  (h:∀i ∈ rs,wpOp P ops Q i (λa' w'=>(i ∉ ds->S w->S w')/\bC P md ops Q S ds fuel (listed.setIfInBounds i true) a' w') a w):bC P md ops Q S ds (fuel+1) listed a w:=
 ⟨λh0=>absurd (hr▸h0) hne,hr▸h⟩
theorem AP{listed:Array Bool}{a:Act}{w:World}(hr:Region.ready md ops listed=[])(h:Q .normal a w):
  ∀fuel,bC P md ops Q S ds fuel listed a w
 |0=>⟨hr,h⟩
 |_+1=>⟨λ_=>h,by rw[hr];simp⟩
theorem AL{id:Nat}{a:Act}{w:World}(hm:P.follows .mixedOrders=true)
  (h:bC P .any ops Q S ds ops.size (Array.replicate ops.size false) a {w with drawn:=w.drawn+1}):(Code.region id ops true).wp P Q a w:=
 wp_region_any hm (ng _ _ _ _ h)
end
section
variable {P:Program} {ops:Array Oper} {Q:Exit->Act->World->Prop} {md:Region.Mode} {S:World->Prop} {ds:List Nat}
def eX(P:Program)(md:Region.Mode)(ops:Array Oper)(Q:Exit->Act->World->Prop)(S:World->Prop)(ds:List Nat)(fuel:Nat)(listed:Array Bool)(a:Act)(w:World)(rs:List Nat):Prop:=
 ∀i ∈ rs,wpOp P ops Q i (λa' w'=>(i ∉ ds->S w->S w')/\bC P md ops Q S ds fuel (listed.setIfInBounds i true) a' w') a w
theorem eX.nil{fuel:Nat}{listed:Array Bool}{a:Act}{w:World}:eX P md ops Q S ds fuel listed a w []:=λ_ h=>by cases h
theorem eX.cons{fuel:Nat}{listed:Array Bool}{a:Act}{w:World}{i:Nat}{o:Oper}{rs:List Nat}(ho:ops[i]?=some o)(hd:i ∉ ds)
  (h:∀K':Act->World->Prop,Shut (∀a w,S w->(S w->bC P md ops Q S ds fuel (listed.setIfInBounds i true) a w)->K' a w)->if Region.wanted o (yielded ops a.tmps)=true then Oper.wp P o a w K' Q else K' (a.put o.dst undef) w)
  (hs:eX P md ops Q S ds fuel listed a w rs):eX P md ops Q S ds fuel listed a w (i::rs):=λj hj=>by
 rcases List.mem_cons.1 hj with rfl|hj
 .exact wpOp_step ho (λK' hK=>h K' (λa w hS hW=>hK a w ⟨λ_ _=>hS,hW hS⟩))
 .exact hs j hj
theorem eX.O4{fuel:Nat}{listed:Array Bool}{a:Act}{w:World}{i:Nat}{o:Oper}{rs:List Nat}(ho:ops[i]?=some o)(hd:i ∈ ds)
  (h:∀K':Act->World->Prop,Shut (∀a w,bC P md ops Q S ds fuel (listed.setIfInBounds i true) a w->K' a w)->if Region.wanted o (yielded ops a.tmps)=true then Oper.wp P o a w K' Q else K' (a.put o.dst undef) w)
  (hs:eX P md ops Q S ds fuel listed a w rs):eX P md ops Q S ds fuel listed a w (i::rs):=λj hj=>by
 rcases List.mem_cons.1 hj with rfl|hj
 .exact wpOp_step ho (λK' hK=>h K' (λa w hW=>hK a w ⟨λhn=>absurd hd hn,hW⟩))
 .exact hs j hj
theorem lF{rs:List Nat}{fuel:Nat}{listed:Array Bool}{a:Act}{w:World}(hr:Region.ready md ops listed=rs)(hne:rs≠[])
  (h:eX P md ops Q S ds fuel listed a w rs):bC P md ops Q S ds (fuel+1) listed a w:=Dg hr hne h
theorem dB{id n:Nat}{a:Act}{w:World}(l:Array Bool)(hm:P.follows .mixedOrders=true)(hn:ops.size=n)(hl:Array.replicate n false=l)(hS:S w.drew)
  (h:S w.drew->bC P .any ops Q S ds n l a w.drew):(Code.region id ops true).wp P Q a w:=by
 subst hn
 subst hl
 exact AL hm (h hS)
def takeB(md:Region.Mode)(ops:Array Oper)(ds:List Nat)(l l':Array Bool)(i:Nat):Bool:=
 Region.noSelect ops&&Region.free md ops l i&&(Region.ready md ops l).contains i&&Region.xZ md ops l&&Region.lastB md ops l ds i&&(l.setIfInBounds i true==l')
theorem Qi{i:Nat}{N:Option Tmp}{oi:Oper}{v:Value}{fuel:Nat}{l:Array Bool}{a:Act}{w:World}(l':Array Bool)(hi:ops[i]?=some oi)(hN:oi.dst=N)(hc:takeB md ops ds l l' i=true)
  (hQ:∀c a w,Q (.panic c) (a.put oi.dst v) w->Q (.panic c) a w) (hy:YieldsIf P ops S oi v a) (hS:S w) {a':Act} (ha:a.put N v=a')
  (h:bC P md ops Q S ds fuel l' a' w):bC P md ops Q S ds (fuel+1) l a w:=by
 subst ha
 subst hN
 simp only[takeB,Bool.and_eq_true,beq_iff_eq] at hc
 obtain⟨⟨⟨⟨⟨h1,h2⟩,h3⟩,h4⟩,h5⟩,h6⟩:=hc
 subst h6
 exact AO hi h1 h2 h3 h4 h5 hQ hy hS h
def Pt(md:Region.Mode)(ops:Array Oper)(l l':Array Bool)(i:Nat):Bool:=
 Region.noSelect ops&&Region.free md ops l i&&(Region.ready md ops l).contains i&&(l.setIfInBounds i true==l')
theorem pW{i:Nat}{N:Option Tmp}{oi:Oper}{v:Value}{fuel:Nat}{l:Array Bool}{a:Act}{w:World}(l':Array Bool)(hi:ops[i]?=some oi)(hN:oi.dst=N)(hc:Pt md ops l l' i=true)
  (hQ:∀c a w,Q (.panic c) (a.put oi.dst v) w->Q (.panic c) a w) (hy:Yields P ops oi v a) {a':Act} (ha:a.put N v=a')
  (h:bC P md ops Q S ds fuel l' a' w):bC P md ops Q S ds (fuel+1) l a w:=by
 subst ha
 subst hN
 simp only[Pt,Bool.and_eq_true,beq_iff_eq] at hc
 obtain⟨⟨⟨h1,h2⟩,h3⟩,h6⟩:=hc
 subst h6
 exact Df hi (Region.noSelect_spec h1) hQ fuel l a w (Region.free_spec hi h2) (by simpa using h3) hy h
def qy(md:Region.Mode)(ops:Array Oper)(l l':Array Bool)(i:Nat):Bool:=(Region.ready md ops l==[i])&&(l.setIfInBounds i true==l')
theorem dO{i:Nat}{N:Option Tmp}{oi:Oper}{fuel:Nat}{l:Array Bool}{a:Act}{w:World}(l':Array Bool)(hi:ops[i]?=some oi)(hN:oi.dst=N)(hc:qy md ops l l' i=true)(hd:i ∉ ds)
  (h:∀K:Act->World->Prop,Shut (∀a' w',S w'->(S w'->bC P md ops Q S ds fuel l' a' w')->K a' w')->if Region.wanted oi (yielded ops a.tmps)=true then Oper.wp P oi a w K Q else K (a.put N undef) w):
  bC P md ops Q S ds (fuel+1) l a w:=by
 subst hN
 simp only[qy,Bool.and_eq_true,beq_iff_eq] at hc
 obtain⟨h1,h2⟩:=hc
 subst h2
 exact lF h1 (by simp) (eX.cons hi hd (λK hK=>h K hK) eX.nil)
theorem dE{i:Nat}{N:Option Tmp}{oi:Oper}{fuel:Nat}{l:Array Bool}{a:Act}{w:World}(l':Array Bool)(hi:ops[i]?=some oi)(hN:oi.dst=N)(hc:qy md ops l l' i=true)(hd:i ∈ ds)
  (h:∀K:Act->World->Prop,Shut (∀a' w',bC P md ops Q S ds fuel l' a' w'->K a' w')->if Region.wanted oi (yielded ops a.tmps)=true then Oper.wp P oi a w K Q else K (a.put N undef) w):
  bC P md ops Q S ds (fuel+1) l a w:=by
 subst hN
 simp only[qy,Bool.and_eq_true,beq_iff_eq] at hc
 obtain⟨h1,h2⟩:=hc
 subst h2
 exact lF h1 (by simp) (eX.O4 hi hd (λK hK=>h K hK) eX.nil)
theorem dK{l:Array Bool}{a:Act}{w:World}{n:Nat}(hr:(Region.ready md ops l==[])=true)(h:Q .normal a w):bC P md ops Q S ds n l a w:=AP (by simpa using hr) h n
theorem qO{i j:Nat}{Ni Nj:Option Tmp}{oi oj:Oper}{fuel:Nat}{l:Array Bool}{a:Act}{w:World}(li lj:Array Bool)(hi:ops[i]?=some oi)(hj:ops[j]?=some oj)(hNi:oi.dst=Ni)(hNj:oj.dst=Nj)
  (hc:(Region.ready md ops l==[i,j]&&l.setIfInBounds i true==li&&l.setIfInBounds j true==lj)=true) (hdi:i ∉ ds) (hdj:j ∉ ds)
  (h1:∀K:Act->World->Prop,Shut (∀a' w',S w'->(S w'->bC P md ops Q S ds fuel li a' w')->K a' w')->if Region.wanted oi (yielded ops a.tmps)=true then Oper.wp P oi a w K Q else K (a.put Ni undef) w)
  (h2:∀K:Act->World->Prop,Shut (∀a' w',S w'->(S w'->bC P md ops Q S ds fuel lj a' w')->K a' w')->if Region.wanted oj (yielded ops a.tmps)=true then Oper.wp P oj a w K Q else K (a.put Nj undef) w):
  bC P md ops Q S ds (fuel+1) l a w:=by
 subst hNi
 subst hNj
 simp only[Bool.and_eq_true,beq_iff_eq] at hc
 obtain⟨⟨h3,h4⟩,h5⟩:=hc
 subst h4
 subst h5
 exact lF h3 (by simp) (eX.cons hi hdi (λK hK=>h1 K hK) (eX.cons hj hdj (λK hK=>h2 K hK) eX.nil))
theorem EF{i j k:Nat}{Ni Nj Nk:Option Tmp}{oi oj ok:Oper}{fuel:Nat}{l:Array Bool}{a:Act}{w:World}(li lj lk:Array Bool)(hi:ops[i]?=some oi)(hj:ops[j]?=some oj)(hk:ops[k]?=some ok)(hNi:oi.dst=Ni)(hNj:oj.dst=Nj)(hNk:ok.dst=Nk)
  (hc:(Region.ready md ops l==[i,j,k]&&l.setIfInBounds i true==li&&l.setIfInBounds j true==lj&&l.setIfInBounds k true==lk)=true) (hdi:i ∉ ds) (hdj:j ∉ ds) (hdk:k ∉ ds)
  (h1:∀K:Act->World->Prop,Shut (∀a' w',S w'->(S w'->bC P md ops Q S ds fuel li a' w')->K a' w')->if Region.wanted oi (yielded ops a.tmps)=true then Oper.wp P oi a w K Q else K (a.put Ni undef) w)
  (h2:∀K:Act->World->Prop,Shut (∀a' w',S w'->(S w'->bC P md ops Q S ds fuel lj a' w')->K a' w')->if Region.wanted oj (yielded ops a.tmps)=true then Oper.wp P oj a w K Q else K (a.put Nj undef) w)
  (h3:∀K:Act->World->Prop,Shut (∀a' w',S w'->(S w'->bC P md ops Q S ds fuel lk a' w')->K a' w')->if Region.wanted ok (yielded ops a.tmps)=true then Oper.wp P ok a w K Q else K (a.put Nk undef) w):
  bC P md ops Q S ds (fuel+1) l a w:=by
 subst hNi
 subst hNj
 subst hNk
 simp only[Bool.and_eq_true,beq_iff_eq] at hc
 obtain⟨⟨⟨h4,h5⟩,h6⟩,h7⟩:=hc
 subst h5
 subst h6
 subst h7
 exact lF h4 (by simp) (eX.cons hi hdi (λK hK=>h1 K hK) (eX.cons hj hdj (λK hK=>h2 K hK) (eX.cons hk hdk (λK hK=>h3 K hK) eX.nil)))
def bz:Act->List (Tmp×Value)->Act
 |a,[]=>a
 |a,(n,v)::r=>bz (a.put (some n) v) r
theorem iI{σ:Type}{fuel:Nat}{l:Array Bool}{a:Act}{w:World}(fuel':Nat)(l':Array Bool)(ns:σ->List (Tmp×Value))(F:σ->World->Prop)
  (hcont:∀s w',F s w'->bC P md ops Q S ds fuel' l' (bz a (ns s)) w')
  (h:(∀s w',F s w'->bC P md ops Q S ds fuel' l' (bz a (ns s)) w')->bC P md ops Q S ds fuel l a w):bC P md ops Q S ds fuel l a w:=h hcont
theorem bH{fuel:Nat}{l:Array Bool}{a a':Act}{w:World}(ha:a=a')(h:bC P md ops Q S ds fuel l a' w):bC P md ops Q S ds fuel l a w:=by
 subst ha
 exact h
theorem call_{oi:Oper}{N:Option Tmp}{a:Act}{w:World}{K:Act->World->Prop}(f:FuncId)(args:Array Value)(hw:Region.wanted oi (yielded ops a.tmps)=true)(hN:oi.dst=N)(hrun:(execOp a.eval oi).run P w= .ok (.enter f args) w)
  (h:Calls P f args w λe w'=>∃v,e= .returned v/\K (a.put N v) w'):if Region.wanted oi (yielded ops a.tmps)=true then Oper.wp P oi a w K Q else K (a.put N undef) w:=by
 rw[if_pos hw]
 subst hN
 unfold Oper.wp
 rw[hrun,Oper.upon_enter]
 refine h.mono λe w'' hh=>?_
 obtain⟨v,rfl,hk⟩:=hh
 exact hk
theorem uU {f:FuncId} {fn:Func} (hf:P.funcs[f]?=some fn) (hname:(fn.name== "runtime.NumGoroutine")=false) (hb:fn.body.isSome=true) (args:Array Value) (w:World):(callFunc f args).run P w= .ok (.enter f args) w:=by
 have h1:fn.name≠ "runtime.NumGoroutine" :=by simpa using hname
 obtain⟨c,hc⟩:=Option.isSome_iff_exists.1 hb
 simp[callFunc,hf,h1,hc]
theorem bW {oi:Oper} {N:Option Tmp} {a:Act} {w:World} {K:Act->World->Prop} {f:FuncId} {fn:Func} {arY:Array Operand} {ts:Array TypeId} (hf:P.funcs[f]?=some fn) (hname:(fn.name== "runtime.NumGoroutine")=false) (hb:fn.body.isSome=true) (args:Array Value)
  (hw:Region.wanted oi (yielded ops a.tmps)=true) (hN:oi.dst=N) (hop:oi.op= .call {callee:= .value (.func f),args:=arY,argTypes:=ts}) (hargs:arY.map a.eval=args)
  (h:Calls P f args w λe w'=>∃v,e= .returned v/\K (a.put N v) w'):if Region.wanted oi (yielded ops a.tmps)=true then Oper.wp P oi a w K Q else K (a.put N undef) w:=by
 refine call_ f args hw hN ?_ h
 have he:=uU hf hname hb args w
 unfold execOp
 simp[hop,resolve,Deferred.ofValue,invoke,Act.eval,hargs,he]
theorem lN {rest:List Oper} {oi:Oper} {a:Act} {w:World} (N:Option Tmp) (hd:oi.dst=N) (hg:oi.guard=none) {f:FuncId} {fn:Func} {arY:Array Operand} {ts:Array TypeId} (hf:P.funcs[f]?=some fn) (hname:(fn.name== "runtime.NumGoroutine")=false) (hb:fn.body.isSome=true) (args:Array Value)
  (hop:oi.op= .call {callee:= .value (.func f),args:=arY,argTypes:=ts}) (hargs:arY.map a.eval=args)
  (h:Calls P f args w λe w'=>∃v,e= .returned v/\wpList P ops Q rest (a.put N v) w'):wpList P ops Q (oi::rest) a w:=by
 refine wpList_plain hg λK hK=>?_
 have he:=uU hf hname hb args w
 have hrun:(execOp a.eval oi).run P w= .ok (.enter f args) w:=by
  unfold execOp
  simp[hop,resolve,Deferred.ofValue,invoke,Act.eval,hargs,he]
 unfold Oper.wp
 rw[hrun,Oper.upon_enter]
 refine h.mono λe w'' hh=>?_
 obtain⟨v,rfl,hk⟩:=hh
 subst hd
 exact hK _ _ hk
theorem bT{oi:Oper}{N:Option Tmp}{a:Act}{w w1:World}{v:Value}{K:Act->World->Prop}(hw:Region.wanted oi (yielded ops a.tmps)=true)(hN:oi.dst=N)(hrun:(execOp a.eval oi).run P w= .ok (.value v) w1)
  (h:K (a.put N v) w1):if Region.wanted oi (yielded ops a.tmps)=true then Oper.wp P oi a w K Q else K (a.put N undef) w:=by
 rw[if_pos hw]
 subst hN
 unfold Oper.wp
 rw[hrun]
 exact h
theorem gW{oi:Oper}{a:Act}{w w1:World}{K:Act->World->Prop}(hw:Region.wanted oi (yielded ops a.tmps)=true)(hN:oi.dst=none)(hrun:(execOp a.eval oi).run P w= .ok .skip w1)
  (h:K a w1):if Region.wanted oi (yielded ops a.tmps)=true then Oper.wp P oi a w K Q else K (a.put none undef) w:=by
 rw[if_pos hw]
 unfold Oper.wp
 rw[hrun]
 show K (a.put oi.dst undef) w1
 rw[hN]
 exact h
theorem dI(n:Int):IntKind.i64.wrap n=Go.RowKit.wrap64 n:=by unfold Go.RowKit.wrap64;exact IntKind.wrap_i64 n
theorem dY(n:Int):IntKind.i32.wrap n=Go.RowKit.wrap32 n:=by unfold Go.RowKit.wrap32;exact IntKind.wrap_i32 n
end
open YtkjoilgpmngndaaGreatW.aj (aa)
def uM(md:Region.Mode)(o:Oper):List Nat:=(o.after.toList.filter (λe=>Region.binds md e)).map (λe=>e.on)
def FO(md:Region.Mode)(ops:Array Oper)(i:Nat)(oi:Oper):List Nat:=(List.range ops.size).filter λj=>!(j==i)&&match ops[j]? with
 |some oj=>!(oj.after.any (λe=>Region.binds md e&&e.on==i)||oi.apart ops oj)
 |none=>false
def dW(md:Region.Mode)(ops:Array Oper):Bool×List (List Nat×List Nat):=(Region.noSelect ops,(List.range ops.size).map λi=>match ops[i]? with
 |some o=>(uM md o,FO md ops i o)
 |none=>([],[]))
def pV(T:List (List Nat×List Nat))(l:List Bool)(i:Nat):Bool:=!l.getD i true&&match T[i]? with
 |some r=>r.1.all (λj=>l.getD j false)
 |none=>false
def wC(T:List (List Nat×List Nat))(l:List Bool):List Nat:=(List.range T.length).filter (pV T l)
def Ii(T:List (List Nat×List Nat))(l:List Bool)(i:Nat):Bool:=match T[i]? with
 |some r=>r.2.all (λj=>l.getD j true)
 |none=>false
def Ab(T:List (List Nat×List Nat))(l:List Bool):Bool:=(List.range T.length).all λj=>!l.getD j false||match T[j]? with
 |some r=>r.1.all (λk=>l.getD k false)
 |none=>true
def yL(T:List (List Nat×List Nat))(i:Nat):Nat->Nat->Bool
 |0,_=>false
 |fuel+1,d=>match T[d]? with
  |some r=>r.1.any λj=>j==i||yL T i fuel j
  |none=>false
def lastT(T:List (List Nat×List Nat))(l:List Bool)(ds:List Nat)(i:Nat):Bool:=ds.all λd=>l.getD d true||yL T i T.length d
section
variable {md:Region.Mode} {ops:Array Oper} {T:Bool×List (List Nat×List Nat)} {l l' li lj lk:Array Bool} {ds:List Nat} {i j k:Nat}
theorem gd(l:Array Bool)(j:Nat)(b:Bool):l.getD j b=l.toList.getD j b:=by simp[Array.getD_eq_getD_getElem?,List.getD_eq_getElem?_getD]
theorem Ed(o:Oper)(p:Nat->Bool):o.after.all (λe=>!Region.binds md e||p e.on)=(uM md o).all p:=by
 unfold uM
 rw[<- Array.all_toList]
 induction o.after.toList with
 |nil=>rfl
 |cons e r ih=>
  rw[List.all_cons,ih,List.filter_cons]
  cases h:Region.binds md e<;>simp
theorem Ow(o:Oper)(p:Nat->Bool):o.after.any (λe=>Region.binds md e&&p e.on)=(uM md o).any p:=by
 unfold uM
 rw[<- Array.any_toList]
 induction o.after.toList with
 |nil=>rfl
 |cons e r ih=>
  rw[List.any_cons,ih,List.filter_cons]
  cases h:Region.binds md e<;>simp
theorem pU:(dW md ops).2.length=ops.size:=by simp[dW]
theorem uH{o:Oper}(h:ops[i]?=some o):(dW md ops).2[i]?=some (uM md o,FO md ops i o):=by
 have hi:=(Array.getElem?_eq_some_iff.1 h).1
 unfold dW
 rw[List.getElem?_map,List.getElem?_range hi,Option.map_some,h]
theorem uI(h:ops[i]?=none):(dW md ops).2[i]?=none:=by
 have hi:ops.size<=i:=Array.getElem?_eq_none_iff.1 h
 exact List.getElem?_eq_none (by rw[pU];exact hi)
theorem Jy:pV (dW md ops).2 l.toList i=(!l.getD i true&&((ops[i]?).map (·.after.all λe=>!Region.binds md e||l.getD e.on false)).getD false):=by
 unfold pV
 rw[gd]
 cases h:ops[i]? with
 |none=>rw[uI h];rfl
 |some o=>
  rw[uH h]
  simp only[Option.map_some,Option.getD_some]
  rw[<- Ed]
  simp only[gd]
theorem ready_eq:Region.ready md ops l=wC (dW md ops).2 l.toList:=by
 unfold Region.ready wC
 rw[pU]
 refine List.filter_congr (λi _=>?_)
 rw[Jy]
theorem free_eq:Region.free md ops l i=Ii (dW md ops).2 l.toList i:=by
 unfold Region.free Ii
 cases h:ops[i]? with
 |none=>rw[uI h]
 |some oi=>
  rw[uH h]
  simp only[FO]
  rw[List.all_filter]
  congr 1
  funext j
  rw[gd]
  cases hj:ops[j]? with
  |none=>cases(j==i)<;>cases(l.toList.getD j true)<;>simp
  |some oj=>
   cases(j==i)<;>cases(l.toList.getD j true)<;>cases(oj.after.any (λe=>Region.binds md e&&e.on==i)||oi.apart ops oj)<;>simp_all
theorem Pb:Region.xZ md ops l=Ab (dW md ops).2 l.toList:=by
 unfold Region.xZ Ab
 rw[pU]
 congr 1
 funext j
 rw[gd]
 cases h:ops[j]? with
 |none=>rw[uI h]
 |some o=>
  rw[uH h]
  simp only
  rw[<- Ed]
  simp only[gd]
theorem GU:∀(fuel d:Nat),Region.mg md ops i fuel d=yL (dW md ops).2 i fuel d
 |0,_=>rfl
 |fuel+1,d=>by
  unfold Region.mg yL
  cases h:ops[d]? with
  |none=>rw[uI h]
  |some o=>
   rw[uH h]
   simp only
   rw[<- Ow]
   congr 1
   funext e
   rw[GU fuel]
theorem Ug:Region.lastB md ops l ds i=lastT (dW md ops).2 l.toList ds i:=by
 unfold Region.lastB lastT
 rw[pU]
 congr 1
 funext d
 rw[gd,GU]
theorem zu(h:pV T.2 l.toList i=true)(hT:dW md ops=T):(Region.ready md ops l).contains i=true:=by
 subst hT
 rw[ready_eq]
 unfold wC
 rw[List.contains_iff_mem,List.mem_filter,List.mem_range]
 refine⟨?_,h⟩
 unfold pV at h
 rw[Bool.and_eq_true] at h
 cases hq:(dW md ops).2[i]? with
 |none=>rw[hq] at h;simp at h
 |some r=>exact(List.getElem?_eq_some_iff.1 hq).1
theorem tX(h:(l.toList.set i true==l'.toList)=true):(l.setIfInBounds i true==l')=true:=by
 rw[beq_iff_eq] at h ⊢
 apply Array.ext'
 rw[Array.toList_setIfInBounds]
 exact h
def Vi(T:Bool×List (List Nat×List Nat))(l l':List Bool)(i:Nat):Bool:=T.1&&Ii T.2 l i&&pV T.2 l i&&(l.set i true==l')
theorem eF(hT:dW md ops=T)(h:Vi T l.toList l'.toList i=true):Pt md ops l l' i=true:=by
 simp only[Vi,Bool.and_eq_true] at h
 obtain⟨⟨⟨h1,h2⟩,h3⟩,h4⟩:=h
 have h5:=zu h3 hT
 have h6:=tX h4
 subst hT
 simp only[Pt,Bool.and_eq_true]
 exact⟨⟨⟨h1,by rw[free_eq];exact h2⟩,h5⟩,h6⟩
def Qj(T:Bool×List (List Nat×List Nat))(ds:List Nat)(l l':List Bool)(i:Nat):Bool:=T.1&&Ii T.2 l i&&pV T.2 l i&&Ab T.2 l&&lastT T.2 l ds i&&(l.set i true==l')
theorem TQ(hT:dW md ops=T)(h:Qj T ds l.toList l'.toList i=true):takeB md ops ds l l' i=true:=by
 simp only[Qj,Bool.and_eq_true] at h
 obtain⟨⟨⟨⟨⟨h1,h2⟩,h3⟩,h4⟩,h5⟩,h6⟩:=h
 have h7:=zu h3 hT
 have h8:=tX h6
 subst hT
 simp only[takeB,Bool.and_eq_true]
 exact⟨⟨⟨⟨⟨h1,by rw[free_eq];exact h2⟩,h7⟩,by rw[Pb];exact h4⟩,by rw[Ug];exact h5⟩,h8⟩
theorem aI(hT:dW md ops=T)(h:(wC T.2 l.toList==[i]&&l.toList.set i true==l'.toList)=true):qy md ops l l' i=true:=by
 simp only[Bool.and_eq_true] at h
 obtain⟨h1,h2⟩:=h
 subst hT
 simp only[qy,Bool.and_eq_true]
 exact⟨by rw[ready_eq];exact h1,tX h2⟩
theorem jG(hT:dW md ops=T)(h:(wC T.2 l.toList==[i,j]&&l.toList.set i true==li.toList&&l.toList.set j true==lj.toList)=true):(Region.ready md ops l==[i,j]&&l.setIfInBounds i true==li&&l.setIfInBounds j true==lj)=true:=by
 simp only[Bool.and_eq_true] at h ⊢
 obtain⟨⟨h1,h2⟩,h3⟩:=h
 subst hT
 exact⟨⟨by rw[ready_eq];exact h1,tX h2⟩,tX h3⟩
theorem xg(hT:dW md ops=T)(h:(wC T.2 l.toList==[i,j,k]&&l.toList.set i true==li.toList&&l.toList.set j true==lj.toList&&l.toList.set k true==lk.toList)=true):
  (Region.ready md ops l==[i,j,k]&&l.setIfInBounds i true==li&&l.setIfInBounds j true==lj&&l.setIfInBounds k true==lk)=true:=by
 simp only[Bool.and_eq_true] at h ⊢
 obtain⟨⟨⟨h1,h2⟩,h3⟩,h4⟩:=h
 subst hT
 exact⟨⟨⟨by rw[ready_eq];exact h1,tX h2⟩,tX h3⟩,tX h4⟩
theorem bG(hT:dW md ops=T)(h:(wC T.2 l.toList==[])=true):(Region.ready md ops l==[])=true:=by
 subst hT
 rw[ready_eq]
 exact h
def XD(B:List Nat)(d:Nat):List Nat->Nat
 |[]=>0
 |n::r=>(2^n|||(if n<d then B.getD n 0 else 0))|||XD B d r
def bJ(T:List (List Nat×List Nat))(B:List Nat):Bool:=(List.range T.length).all λd=>match T[d]? with
 |some r=>(B.getD d 0|||XD B d r.1)==XD B d r.1
 |none=>false
theorem Mh{B:List Nat}{d i:Nat}:∀{ns:List Nat},(XD B d ns).testBit i=true->∃n ∈ ns,n=i\/(n<d/\(B.getD n 0).testBit i=true)
 |[],h=>by simp[XD] at h
 |n::r,h=>by
  unfold XD at h
  rw[Nat.testBit_or,Nat.testBit_or,Bool.or_eq_true,Bool.or_eq_true] at h
  rcases h with(h|h)|h
  .rw[Nat.testBit_two_pow] at h
   exact⟨n,List.mem_cons_self,.inl (by simpa using h)⟩
  .by_cases hn:n<d
   .rw[if_pos hn] at h
    exact⟨n,List.mem_cons_self,.inr ⟨hn,h⟩⟩
   .rw[if_neg hn] at h
    simp at h
  .obtain⟨m,hm,h2⟩:=Mh h
   exact⟨m,List.mem_cons_of_mem _ hm,h2⟩
theorem Ec{T:List (List Nat×List Nat)}{B:List Nat}(hB:bJ T B=true):∀(fuel d:Nat),d<fuel->d<T.length->(B.getD d 0).testBit i=true->yL T i fuel d=true
 |0,d,h,_,_=>by omega
 |fuel+1,d,h,hd,hb=>by
  have h1:=List.all_eq_true.1 hB d (List.mem_range.2 hd)
  cases hr:T[d]? with
  |none=>rw[hr] at h1;simp at h1
  |some r=>
   rw[hr] at h1
   simp only[beq_iff_eq] at h1
   have h2:(XD B d r.1).testBit i=true:=by rw[<- h1,Nat.testBit_or,hb,Bool.true_or]
   obtain⟨n,hn,h3⟩:=Mh h2
   unfold yL
   rw[hr]
   simp only
   rw[List.any_eq_true]
   refine⟨n,hn,?_⟩
   rcases h3 with rfl|⟨h4,h5⟩
   .simp
   .rw[Ec hB fuel n (by omega) (by omega) h5,Bool.or_true]
def Wj(T:List (List Nat×List Nat))(B:List Nat)(l:List Bool)(ds:List Nat)(i:Nat):Bool:=ds.all λd=>l.getD d true||(decide (d<T.length)&&(B.getD d 0).testBit i)
def Mi(T:Bool×List (List Nat×List Nat))(B:List Nat)(ds:List Nat)(l l':List Bool)(i:Nat):Bool:=T.1&&Ii T.2 l i&&pV T.2 l i&&Ab T.2 l&&Wj T.2 B l ds i&&(l.set i true==l')
theorem Gr{B:List Nat}(hT:dW md ops=T)(hB:bJ T.2 B=true)(h:Mi T B ds l.toList l'.toList i=true):takeB md ops ds l l' i=true:=by
 refine TQ hT ?_
 simp only[Mi,Qj,Bool.and_eq_true] at h ⊢
 obtain⟨⟨⟨⟨⟨h1,h2⟩,h3⟩,h4⟩,h5⟩,h6⟩:=h
 refine⟨⟨⟨⟨⟨h1,h2⟩,h3⟩,h4⟩,?_⟩,h6⟩
 unfold Wj at h5
 unfold lastT
 rw[List.all_eq_true] at h5 ⊢
 intro d hd
 have h7:=h5 d hd
 rw[Bool.or_eq_true,Bool.and_eq_true,decide_eq_true_eq] at h7
 rcases h7 with h7|⟨h8,h9⟩
 .rw[h7,Bool.true_or]
 .rw[Ec hB _ d h8 h8 h9,Bool.or_true]
theorem bu{P:Program}{Q:Exit->Act->World->Prop}{S:World->Prop}{n:Nat}{a:Act}{w:World}{B:List Nat}(hT:dW md ops=T)(hB:bJ T.2 B=true)(h:aa (dW md ops=T)->aa (bJ T.2 B=true)->bC P md ops Q S ds n l a w):bC P md ops Q S ds n l a w:=h ⟨hT⟩ ⟨hB⟩
end
def vH:Code->Nat->Option (Array Oper)
 | .region id ops _,k=>if id==k then some ops else none
 | .seq a b,k=>match vH a k with
  |some o=>some o
  |none=>vH b k
 | .cond _ a b,k=>match vH a k with
  |some o=>some o
  |none=>vH b k
 | .block _ c,k=>vH c k
 | .loop c,k=>vH c k
 | .scope c,k=>vH c k
 | .rangeFunc _ _ a b,k=>match vH a k with
  |some o=>some o
  |none=>vH b k
 |_,_=>none
def opsOf(f:Func)(k:Nat):Array Oper:=((f.body.bind λc=>vH c k)).getD #[]
end Go.Proofs.YtkjoilgpmngndaaGreatW.aJ
namespace Go.Proofs.YtkjoilgpmngndaaGreatW.aJ
section
variable {P:Program} {ops:Array Oper} {Q:Exit->Act->World->Prop} {md:Region.Mode} {S:World->Prop} {ds:List Nat} {T:Bool×List (List Nat×List Nat)}
end
end Go.Proofs.YtkjoilgpmngndaaGreatW.aJ
namespace Go.Proofs.YtkjoilgpmngndaaGreatW.aj
open Go.RowKit
namespace Kd
section
variable {α:Type} {d:Kd α} {e base g o n cap:Nat} {ok okp:Nat->Prop} {w W:World} {v:Value} {xs:List α}
end
section
variable {α:Type} {enc:α->Value} {h1:∀x,(enc x).oneCell'=true} {e base g o n cap:Nat} {ok:Nat->Prop} {W:World} {xs:List α}
end
end Kd
namespace Kd
def tag{α:Type}(f:Nat->Nat)(d:Kd α):Kd (α×Nat) where
 sz:=d.sz
 E:=d.E
 K:=λw x cs=>d.K w x.1 cs
 M:=λw base ok x cs=>d.M w base (λk=>ok k/\f k=x.2) x.1 cs
 kR:=λh=>d.kR h
 kQ:=λh=>d.kQ h
 jb:=λhb h=>d.jb hb h
 gU:=λh=>d.gU h
 fT:=λhok h=>d.fT (λk hk=>⟨hok k hk.1,hk.2⟩) h
 gJ:=λh=>d.fT (λ_ hk=>⟨⟨hk.1.1,hk.2⟩,hk.1.2⟩) (d.gJ h)
 jy:=λhm h=>d.jy (λk hk=>hm k hk.1) h
 jl:=λhb h=>d.jl hb h
def raw(sz:Nat):Kd (List Value) where
 sz:=sz
 E:=[]
 K:=λ_ x cs=>cs=x/\cs.length=sz/\∀u ∈ cs,u.oneCell'=true
 M:=λ_ _ _ x cs=>cs=x/\cs.length=sz/\∀u ∈ cs,u.oneCell'=true
 kR:=λh=>h.2.1
 kQ:=λh=>h.2.2
 jb:=λ_ h=>h
 gU:=λh=>h
 fT:=λ_ h=>h
 gJ:=λh=>h
 jy:=λ_ h=>h
 jl:=λ_ h=>h
def S{α:Type}(d:Kd α)(e:Nat)(w:World)(base:Nat)(ok:Nat->Prop)(v:Value)(xs:List α):Prop:=∃f,(tag f d).R e w base ok v xs.zipIdx
section
variable {α β:Type} {d:Kd α} {d':Kd β} {e e':Nat} {w w1 W:World} {base b:Nat} {ok ok' okv oku:Nat->Prop} {u v:Value} {xs:List α} {ys:List β}
theorem FV{ad:Addr}{n cap:Nat}(h:d.R e w base ok (.slice (some ad) n cap) xs):∃g,ad=⟨g,0,none⟩:=by
 obtain⟨_,inner,ho,hr⟩:=h
 rcases ho.2 with⟨hv,_⟩|⟨g,cap',cur,hv,_⟩
 .cases hv
 .injection hv with ha _ _
  injection ha with ha
  exact⟨g,ha⟩
theorem ZC{ad:Addr}{n cap:Nat}(h:d.R e W base ok (.slice (some ad) n cap) xs)(z:α)(i:Int)(h0:0<=i)(h1:i<n):
  ∃c,c.length=d.sz/\d.M W base (λk=>ok k/\some k≠(Value.slice (some ad) n cap).ownBlock) (xs.getD i.toNat z) c/\∀j u,c[j]?=some u->W.cell? (ad.add (i.toNat*d.sz+j))=some u:=by
 obtain⟨g,rfl⟩:=FV h
 obtain⟨c,hcl,hM,hcc,_⟩:=ZE h z i h0 h1
 refine⟨c,hcl,d.fT (λk hk=>⟨hk.1,λhe=>hk.2 (by simpa[Value.ownBlock] using he)⟩) hM,λj u hu=>?_⟩
 rw[FT,Nat.zero_add]
 exact hcc j u hu
theorem ym(hE:d.E=[])(h:d.R e w base ok v xs):d.R e w base (λk=>some k=v.ownBlock) v xs:=by
 obtain⟨h0,inner,ho,hr⟩:=h
 refine⟨λk hk=>hk.symm,inner,ho,hr.ru (λp c hp=>d.fT (λk hk=>?_) (d.gJ hp))⟩
 obtain⟨_,_,_,q,hq,_⟩:=hk
 rw[hE] at hq
 cases hq
theorem Nf(d:Kd α)(e:Nat)(w:World)(base:Nat)(ok:Nat->Prop):S d e w base ok (.slice none 0 0) []:=⟨λ_=>0,iK _ _ _ _ _⟩
end
section
variable {α β:Type} {d:Kd α} {d':Kd β} {e e' g:Nat} {w w1 W:World} {base b:Nat} {ok ok' okv oku:Nat->Prop} {u v:Value} {xs:List α} {ys:List β}
end
section
open Classical in
variable {P:Program} {ops:Array Oper} {rest:List Oper} {o:Oper} {a:Act} {Q:Exit->Act->World->Prop} {Kc:Act->World->Prop} {α:Type}
end
def gap{α:Type}(f:Nat->Nat)(d:Kd α)(i:Nat)(c:List Value):Kd (α×Nat) where
 sz:=d.sz
 E:=d.E
 K:=λw x cs=>(x.2=i->cs=c/\cs.length=d.sz/\∀u ∈ cs,u.oneCell'=true)/\(x.2≠i->d.K w x.1 cs)
 M:=λw base ok x cs=>(x.2=i->cs=c/\cs.length=d.sz/\∀u ∈ cs,u.oneCell'=true)/\(x.2≠i->d.M w base (λk=>ok k/\f k=x.2) x.1 cs)
 kR:=λ{w x cs} h=>by
  by_cases hx:x.2=i
  .exact(h.1 hx).2.1
  .exact d.kR (h.2 hx)
 kQ:=λ{w x cs} h=>by
  by_cases hx:x.2=i
  .exact(h.1 hx).2.2
  .exact d.kQ (h.2 hx)
 jb:=λhb h=>⟨h.1,λhx=>d.jb hb (h.2 hx)⟩
 gU:=λh=>⟨h.1,λhx=>d.gU (h.2 hx)⟩
 fT:=λhok h=>⟨h.1,λhx=>d.fT (λk hk=>⟨hok k hk.1,hk.2⟩) (h.2 hx)⟩
 gJ:=λh=>⟨h.1,λhx=>d.fT (λ_ hk=>⟨⟨hk.1.1,hk.2⟩,hk.1.2⟩) (d.gJ (h.2 hx))⟩
 jy:=λhm h=>⟨h.1,λhx=>d.jy (λk hk=>hm k hk.1) (h.2 hx)⟩
 jl:=λhb h=>⟨h.1,λhx=>d.jl hb (h.2 hx)⟩
def H{α:Type}(d:Kd α)(e:Nat)(w:World)(base:Nat)(ok:Nat->Prop)(v:Value)(xs:List α)(i:Int)(oki:Nat->Prop)(c:List Value):Prop:=
 (∀k,oki k->ok k)/\∃f,(gap f d i.toNat c).R e w base (λk=>ok k/\¬oki k) v xs.zipIdx
section
variable {α β:Type} {d:Kd α} {e e' g n cap:Nat} {w w1 W:World} {base:Nat} {ok ok' oki okp:Nat->Prop} {u v:Value} {xs:List α} {i:Int} {c:List Value}
open Classical in
end
section
variable {P:Program} {ops:Array Oper} {rest:List Oper} {o:Oper} {a:Act} {Q:Exit->Act->World->Prop} {α:Type}
end
end Kd
namespace Kd
section
variable {α:Type} {n:Nat} {d:Kd α} {hs:0<d.sz} {w:World} {base:Nat} {ok:Nat->Prop} {xs:List α} {cs:List Value}
end
section
variable {α:Type} {n:Nat} {enc:α->Value} {h1:∀x,(enc x).oneCell'=true} {hs:0<(scalar enc h1).sz} {w:World} {base:Nat} {ok:Nat->Prop} {xs:List α} {cs:List Value}
end
end Kd
section
variable {P:Program}
end
namespace Kd
section
variable {P:Program} {ops:Array Oper} {rest:List Oper} {o:Oper} {a:Act} {Q:Exit->Act->World->Prop} {Kc:Act->World->Prop} {α:Type}
end
section
variable {α:Type} {d:Kd α} {e:Nat} {w:World} {base:Nat} {ok:Nat->Prop} {v:Value} {xs:List α}
end
section
variable {P:Program} {ops:Array Oper} {rest:List Oper} {o:Oper} {a:Act} {Q:Exit->Act->World->Prop} {Kc:Act->World->Prop} {α:Type}
end
end Kd
namespace Kd
structure Heap{α:Type}(d:Kd α):Prop where
 K:∀{w w1:World} {x:α} {cs:List Value},(∀k,k<w.heap.size->w1.heap[k]?=w.heap[k]?)->d.K w x cs->d.K w1 x cs
theorem Pk{w w1:World}(hb:∀k,k<w.heap.size->w1.heap[k]?=w.heap[k]?){a:Addr}{v:Value}(h:w.cell? a=some v):w1.cell? a=some v:=by
 have:=hb a.block (World.block_lt_of_cell? w a h)
 simpa[World.cell?,this] using h
theorem Heap.C{α:Type}{d:Kd α}(hd:Heap d){w w1:World}{A:Option Addr}{n:Nat}{xs:List α}(hb:∀k,k<w.heap.size->w1.heap[k]?=w.heap[k]?)(h:d.C w A n xs):d.C w1 A n xs:=
 ⟨h.1,h.2.1,λhn=>by
  obtain⟨ad,e,hc⟩:=h.2.2 hn
  refine⟨ad,e,λj p hj=>?_⟩
  obtain⟨c,hs,hr,hcell⟩:=hc j p hj
  exact⟨c,hs,hd.K hb hr,λi u hu=>Pk hb (hcell i u hu)⟩⟩
section
variable {α:Type} {d:Kd α} {e base g n c:Nat} {ok:Nat->Prop} {w w0 W:World} {A:Option Addr} {xs:List α}
end
end Kd
def Kept(w W:World)(S:Nat->Prop):Prop:=w.heap.size<=W.heap.size/\∀i,i<w.heap.size->¬S i->W.heap[i]?=w.heap[i]?
section
variable {w W W2:World} {S S2 S':Nat->Prop}
theorem Kept.refl(w:World)(S:Nat->Prop):Kept w w S:=⟨Nat.le_refl _,λ_ _ _=>rfl⟩
theorem Kept.of_below(h:Below w.heap.size w W)(S:Nat->Prop):Kept w W S:=⟨h.size,λi hi _=>h.block i hi⟩
theorem Kept.mono(h:Kept w W S)(hs:∀k,S k->S' k):Kept w W S':=⟨h.1,λi hi hn=>h.2 i hi (λhk=>hn (hs i hk))⟩
theorem Kept.VZ(h:Kept w W S)(k:Kept W W2 S2)(hs:∀k,S2 k->S k\/w.heap.size<=k):Kept w W2 S:=
 ⟨Nat.le_trans h.1 k.1,λi hi hn=>(k.2 i (Nat.lt_of_lt_of_le hi h.1) (λh2=>(hs i h2).elim hn (λh3=>by omega))).trans (h.2 i hi hn)⟩
theorem Kept.below(h:Kept w W S)(hb:Below W.heap.size W W2):Kept w W2 S:=h.VZ (Kept.of_below hb (λ_=>False)) (λ_ hk=>hk.elim)
theorem Kept.alloc(h:Kept w W S)(o:Obj):Kept w (W.alloc o) S:=h.below (ae (Below.refl _ _) o)
theorem Kept.drew(h:Kept w W S):Kept w W.drew S:=h
theorem Kept.drewN(h:Kept w W S)(m:Nat):Kept w (W.drewN m) S:=h
theorem Kept.setCell(h:Kept w W S){p:Addr}(hp:S p.block\/w.heap.size<=p.block)(u:Value):Kept w (W.setCell p u) S:=
 h.VZ (S2:=λk=>k=p.block) ⟨by simp[World.setCell],λi _ hn=>Below.heap_setCell W p u i hn⟩ (λk hk=>by rw[hk];exact hp)
theorem Kept.keep{g:Nat}(h:ja w W g none)(k:Kept W W2 S2)(hs:∀k,S2 k->w.heap.size<=k):ja w W2 g none:=
 ⟨Nat.le_trans h.1 k.1,λi hi hg hr=>(k.2 i (Nat.lt_of_lt_of_le hi h.1) (λh2=>by have:=hs i h2;omega)).trans (h.2 i hi hg hr)⟩
theorem cell_kept{a:Addr}{v:Value}(hc:W.cell? a=some v)(hk:Kept W W2 S)(hne:¬S a.block):W2.cell? a=some v:=by
 have:=hk.2 a.block (World.block_lt_of_cell? W a hc) hne
 simpa[World.cell?,this] using hc
end
namespace Kd
section
variable {α:Type} {d:Kd α} {e base n c:Nat} {ok oki S S2:Nat->Prop} {w w0 W W1 W2:World} {v:Value} {A:Option Addr} {xs:List α} {i:Int} {cs:List Value}
end
end Kd
end Go.Proofs.YtkjoilgpmngndaaGreatW.aj
