import Derived.Laws.BitsLemmas
import Derived.OrdersHeld
import Derived.Test.YtdekaocdmjndaaaGreatQ0
set_option linter.all false
namespace Go.Proofs.YtdekaocdmjndaaaGreatW.aH
section
variable {P:Program} {ops:Array Oper} {Q:Exit->Act->World->Prop} {md:Region.Mode} {S:World->Prop} {ds:List Nat}
def Region.kH(md:Region.Mode)(ops:Array Oper)(i:Nat):Nat->Nat->Bool
 |0,_=>false
 |fuel+1,d=>match ops[d]? with
  |some o=>o.after.any λe=>Region.binds md e&&(e.on==i||Region.kH md ops i fuel e.on)
  |none=>false
def Region.vZ(md:Region.Mode)(ops:Array Oper)(listed:Array Bool):Bool:=
 (List.range ops.size).all λj=>!listed.getD j false||match ops[j]? with
  |some o=>o.after.all λe=>!Region.binds md e||listed.getD e.on false
  |none=>true
def Region.lastB(md:Region.Mode)(ops:Array Oper)(listed:Array Bool)(ds:List Nat)(i:Nat):Bool:=
 ds.all λd=>listed.getD d true||Region.kH md ops i ops.size d
def iI(md:Region.Mode)(ops:Array Oper)(listed:Array Bool):Prop:=
 ∀j oj,ops[j]?=some oj->listed.getD j false=true->∀e ∈ oj.after,Region.binds md e=true->listed.getD e.on false=true
theorem Region.vY{listed:Array Bool}(h:Region.vZ md ops listed=true):iI md ops listed:=by
 intro j oj hj hl e he hb
 have hlt:j<ops.size:=(Array.getElem?_eq_some_iff.1 hj).1
 have h1:=List.all_eq_true.1 h j (List.mem_range.2 hlt)
 simp only[hl,hj,Bool.not_true,Bool.false_or] at h1
 have h2:=Array.all_eq_true_iff_forall_mem.1 h1 e he
 simpa[hb] using h2
theorem iI.set{listed:Array Bool}{i:Nat}(h:iI md ops listed)(hi:i ∈ Region.ready md ops listed):iI md ops (listed.setIfInBounds i true):=by
 obtain⟨_,oi,hoi,hall⟩:=mem_ready.1 hi
 intro j oj hj hl e he hb
 by_cases hij:i=j
 .subst hij
  have:oj=oi:=Option.some.inj (hj.symm.trans hoi)
  subst this
  exact getD_set_true (hall e he hb)
 .rw[getD_set_ne false hij] at hl
  exact getD_set_true (h j oj hj hl e he hb)
theorem Region.vD{listed:Array Bool}{i:Nat}(hc:iI md ops listed):∀(fuel d:Nat),Region.kH md ops i fuel d=true->listed.getD d false=true->listed.getD i false=true
 |0,_,h,_=>by simp[Region.kH] at h
 |fuel+1,d,h,hl=>by
  unfold Region.kH at h
  cases ho:ops[d]? with
  |none=>rw[ho] at h;simp at h
  |some o=>
   rw[ho] at h
   obtain⟨e,he,h1⟩:=Array.any_eq_true'.1 h
   simp only[Bool.and_eq_true,Bool.or_eq_true,beq_iff_eq] at h1
   have hle:=hc d o ho hl e he h1.1
   rcases h1.2 with h2|h2
   .rw[<- h2];exact hle
   .exact Region.vD hc fuel e.on h2 hle
theorem Region.qJ{listed:Array Bool}{i d fuel:Nat}(hc:iI md ops listed)(hr:Region.kH md ops i fuel d=true)(hun:listed.getD i true=false):d ∉ Region.ready md ops listed:=by
 intro hd
 obtain⟨_,o,ho,hall⟩:=mem_ready.1 hd
 have hi:listed.getD i false=true:=by
  cases fuel with
  |zero=>simp[Region.kH] at hr
  |succ n=>
   unfold Region.kH at hr
   rw[ho] at hr
   obtain⟨e,he,h1⟩:=Array.any_eq_true'.1 hr
   simp only[Bool.and_eq_true,Bool.or_eq_true,beq_iff_eq] at h1
   have hle:=hall e he h1.1
   rcases h1.2 with h2|h2
   .rw[<- h2];exact hle
   .exact Region.vD hc n e.on h2 hle
 rcases Nat.lt_or_ge i listed.size with h'|h'
 .simp[h'] at hun hi
  rw[hun] at hi
  cases hi
 .simp[Array.getElem?_eq_none h'] at hun
def aQ(P:Program)(md:Region.Mode)(ops:Array Oper)(Q:Exit->Act->World->Prop)(S:World->Prop)(ds:List Nat):Nat->Array Bool->Act->World->Prop
 |0,listed,a,w=>Region.ready md ops listed=[]/\Q .normal a w
 |fuel+1,listed,a,w=>
  (Region.ready md ops listed=[]->Q .normal a w) /\
  ∀i ∈ Region.ready md ops listed,wpOp P ops Q i (λa' w'=>(i ∉ ds->S w->S w')/\aQ P md ops Q S ds fuel (listed.setIfInBounds i true) a' w') a w
theorem lL:∀(fuel:Nat) (listed:Array Bool) (a:Act) (w:World),aQ P md ops Q S ds fuel listed a w->wpAny P md ops Q fuel listed a w
 |0,_,_,_,h=>h
 |fuel+1,_,_,_,h=>⟨h.1,λi hi=>wpOp_mono (λa' w' h'=>lL fuel _ a' w' h'.2) (h.2 i hi)⟩
theorem xW{i:Nat}{oi:Oper}{v:Value}(hi:ops[i]?=some oi)(hsel:∀(j:Nat) (o:Oper) cs b,ops[j]?=some o->o.op≠ .select cs b)
  (hQ:∀c a w,Q (.panic c) (a.put oi.dst v) w->Q (.panic c) a w) (n:Nat):
  ∀(fuel:Nat) (listed:Array Bool) (a:Act) (w:World),
   (∀j oj,ops[j]?=some oj->j≠i->listed.getD j true=false->(∀e ∈ oj.after,Region.binds md e=true->e.on≠i)->oi.apart ops oj=true) ->
   iI md ops listed->(∀d ∈ ds,listed.getD d true=false->Region.kH md ops i n d=true) ->
   i ∈ Region.ready md ops listed->YieldsIf P ops S oi v a->S w ->
   aQ P md ops Q S ds fuel (listed.setIfInBounds i true) (a.put oi.dst v) w->aQ P md ops Q S ds (fuel+1) listed a w:=by
 intro fuel
 induction fuel with
 |zero=>
  intro listed a w _ _ _ hr hy hS H
  refine⟨λh=>(by rw[h] at hr;cases hr),λj hj=>?_⟩
  by_cases hji:j=i
  .subst hji;exact hy.wpOp hi hS ⟨λ_ h=>h,H⟩
  .have:=ready_mono hj hji
   rw[H.1] at this
   cases this
 |succ fuel ih=>
  intro listed a w hfree hc hd hr hy hS H
  refine⟨λh=>(by rw[h] at hr;cases hr),λj hj=>?_⟩
  by_cases hji:j=i
  .subst hji;exact hy.wpOp hi hS ⟨λ_ h=>h,H⟩
  .have h1:=H.2 j (ready_mono hj hji)
   obtain⟨hjun,oj,hoj,hall⟩:=mem_ready.1 hj
   have xh:=(mem_ready.1 hr).1
   have hnot:∀e ∈ oj.after,Region.binds md e=true->e.on≠i:=λe he hb heq=>by
    have h1:=hall e he hb
    rw[heq] at h1
    rcases Nat.lt_or_ge i listed.size with h'|h'
    .simp[h'] at xh h1;rw[xh] at h1;cases h1
    .simp[Array.getElem?_eq_none h'] at h1
   have hjd:j ∉ ds:=λhm=>Region.qJ hc (hd j hm hjun) xh hj
   have h2:=wpOp_putIf hoj (hfree j oj hoj hji hjun hnot) (λcs b=>hsel i oi cs b hi) (λcs b=>hsel j oj cs b hoj) hQ hy h1
   have hfree':∀k ok,ops[k]?=some ok->k≠i->(listed.setIfInBounds j true).getD k true=false ->
     (∀e ∈ ok.after,Region.binds md e=true->e.on≠i)->oi.apart ops ok=true:=λk ok hk hki hun hno=>by
    refine hfree k ok hk hki ?_ hno
    by_cases hjk:j=k
    .subst hjk;exact hjun
    .rw[getD_set_ne true hjk] at hun;exact hun
   have hd':∀d ∈ ds,(listed.setIfInBounds j true).getD d true=false->Region.kH md ops i n d=true:=λd hm hun=>by
    refine hd d hm ?_
    by_cases hjk:j=d
    .subst hjk;exact hjun
    .rw[getD_set_ne true hjk] at hun;exact hun
   refine wpOp_mono (λa' w' h3=>⟨h3.2.1,ih (listed.setIfInBounds j true) a' w' hfree' (hc.set hj) hd' (ready_mono hr (Ne.symm hji)) h3.1 (h3.2.1 hjd hS) ?_⟩) h2
   rw[Array.setIfInBounds_comm _ _ hji]
   exact h3.2.2
theorem Az{i:Nat}{oi:Oper}{v:Value}(hi:ops[i]?=some oi)(hsel:∀(j:Nat) (o:Oper) cs b,ops[j]?=some o->o.op≠ .select cs b)
  (hQ:∀c a w,Q (.panic c) (a.put oi.dst v) w->Q (.panic c) a w):
  ∀(fuel:Nat) (listed:Array Bool) (a:Act) (w:World),
   (∀j oj,ops[j]?=some oj->j≠i->listed.getD j true=false->(∀e ∈ oj.after,Region.binds md e=true->e.on≠i)->oi.apart ops oj=true) ->
   i ∈ Region.ready md ops listed->Yields P ops oi v a ->
   aQ P md ops Q S ds fuel (listed.setIfInBounds i true) (a.put oi.dst v) w->aQ P md ops Q S ds (fuel+1) listed a w:=by
 intro fuel
 induction fuel with
 |zero=>
  intro listed a w _ hr hy H
  refine⟨λh=>(by rw[h] at hr;cases hr),λj hj=>?_⟩
  by_cases hji:j=i
  .subst hji;exact(hy.yieldsIf (S:=λ_=>True)).wpOp hi trivial ⟨λ_ h=>h,H⟩
  .have:=ready_mono hj hji
   rw[H.1] at this
   cases this
 |succ fuel ih=>
  intro listed a w hfree hr hy H
  refine⟨λh=>(by rw[h] at hr;cases hr),λj hj=>?_⟩
  by_cases hji:j=i
  .subst hji;exact(hy.yieldsIf (S:=λ_=>True)).wpOp hi trivial ⟨λ_ h=>h,H⟩
  .have h1:=H.2 j (ready_mono hj hji)
   obtain⟨hjun,oj,hoj,hall⟩:=mem_ready.1 hj
   have xh:=(mem_ready.1 hr).1
   have hnot:∀e ∈ oj.after,Region.binds md e=true->e.on≠i:=λe he hb heq=>by
    have h1:=hall e he hb
    rw[heq] at h1
    rcases Nat.lt_or_ge i listed.size with h'|h'
    .simp[h'] at xh h1;rw[xh] at h1;cases h1
    .simp[Array.getElem?_eq_none h'] at h1
   have h2:=wpOp_put hoj (hfree j oj hoj hji hjun hnot) (λcs b=>hsel i oi cs b hi) (λcs b=>hsel j oj cs b hoj) hQ hy h1
   have hfree':∀k ok,ops[k]?=some ok->k≠i->(listed.setIfInBounds j true).getD k true=false ->
     (∀e ∈ ok.after,Region.binds md e=true->e.on≠i)->oi.apart ops ok=true:=λk ok hk hki hun hno=>by
    refine hfree k ok hk hki ?_ hno
    by_cases hjk:j=k
    .subst hjk;exact hjun
    .rw[getD_set_ne true hjk] at hun;exact hun
   refine wpOp_mono (λa' w' h3=>⟨h3.2.1,ih (listed.setIfInBounds j true) a' w' hfree' (ready_mono hr (Ne.symm hji)) h3.1 ?_⟩) h2
   rw[Array.setIfInBounds_comm _ _ hji]
   exact h3.2.2
theorem yO{i:Nat}{oi:Oper}{v:Value}{fuel:Nat}{listed:Array Bool}{a:Act}{w:World}(hi:ops[i]?=some oi)
  (hs:Region.noSelect ops=true) (hf:Region.free md ops listed i=true) (hr:(Region.ready md ops listed).contains i=true)
  (hc:Region.vZ md ops listed=true) (hl:Region.lastB md ops listed ds i=true)
  (hQ:∀c a w,Q (.panic c) (a.put oi.dst v) w->Q (.panic c) a w) (hy:YieldsIf P ops S oi v a) (hS:S w)
  (h:aQ P md ops Q S ds fuel (listed.setIfInBounds i true) (a.put oi.dst v) w):aQ P md ops Q S ds (fuel+1) listed a w:=
 xW hi (Region.noSelect_spec hs) hQ ops.size fuel listed a w (Region.free_spec hi hf) (Region.vY hc)
  (λd hm hun=>by have:=List.all_eq_true.1 hl d hm;rw[hun] at this;simpa using this) (by simpa using hr) hy hS h
theorem AA{rs:List Nat}{fuel:Nat}{listed:Array Bool}{a:Act}{w:World}(hr:Region.ready md ops listed=rs)(hne:rs≠[])
  (h:∀i ∈ rs,wpOp P ops Q i (λa' w'=>(i ∉ ds->S w->S w')/\aQ P md ops Q S ds fuel (listed.setIfInBounds i true) a' w') a w):aQ P md ops Q S ds (fuel+1) listed a w:=
 ⟨λh0=>absurd (hr▸h0) hne,hr▸h⟩
theorem yP{listed:Array Bool}{a:Act}{w:World}(hr:Region.ready md ops listed=[])(h:Q .normal a w):
  ∀fuel,aQ P md ops Q S ds fuel listed a w
 |0=>⟨hr,h⟩
 |_+1=>⟨λ_=>h,by rw[hr];simp⟩
theorem yN{id:Nat}{a:Act}{w:World}(hm:P.follows .mixedOrders=true)
  (h:aQ P .any ops Q S ds ops.size (Array.replicate ops.size false) a {w with drawn:=w.drawn+1}):(Code.region id ops true).wp P Q a w:=
 wp_region_any hm (lL _ _ _ _ h)
end
section
variable {P:Program} {ops:Array Oper} {Q:Exit->Act->World->Prop} {md:Region.Mode} {S:World->Prop} {ds:List Nat}
def bN(P:Program)(md:Region.Mode)(ops:Array Oper)(Q:Exit->Act->World->Prop)(S:World->Prop)(ds:List Nat)(fuel:Nat)(listed:Array Bool)(a:Act)(w:World)(rs:List Nat):Prop:=
 ∀i ∈ rs,wpOp P ops Q i (λa' w'=>(i ∉ ds->S w->S w')/\aQ P md ops Q S ds fuel (listed.setIfInBounds i true) a' w') a w
theorem bN.nil{fuel:Nat}{listed:Array Bool}{a:Act}{w:World}:bN P md ops Q S ds fuel listed a w []:=λ_ h=>by cases h
theorem bN.cons{fuel:Nat}{listed:Array Bool}{a:Act}{w:World}{i:Nat}{o:Oper}{rs:List Nat}(ho:ops[i]?=some o)(hd:i ∉ ds)
  (h:∀K':Act->World->Prop,Shut (∀a w,S w->(S w->aQ P md ops Q S ds fuel (listed.setIfInBounds i true) a w)->K' a w)->if Region.wanted o (yielded ops a.tmps)=true then Oper.wp P o a w K' Q else K' (a.put o.dst undef) w)
  (hs:bN P md ops Q S ds fuel listed a w rs):bN P md ops Q S ds fuel listed a w (i::rs):=λj hj=>by
 rcases List.mem_cons.1 hj with rfl|hj
 .exact wpOp_step ho (λK' hK=>h K' (λa w hS hW=>hK a w ⟨λ_ _=>hS,hW hS⟩))
 .exact hs j hj
theorem bN.K5{fuel:Nat}{listed:Array Bool}{a:Act}{w:World}{i:Nat}{o:Oper}{rs:List Nat}(ho:ops[i]?=some o)(hd:i ∈ ds)
  (h:∀K':Act->World->Prop,Shut (∀a w,aQ P md ops Q S ds fuel (listed.setIfInBounds i true) a w->K' a w)->if Region.wanted o (yielded ops a.tmps)=true then Oper.wp P o a w K' Q else K' (a.put o.dst undef) w)
  (hs:bN P md ops Q S ds fuel listed a w rs):bN P md ops Q S ds fuel listed a w (i::rs):=λj hj=>by
 rcases List.mem_cons.1 hj with rfl|hj
 .exact wpOp_step ho (λK' hK=>h K' (λa w hW=>hK a w ⟨λhn=>absurd hd hn,hW⟩))
 .exact hs j hj
theorem iq{rs:List Nat}{fuel:Nat}{listed:Array Bool}{a:Act}{w:World}(hr:Region.ready md ops listed=rs)(hne:rs≠[])
  (h:bN P md ops Q S ds fuel listed a w rs):aQ P md ops Q S ds (fuel+1) listed a w:=AA hr hne h
theorem fF{id n:Nat}{a:Act}{w:World}(l:Array Bool)(hm:P.follows .mixedOrders=true)(hn:ops.size=n)(hl:Array.replicate n false=l)(hS:S w.drew)
  (h:S w.drew->aQ P .any ops Q S ds n l a w.drew):(Code.region id ops true).wp P Q a w:=by
 subst hn
 subst hl
 exact yN hm (h hS)
def takeB(md:Region.Mode)(ops:Array Oper)(ds:List Nat)(l l':Array Bool)(i:Nat):Bool:=
 Region.noSelect ops&&Region.free md ops l i&&(Region.ready md ops l).contains i&&Region.vZ md ops l&&Region.lastB md ops l ds i&&(l.setIfInBounds i true==l')
theorem Mx{i:Nat}{N:Option Tmp}{oi:Oper}{v:Value}{fuel:Nat}{l:Array Bool}{a:Act}{w:World}(l':Array Bool)(hi:ops[i]?=some oi)(hN:oi.dst=N)(hc:takeB md ops ds l l' i=true)
  (hQ:∀c a w,Q (.panic c) (a.put oi.dst v) w->Q (.panic c) a w) (hy:YieldsIf P ops S oi v a) (hS:S w) {a':Act} (ha:a.put N v=a')
  (h:aQ P md ops Q S ds fuel l' a' w):aQ P md ops Q S ds (fuel+1) l a w:=by
 subst ha
 subst hN
 simp only[takeB,Bool.and_eq_true,beq_iff_eq] at hc
 obtain⟨⟨⟨⟨⟨h1,h2⟩,h3⟩,h4⟩,h5⟩,h6⟩:=hc
 subst h6
 exact yO hi h1 h2 h3 h4 h5 hQ hy hS h
def Ls(md:Region.Mode)(ops:Array Oper)(l l':Array Bool)(i:Nat):Bool:=
 Region.noSelect ops&&Region.free md ops l i&&(Region.ready md ops l).contains i&&(l.setIfInBounds i true==l')
theorem oq{i:Nat}{N:Option Tmp}{oi:Oper}{v:Value}{fuel:Nat}{l:Array Bool}{a:Act}{w:World}(l':Array Bool)(hi:ops[i]?=some oi)(hN:oi.dst=N)(hc:Ls md ops l l' i=true)
  (hQ:∀c a w,Q (.panic c) (a.put oi.dst v) w->Q (.panic c) a w) (hy:Yields P ops oi v a) {a':Act} (ha:a.put N v=a')
  (h:aQ P md ops Q S ds fuel l' a' w):aQ P md ops Q S ds (fuel+1) l a w:=by
 subst ha
 subst hN
 simp only[Ls,Bool.and_eq_true,beq_iff_eq] at hc
 obtain⟨⟨⟨h1,h2⟩,h3⟩,h6⟩:=hc
 subst h6
 exact Az hi (Region.noSelect_spec h1) hQ fuel l a w (Region.free_spec hi h2) (by simpa using h3) hy h
def oO(md:Region.Mode)(ops:Array Oper)(l l':Array Bool)(i:Nat):Bool:=(Region.ready md ops l==[i])&&(l.setIfInBounds i true==l')
theorem gB{i:Nat}{N:Option Tmp}{oi:Oper}{fuel:Nat}{l:Array Bool}{a:Act}{w:World}(l':Array Bool)(hi:ops[i]?=some oi)(hN:oi.dst=N)(hc:oO md ops l l' i=true)(hd:i ∉ ds)
  (h:∀K:Act->World->Prop,Shut (∀a' w',S w'->(S w'->aQ P md ops Q S ds fuel l' a' w')->K a' w')->if Region.wanted oi (yielded ops a.tmps)=true then Oper.wp P oi a w K Q else K (a.put N undef) w):
  aQ P md ops Q S ds (fuel+1) l a w:=by
 subst hN
 simp only[oO,Bool.and_eq_true,beq_iff_eq] at hc
 obtain⟨h1,h2⟩:=hc
 subst h2
 exact iq h1 (by simp) (bN.cons hi hd (λK hK=>h K hK) bN.nil)
theorem fB{i:Nat}{N:Option Tmp}{oi:Oper}{fuel:Nat}{l:Array Bool}{a:Act}{w:World}(l':Array Bool)(hi:ops[i]?=some oi)(hN:oi.dst=N)(hc:oO md ops l l' i=true)(hd:i ∈ ds)
  (h:∀K:Act->World->Prop,Shut (∀a' w',aQ P md ops Q S ds fuel l' a' w'->K a' w')->if Region.wanted oi (yielded ops a.tmps)=true then Oper.wp P oi a w K Q else K (a.put N undef) w):
  aQ P md ops Q S ds (fuel+1) l a w:=by
 subst hN
 simp only[oO,Bool.and_eq_true,beq_iff_eq] at hc
 obtain⟨h1,h2⟩:=hc
 subst h2
 exact iq h1 (by simp) (bN.K5 hi hd (λK hK=>h K hK) bN.nil)
theorem fM{l:Array Bool}{a:Act}{w:World}{n:Nat}(hr:(Region.ready md ops l==[])=true)(h:Q .normal a w):aQ P md ops Q S ds n l a w:=yP (by simpa using hr) h n
theorem tF{i j:Nat}{Ni Nj:Option Tmp}{oi oj:Oper}{fuel:Nat}{l:Array Bool}{a:Act}{w:World}(li lj:Array Bool)(hi:ops[i]?=some oi)(hj:ops[j]?=some oj)(Vu:oi.dst=Ni)(Vt:oj.dst=Nj)
  (hc:(Region.ready md ops l==[i,j]&&l.setIfInBounds i true==li&&l.setIfInBounds j true==lj)=true) (hdi:i ∉ ds) (hdj:j ∉ ds)
  (h1:∀K:Act->World->Prop,Shut (∀a' w',S w'->(S w'->aQ P md ops Q S ds fuel li a' w')->K a' w')->if Region.wanted oi (yielded ops a.tmps)=true then Oper.wp P oi a w K Q else K (a.put Ni undef) w)
  (h2:∀K:Act->World->Prop,Shut (∀a' w',S w'->(S w'->aQ P md ops Q S ds fuel lj a' w')->K a' w')->if Region.wanted oj (yielded ops a.tmps)=true then Oper.wp P oj a w K Q else K (a.put Nj undef) w):
  aQ P md ops Q S ds (fuel+1) l a w:=by
 subst Vu
 subst Vt
 simp only[Bool.and_eq_true,beq_iff_eq] at hc
 obtain⟨⟨h3,h4⟩,h5⟩:=hc
 subst h4
 subst h5
 exact iq h3 (by simp) (bN.cons hi hdi (λK hK=>h1 K hK) (bN.cons hj hdj (λK hK=>h2 K hK) bN.nil))
theorem oM{i j k:Nat}{Ni Nj Nk:Option Tmp}{oi oj ok:Oper}{fuel:Nat}{l:Array Bool}{a:Act}{w:World}(li lj lk:Array Bool)(hi:ops[i]?=some oi)(hj:ops[j]?=some oj)(hk:ops[k]?=some ok)(Vu:oi.dst=Ni)(Vt:oj.dst=Nj)(YR:ok.dst=Nk)
  (hc:(Region.ready md ops l==[i,j,k]&&l.setIfInBounds i true==li&&l.setIfInBounds j true==lj&&l.setIfInBounds k true==lk)=true) (hdi:i ∉ ds) (hdj:j ∉ ds) (hdk:k ∉ ds)
  (h1:∀K:Act->World->Prop,Shut (∀a' w',S w'->(S w'->aQ P md ops Q S ds fuel li a' w')->K a' w')->if Region.wanted oi (yielded ops a.tmps)=true then Oper.wp P oi a w K Q else K (a.put Ni undef) w)
  (h2:∀K:Act->World->Prop,Shut (∀a' w',S w'->(S w'->aQ P md ops Q S ds fuel lj a' w')->K a' w')->if Region.wanted oj (yielded ops a.tmps)=true then Oper.wp P oj a w K Q else K (a.put Nj undef) w)
  (h3:∀K:Act->World->Prop,Shut (∀a' w',S w'->(S w'->aQ P md ops Q S ds fuel lk a' w')->K a' w')->if Region.wanted ok (yielded ops a.tmps)=true then Oper.wp P ok a w K Q else K (a.put Nk undef) w):
  aQ P md ops Q S ds (fuel+1) l a w:=by
 subst Vu
 subst Vt
 subst YR
 simp only[Bool.and_eq_true,beq_iff_eq] at hc
 obtain⟨⟨⟨h4,h5⟩,h6⟩,h7⟩:=hc
 subst h5
 subst h6
 subst h7
 exact iq h4 (by simp) (bN.cons hi hdi (λK hK=>h1 K hK) (bN.cons hj hdj (λK hK=>h2 K hK) (bN.cons hk hdk (λK hK=>h3 K hK) bN.nil)))
def aK:Act->List (Tmp×Value)->Act
 |a,[]=>a
 |a,(n,v)::r=>aK (a.put (some n) v) r
theorem gD{σ:Type}{fuel:Nat}{l:Array Bool}{a:Act}{w:World}(fuel':Nat)(l':Array Bool)(ns:σ->List (Tmp×Value))(F:σ->World->Prop)
  (hcont:∀s w',F s w'->aQ P md ops Q S ds fuel' l' (aK a (ns s)) w')
  (h:(∀s w',F s w'->aQ P md ops Q S ds fuel' l' (aK a (ns s)) w')->aQ P md ops Q S ds fuel l a w):aQ P md ops Q S ds fuel l a w:=h hcont
theorem aW{fuel:Nat}{l:Array Bool}{a a':Act}{w:World}(ha:a=a')(h:aQ P md ops Q S ds fuel l a' w):aQ P md ops Q S ds fuel l a w:=by
 subst ha
 exact h
theorem call_{oi:Oper}{N:Option Tmp}{a:Act}{w:World}{K:Act->World->Prop}(f:FuncId)(args:Array Value)(hw:Region.wanted oi (yielded ops a.tmps)=true)(hN:oi.dst=N)(hrun:(execOp a.eval oi).run P w= .ok (.enter f args) w)
  (h:Calls P f args w λe w'=>∃v,e= .returned v/\K (a.put N v) w'):if Region.wanted oi (yielded ops a.tmps)=true then Oper.wp P oi a w K Q else K (a.put N undef) w:=by
 rw[if_pos hw]
 subst hN
 unfold Oper.wp
 rw[hrun,Oper.upon_enter]
 refine h.mono λe w'' hh=>?_
 obtain⟨v,rfl,hk⟩:=hh
 exact hk
theorem vQ {f:FuncId} {fn:Func} (hf:P.funcs[f]?=some fn) (hname:(fn.name== "runtime.NumGoroutine")=false) (hb:fn.body.isSome=true) (args:Array Value) (w:World):(callFunc f args).run P w= .ok (.enter f args) w:=by
 have h1:fn.name≠ "runtime.NumGoroutine" :=by simpa using hname
 obtain⟨c,hc⟩:=Option.isSome_iff_exists.1 hb
 simp[callFunc,hf,h1,hc]
theorem bT {oi:Oper} {N:Option Tmp} {a:Act} {w:World} {K:Act->World->Prop} {f:FuncId} {fn:Func} {aof:Array Operand} {ts:Array TypeId} (hf:P.funcs[f]?=some fn) (hname:(fn.name== "runtime.NumGoroutine")=false) (hb:fn.body.isSome=true) (args:Array Value)
  (hw:Region.wanted oi (yielded ops a.tmps)=true) (hN:oi.dst=N) (hop:oi.op= .call {callee:= .value (.func f),args:=aof,argTypes:=ts}) (hargs:aof.map a.eval=args)
  (h:Calls P f args w λe w'=>∃v,e= .returned v/\K (a.put N v) w'):if Region.wanted oi (yielded ops a.tmps)=true then Oper.wp P oi a w K Q else K (a.put N undef) w:=by
 refine call_ f args hw hN ?_ h
 have he:=vQ hf hname hb args w
 unfold execOp
 simp[hop,resolve,Deferred.ofValue,invoke,Act.eval,hargs,he]
theorem qz {rest:List Oper} {oi:Oper} {a:Act} {w:World} (N:Option Tmp) (hd:oi.dst=N) (hg:oi.guard=none) {f:FuncId} {fn:Func} {aof:Array Operand} {ts:Array TypeId} (hf:P.funcs[f]?=some fn) (hname:(fn.name== "runtime.NumGoroutine")=false) (hb:fn.body.isSome=true) (args:Array Value)
  (hop:oi.op= .call {callee:= .value (.func f),args:=aof,argTypes:=ts}) (hargs:aof.map a.eval=args)
  (h:Calls P f args w λe w'=>∃v,e= .returned v/\wpList P ops Q rest (a.put N v) w'):wpList P ops Q (oi::rest) a w:=by
 refine wpList_plain hg λK hK=>?_
 have he:=vQ hf hname hb args w
 have hrun:(execOp a.eval oi).run P w= .ok (.enter f args) w:=by
  unfold execOp
  simp[hop,resolve,Deferred.ofValue,invoke,Act.eval,hargs,he]
 unfold Oper.wp
 rw[hrun,Oper.upon_enter]
 refine h.mono λe w'' hh=>?_
 obtain⟨v,rfl,hk⟩:=hh
 subst hd
 exact hK _ _ hk
theorem bD{oi:Oper}{N:Option Tmp}{a:Act}{w w1:World}{v:Value}{K:Act->World->Prop}(hw:Region.wanted oi (yielded ops a.tmps)=true)(hN:oi.dst=N)(hrun:(execOp a.eval oi).run P w= .ok (.value v) w1)
  (h:K (a.put N v) w1):if Region.wanted oi (yielded ops a.tmps)=true then Oper.wp P oi a w K Q else K (a.put N undef) w:=by
 rw[if_pos hw]
 subst hN
 unfold Oper.wp
 rw[hrun]
 exact h
theorem kg{oi:Oper}{a:Act}{w w1:World}{K:Act->World->Prop}(hw:Region.wanted oi (yielded ops a.tmps)=true)(hN:oi.dst=none)(hrun:(execOp a.eval oi).run P w= .ok .skip w1)
  (h:K a w1):if Region.wanted oi (yielded ops a.tmps)=true then Oper.wp P oi a w K Q else K (a.put none undef) w:=by
 rw[if_pos hw]
 unfold Oper.wp
 rw[hrun]
 show K (a.put oi.dst undef) w1
 rw[hN]
 exact h
theorem cB(n:Int):IntKind.i64.wrap n=Go.RowKit.wrap64 n:=by unfold Go.RowKit.wrap64;exact IntKind.wrap_i64 n
theorem dX(n:Int):IntKind.i32.wrap n=Go.RowKit.wrap32 n:=by unfold Go.RowKit.wrap32;exact IntKind.wrap_i32 n
end
open YtdekaocdmjndaaaGreatW.aj (aa)
def sH(md:Region.Mode)(o:Oper):List Nat:=(o.after.toList.filter (λe=>Region.binds md e)).map (λe=>e.on)
def Dn(md:Region.Mode)(ops:Array Oper)(i:Nat)(oi:Oper):List Nat:=(List.range ops.size).filter λj=>!(j==i)&&match ops[j]? with
 |some oj=>!(oj.after.any (λe=>Region.binds md e&&e.on==i)||oi.apart ops oj)
 |none=>false
def eB(md:Region.Mode)(ops:Array Oper):Bool×List (List Nat×List Nat):=(Region.noSelect ops,(List.range ops.size).map λi=>match ops[i]? with
 |some o=>(sH md o,Dn md ops i o)
 |none=>([],[]))
def oo(T:List (List Nat×List Nat))(l:List Bool)(i:Nat):Bool:=!l.getD i true&&match T[i]? with
 |some r=>r.1.all (λj=>l.getD j false)
 |none=>false
def qh(T:List (List Nat×List Nat))(l:List Bool):List Nat:=(List.range T.length).filter (oo T l)
def Fb(T:List (List Nat×List Nat))(l:List Bool)(i:Nat):Bool:=match T[i]? with
 |some r=>r.2.all (λj=>l.getD j true)
 |none=>false
def yF(T:List (List Nat×List Nat))(l:List Bool):Bool:=(List.range T.length).all λj=>!l.getD j false||match T[j]? with
 |some r=>r.1.all (λk=>l.getD k false)
 |none=>true
def wS(T:List (List Nat×List Nat))(i:Nat):Nat->Nat->Bool
 |0,_=>false
 |fuel+1,d=>match T[d]? with
  |some r=>r.1.any λj=>j==i||wS T i fuel j
  |none=>false
def lastT(T:List (List Nat×List Nat))(l:List Bool)(ds:List Nat)(i:Nat):Bool:=ds.all λd=>l.getD d true||wS T i T.length d
section
variable {md:Region.Mode} {ops:Array Oper} {T:Bool×List (List Nat×List Nat)} {l l' li lj lk:Array Bool} {ds:List Nat} {i j k:Nat}
theorem gd(l:Array Bool)(j:Nat)(b:Bool):l.getD j b=l.toList.getD j b:=by simp[Array.getD_eq_getD_getElem?,List.getD_eq_getElem?_getD]
theorem BM(o:Oper)(p:Nat->Bool):o.after.all (λe=>!Region.binds md e||p e.on)=(sH md o).all p:=by
 unfold sH
 rw[<- Array.all_toList]
 induction o.after.toList with
 |nil=>rfl
 |cons e r ih=>
  rw[List.all_cons,ih,List.filter_cons]
  cases h:Region.binds md e<;>simp
theorem Kr(o:Oper)(p:Nat->Bool):o.after.any (λe=>Region.binds md e&&p e.on)=(sH md o).any p:=by
 unfold sH
 rw[<- Array.any_toList]
 induction o.after.toList with
 |nil=>rfl
 |cons e r ih=>
  rw[List.any_cons,ih,List.filter_cons]
  cases h:Region.binds md e<;>simp
theorem nZ:(eB md ops).2.length=ops.size:=by simp[eB]
theorem si{o:Oper}(h:ops[i]?=some o):(eB md ops).2[i]?=some (sH md o,Dn md ops i o):=by
 have hi:=(Array.getElem?_eq_some_iff.1 h).1
 unfold eB
 rw[List.getElem?_map,List.getElem?_range hi,Option.map_some,h]
theorem sj(h:ops[i]?=none):(eB md ops).2[i]?=none:=by
 have hi:ops.size<=i:=Array.getElem?_eq_none_iff.1 h
 exact List.getElem?_eq_none (by rw[nZ];exact hi)
theorem Gm:oo (eB md ops).2 l.toList i=(!l.getD i true&&((ops[i]?).map (·.after.all λe=>!Region.binds md e||l.getD e.on false)).getD false):=by
 unfold oo
 rw[gd]
 cases h:ops[i]? with
 |none=>rw[sj h];rfl
 |some o=>
  rw[si h]
  simp only[Option.map_some,Option.getD_some]
  rw[<- BM]
  simp only[gd]
theorem ready_eq:Region.ready md ops l=qh (eB md ops).2 l.toList:=by
 unfold Region.ready qh
 rw[nZ]
 refine List.filter_congr (λi _=>?_)
 rw[Gm]
theorem free_eq:Region.free md ops l i=Fb (eB md ops).2 l.toList i:=by
 unfold Region.free Fb
 cases h:ops[i]? with
 |none=>rw[sj h]
 |some oi=>
  rw[si h]
  simp only[Dn]
  rw[List.all_filter]
  congr 1
  funext j
  rw[gd]
  cases hj:ops[j]? with
  |none=>cases(j==i)<;>cases(l.toList.getD j true)<;>simp
  |some oj=>
   cases(j==i)<;>cases(l.toList.getD j true)<;>cases(oj.after.any (λe=>Region.binds md e&&e.on==i)||oi.apart ops oj)<;>simp_all
theorem Le:Region.vZ md ops l=yF (eB md ops).2 l.toList:=by
 unfold Region.vZ yF
 rw[nZ]
 congr 1
 funext j
 rw[gd]
 cases h:ops[j]? with
 |none=>rw[sj h]
 |some o=>
  rw[si h]
  simp only
  rw[<- BM]
  simp only[gd]
theorem Eg:∀(fuel d:Nat),Region.kH md ops i fuel d=wS (eB md ops).2 i fuel d
 |0,_=>rfl
 |fuel+1,d=>by
  unfold Region.kH wS
  cases h:ops[d]? with
  |none=>rw[sj h]
  |some o=>
   rw[si h]
   simp only
   rw[<- Kr]
   congr 1
   funext e
   rw[Eg fuel]
theorem Qz:Region.lastB md ops l ds i=lastT (eB md ops).2 l.toList ds i:=by
 unfold Region.lastB lastT
 rw[nZ]
 congr 1
 funext d
 rw[gd,Eg]
theorem xD(h:oo T.2 l.toList i=true)(hT:eB md ops=T):(Region.ready md ops l).contains i=true:=by
 subst hT
 rw[ready_eq]
 unfold qh
 rw[List.contains_iff_mem,List.mem_filter,List.mem_range]
 refine⟨?_,h⟩
 unfold oo at h
 rw[Bool.and_eq_true] at h
 cases hq:(eB md ops).2[i]? with
 |none=>rw[hq] at h;simp at h
 |some r=>exact(List.getElem?_eq_some_iff.1 hq).1
theorem jM(h:(l.toList.set i true==l'.toList)=true):(l.setIfInBounds i true==l')=true:=by
 rw[beq_iff_eq] at h ⊢
 apply Array.ext'
 rw[Array.toList_setIfInBounds]
 exact h
def RH(T:Bool×List (List Nat×List Nat))(l l':List Bool)(i:Nat):Bool:=T.1&&Fb T.2 l i&&oo T.2 l i&&(l.set i true==l')
theorem dI(hT:eB md ops=T)(h:RH T l.toList l'.toList i=true):Ls md ops l l' i=true:=by
 simp only[RH,Bool.and_eq_true] at h
 obtain⟨⟨⟨h1,h2⟩,h3⟩,h4⟩:=h
 have h5:=xD h3 hT
 have h6:=jM h4
 subst hT
 simp only[Ls,Bool.and_eq_true]
 exact⟨⟨⟨h1,by rw[free_eq];exact h2⟩,h5⟩,h6⟩
def MB(T:Bool×List (List Nat×List Nat))(ds:List Nat)(l l':List Bool)(i:Nat):Bool:=T.1&&Fb T.2 l i&&oo T.2 l i&&yF T.2 l&&lastT T.2 l ds i&&(l.set i true==l')
theorem Qo(hT:eB md ops=T)(h:MB T ds l.toList l'.toList i=true):takeB md ops ds l l' i=true:=by
 simp only[MB,Bool.and_eq_true] at h
 obtain⟨⟨⟨⟨⟨h1,h2⟩,h3⟩,h4⟩,h5⟩,h6⟩:=h
 have h7:=xD h3 hT
 have h8:=jM h6
 subst hT
 simp only[takeB,Bool.and_eq_true]
 exact⟨⟨⟨⟨⟨h1,by rw[free_eq];exact h2⟩,h7⟩,by rw[Le];exact h4⟩,by rw[Qz];exact h5⟩,h8⟩
theorem aM(hT:eB md ops=T)(h:(qh T.2 l.toList==[i]&&l.toList.set i true==l'.toList)=true):oO md ops l l' i=true:=by
 simp only[Bool.and_eq_true] at h
 obtain⟨h1,h2⟩:=h
 subst hT
 simp only[oO,Bool.and_eq_true]
 exact⟨by rw[ready_eq];exact h1,jM h2⟩
theorem jL(hT:eB md ops=T)(h:(qh T.2 l.toList==[i,j]&&l.toList.set i true==li.toList&&l.toList.set j true==lj.toList)=true):(Region.ready md ops l==[i,j]&&l.setIfInBounds i true==li&&l.setIfInBounds j true==lj)=true:=by
 simp only[Bool.and_eq_true] at h ⊢
 obtain⟨⟨h1,h2⟩,h3⟩:=h
 subst hT
 exact⟨⟨by rw[ready_eq];exact h1,jM h2⟩,jM h3⟩
theorem jQ(hT:eB md ops=T)(h:(qh T.2 l.toList==[i,j,k]&&l.toList.set i true==li.toList&&l.toList.set j true==lj.toList&&l.toList.set k true==lk.toList)=true):
  (Region.ready md ops l==[i,j,k]&&l.setIfInBounds i true==li&&l.setIfInBounds j true==lj&&l.setIfInBounds k true==lk)=true:=by
 simp only[Bool.and_eq_true] at h ⊢
 obtain⟨⟨⟨h1,h2⟩,h3⟩,h4⟩:=h
 subst hT
 exact⟨⟨⟨by rw[ready_eq];exact h1,jM h2⟩,jM h3⟩,jM h4⟩
theorem bP(hT:eB md ops=T)(h:(qh T.2 l.toList==[])=true):(Region.ready md ops l==[])=true:=by
 subst hT
 rw[ready_eq]
 exact h
def Uo(B:List Nat)(d:Nat):List Nat->Nat
 |[]=>0
 |n::r=>(2^n|||(if n<d then B.getD n 0 else 0))|||Uo B d r
def bI(T:List (List Nat×List Nat))(B:List Nat):Bool:=(List.range T.length).all λd=>match T[d]? with
 |some r=>(B.getD d 0|||Uo B d r.1)==Uo B d r.1
 |none=>false
theorem IL{B:List Nat}{d i:Nat}:∀{ns:List Nat},(Uo B d ns).testBit i=true->∃n ∈ ns,n=i\/(n<d/\(B.getD n 0).testBit i=true)
 |[],h=>by simp[Uo] at h
 |n::r,h=>by
  unfold Uo at h
  rw[Nat.testBit_or,Nat.testBit_or,Bool.or_eq_true,Bool.or_eq_true] at h
  rcases h with(h|h)|h
  .rw[Nat.testBit_two_pow] at h
   exact⟨n,List.mem_cons_self,.inl (by simpa using h)⟩
  .by_cases hn:n<d
   .rw[if_pos hn] at h
    exact⟨n,List.mem_cons_self,.inr ⟨hn,h⟩⟩
   .rw[if_neg hn] at h
    simp at h
  .obtain⟨m,hm,h2⟩:=IL h
   exact⟨m,List.mem_cons_of_mem _ hm,h2⟩
theorem BI{T:List (List Nat×List Nat)}{B:List Nat}(hB:bI T B=true):∀(fuel d:Nat),d<fuel->d<T.length->(B.getD d 0).testBit i=true->wS T i fuel d=true
 |0,d,h,_,_=>by omega
 |fuel+1,d,h,hd,hb=>by
  have h1:=List.all_eq_true.1 hB d (List.mem_range.2 hd)
  cases hr:T[d]? with
  |none=>rw[hr] at h1;simp at h1
  |some r=>
   rw[hr] at h1
   simp only[beq_iff_eq] at h1
   have h2:(Uo B d r.1).testBit i=true:=by rw[<- h1,Nat.testBit_or,hb,Bool.true_or]
   obtain⟨n,hn,h3⟩:=IL h2
   unfold wS
   rw[hr]
   simp only
   rw[List.any_eq_true]
   refine⟨n,hn,?_⟩
   rcases h3 with rfl|⟨h4,h5⟩
   .simp
   .rw[BI hB fuel n (by omega) (by omega) h5,Bool.or_true]
def SA(T:List (List Nat×List Nat))(B:List Nat)(l:List Bool)(ds:List Nat)(i:Nat):Bool:=ds.all λd=>l.getD d true||(decide (d<T.length)&&(B.getD d 0).testBit i)
def IM(T:Bool×List (List Nat×List Nat))(B:List Nat)(ds:List Nat)(l l':List Bool)(i:Nat):Bool:=T.1&&Fb T.2 l i&&oo T.2 l i&&yF T.2 l&&SA T.2 B l ds i&&(l.set i true==l')
theorem DV{B:List Nat}(hT:eB md ops=T)(hB:bI T.2 B=true)(h:IM T B ds l.toList l'.toList i=true):takeB md ops ds l l' i=true:=by
 refine Qo hT ?_
 simp only[IM,MB,Bool.and_eq_true] at h ⊢
 obtain⟨⟨⟨⟨⟨h1,h2⟩,h3⟩,h4⟩,h5⟩,h6⟩:=h
 refine⟨⟨⟨⟨⟨h1,h2⟩,h3⟩,h4⟩,?_⟩,h6⟩
 unfold SA at h5
 unfold lastT
 rw[List.all_eq_true] at h5 ⊢
 intro d hd
 have h7:=h5 d hd
 rw[Bool.or_eq_true,Bool.and_eq_true,decide_eq_true_eq] at h7
 rcases h7 with h7|⟨h8,h9⟩
 .rw[h7,Bool.true_or]
 .rw[BI hB _ d h8 h8 h9,Bool.or_true]
theorem bG{P:Program}{Q:Exit->Act->World->Prop}{S:World->Prop}{n:Nat}{a:Act}{w:World}{B:List Nat}(hT:eB md ops=T)(hB:bI T.2 B=true)(h:aa (eB md ops=T)->aa (bI T.2 B=true)->aQ P md ops Q S ds n l a w):aQ P md ops Q S ds n l a w:=h ⟨hT⟩ ⟨hB⟩
end
def tQ:Code->Nat->Option (Array Oper)
 | .region id ops _,k=>if id==k then some ops else none
 | .seq a b,k=>match tQ a k with
  |some o=>some o
  |none=>tQ b k
 | .cond _ a b,k=>match tQ a k with
  |some o=>some o
  |none=>tQ b k
 | .block _ c,k=>tQ c k
 | .loop c,k=>tQ c k
 | .scope c,k=>tQ c k
 | .rangeFunc _ _ a b,k=>match tQ a k with
  |some o=>some o
  |none=>tQ b k
 |_,_=>none
def opsOf(f:Func)(k:Nat):Array Oper:=((f.body.bind λc=>tQ c k)).getD #[]
end Go.Proofs.YtdekaocdmjndaaaGreatW.aH
namespace Go.Proofs.YtdekaocdmjndaaaGreatW.aH
section
variable {P:Program} {ops:Array Oper} {Q:Exit->Act->World->Prop} {md:Region.Mode} {S:World->Prop} {ds:List Nat} {T:Bool×List (List Nat×List Nat)}
theorem Jb{i j k m:Nat}{Ni Nj Nk Nm:Option Tmp}{oi oj ok om:Oper}{fuel:Nat}{l:Array Bool}{a:Act}{w:World}(li lj lk lm:Array Bool)(hi:ops[i]?=some oi)(hj:ops[j]?=some oj)(hk:ops[k]?=some ok)(hm:ops[m]?=some om)(Vu:oi.dst=Ni)(Vt:oj.dst=Nj)(YR:ok.dst=Nk)(hNm:om.dst=Nm)
  (hc:(Region.ready md ops l==[i,j,k,m]&&l.setIfInBounds i true==li&&l.setIfInBounds j true==lj&&l.setIfInBounds k true==lk&&l.setIfInBounds m true==lm)=true) (hdi:i ∉ ds) (hdj:j ∉ ds) (hdk:k ∉ ds) (Xg:m ∉ ds)
  (hhi:∀K:Act->World->Prop,Shut (∀a' w',S w'->(S w'->aQ P md ops Q S ds fuel li a' w')->K a' w')->if Region.wanted oi (yielded ops a.tmps)=true then Oper.wp P oi a w K Q else K (a.put Ni undef) w)
  (hhj:∀K:Act->World->Prop,Shut (∀a' w',S w'->(S w'->aQ P md ops Q S ds fuel lj a' w')->K a' w')->if Region.wanted oj (yielded ops a.tmps)=true then Oper.wp P oj a w K Q else K (a.put Nj undef) w)
  (hhk:∀K:Act->World->Prop,Shut (∀a' w',S w'->(S w'->aQ P md ops Q S ds fuel lk a' w')->K a' w')->if Region.wanted ok (yielded ops a.tmps)=true then Oper.wp P ok a w K Q else K (a.put Nk undef) w)
  (hhm:∀K:Act->World->Prop,Shut (∀a' w',S w'->(S w'->aQ P md ops Q S ds fuel lm a' w')->K a' w')->if Region.wanted om (yielded ops a.tmps)=true then Oper.wp P om a w K Q else K (a.put Nm undef) w):
  aQ P md ops Q S ds (fuel+1) l a w:=by
 subst Vu
 subst Vt
 subst YR
 subst hNm
 simp only[Bool.and_eq_true,beq_iff_eq] at hc
 obtain⟨⟨⟨⟨hr,hsi⟩,hsj⟩,hsk⟩,hsm⟩:=hc
 subst hsi
 subst hsj
 subst hsk
 subst hsm
 exact iq hr (by simp) (bN.cons hi hdi (λK hK=>hhi K hK) (bN.cons hj hdj (λK hK=>hhj K hK) (bN.cons hk hdk (λK hK=>hhk K hK) (bN.cons hm Xg (λK hK=>hhm K hK) bN.nil))))
theorem yE{i j k m:Nat}{l li lj lk lm:Array Bool}(hT:eB md ops=T)(h:(qh T.2 l.toList==[i,j,k,m]&&l.toList.set i true==li.toList&&l.toList.set j true==lj.toList&&l.toList.set k true==lk.toList&&l.toList.set m true==lm.toList)=true):(Region.ready md ops l==[i,j,k,m]&&l.setIfInBounds i true==li&&l.setIfInBounds j true==lj&&l.setIfInBounds k true==lk&&l.setIfInBounds m true==lm)=true:=by
 simp only[Bool.and_eq_true] at h ⊢
 obtain⟨⟨⟨⟨hr,hsi⟩,hsj⟩,hsk⟩,hsm⟩:=h
 subst hT
 exact⟨⟨⟨⟨by rw[ready_eq];exact hr,jM hsi⟩,jM hsj⟩,jM hsk⟩,jM hsm⟩
end
end Go.Proofs.YtdekaocdmjndaaaGreatW.aH
namespace Go.Proofs.YtdekaocdmjndaaaGreatW.aj
open Go.RowKit
namespace Kd
section
variable {α:Type} {d:Kd α} {e base g o n cap:Nat} {ok okp:Nat->Prop} {w W:World} {v:Value} {xs:List α}
end
section
variable {α:Type} {enc:α->Value} {h1:∀x,(enc x).oneCell'=true} {e base g o n cap:Nat} {ok:Nat->Prop} {W:World} {xs:List α}
end
end Kd
end Go.Proofs.YtdekaocdmjndaaaGreatW.aj
