import Derived.Deep.RegionHeld3
import Derived.Laws.BitsLemmas
import Derived.OrdersHeld
import Derived.RowKit
import Derived.Test.YtkjoilgpmngndaaGreatQ0
set_option linter.all false
namespace Go.Proofs.YtkjoilgpmngndaaGreatW.aJ
section
variable {P:Program} {ops:Array Oper} {Q:Exit->Act->World->Prop} {md:Region.Mode} {S:World->Prop} {ds:List Nat}
def Region.lC(md:Region.Mode)(ops:Array Oper)(i:Nat):Nat->Nat->Bool
 |0,_=>false
 |fuel+1,d=>match ops[d]? with
  |some o=>o.after.any fun e=>Region.binds md e&&(e.on==i||Region.lC md ops i fuel e.on)
  |none=>false
def Region.xq(md:Region.Mode)(ops:Array Oper)(listed:Array Bool):Bool:=
 (List.range ops.size).all fun j=>!listed.getD j false||match ops[j]? with
  |some o=>o.after.all fun e=>!Region.binds md e||listed.getD e.on false
  |none=>true
def Region.lastB(md:Region.Mode)(ops:Array Oper)(listed:Array Bool)(ds:List Nat)(i:Nat):Bool:=
 ds.all fun d=>listed.getD d true||Region.lC md ops i ops.size d
def iT(md:Region.Mode)(ops:Array Oper)(listed:Array Bool):Prop:=
 ∀j oj,ops[j]?=some oj->listed.getD j false=true->∀e ∈ oj.after,Region.binds md e=true->listed.getD e.on false=true
theorem Region.xn{listed:Array Bool}(h:Region.xq md ops listed=true):iT md ops listed:=by
 intro j oj hj hl e he hb
 have hlt:j<ops.size:=(Array.getElem?_eq_some_iff.1 hj).1
 have h1:=List.all_eq_true.1 h j (List.mem_range.2 hlt)
 simp only[hl,hj,Bool.not_true,Bool.false_or] at h1
 have h2:=Array.all_eq_true_iff_forall_mem.1 h1 e he
 simpa[hb] using h2
theorem iT.set{listed:Array Bool}{i:Nat}(h:iT md ops listed)(hi:i ∈ Region.ready md ops listed):iT md ops (listed.setIfInBounds i true):=by
 obtain⟨_,oi,hoi,hall⟩:=mem_ready.1 hi
 intro j oj hj hl e he hb
 by_cases hij:i=j
 .subst hij
  have:oj=oi:=Option.some.inj (hj.symm.trans hoi)
  subst this
  exact getD_set_true (hall e he hb)
 .rw[getD_set_ne false hij] at hl
  exact getD_set_true (h j oj hj hl e he hb)
theorem Region.vJ{listed:Array Bool}{i:Nat}(hc:iT md ops listed):∀(fuel d:Nat),Region.lC md ops i fuel d=true->listed.getD d false=true->listed.getD i false=true
 |0,_,h,_=>by simp[Region.lC] at h
 |fuel+1,d,h,hl=>by
  unfold Region.lC at h
  cases ho:ops[d]? with
  |none=>rw[ho] at h;simp at h
  |some o=>
   rw[ho] at h
   obtain⟨e,he,h1⟩:=Array.any_eq_true'.1 h
   simp only[Bool.and_eq_true,Bool.or_eq_true,beq_iff_eq] at h1
   have hle:=hc d o ho hl e he h1.1
   rcases h1.2 with h2|h2
   .rw[<- h2];exact hle
   .exact Region.vJ hc fuel e.on h2 hle
theorem Region.qX{listed:Array Bool}{i d fuel:Nat}(hc:iT md ops listed)(hr:Region.lC md ops i fuel d=true)(hun:listed.getD i true=false):d ∉ Region.ready md ops listed:=by
 intro hd
 obtain⟨_,o,ho,hall⟩:=mem_ready.1 hd
 have hi:listed.getD i false=true:=by
  cases fuel with
  |zero=>simp[Region.lC] at hr
  |succ n=>
   unfold Region.lC at hr
   rw[ho] at hr
   obtain⟨e,he,h1⟩:=Array.any_eq_true'.1 hr
   simp only[Bool.and_eq_true,Bool.or_eq_true,beq_iff_eq] at h1
   have hle:=hall e he h1.1
   rcases h1.2 with h2|h2
   .rw[<- h2];exact hle
   .exact Region.vJ hc n e.on h2 hle
 rcases Nat.lt_or_ge i listed.size with h'|h'
 .simp[h'] at hun hi
  rw[hun] at hi
  cases hi
 .simp[Array.getElem?_eq_none h'] at hun
def bD(P:Program)(md:Region.Mode)(ops:Array Oper)(Q:Exit->Act->World->Prop)(S:World->Prop)(ds:List Nat):Nat->Array Bool->Act->World->Prop
 |0,listed,a,w=>Region.ready md ops listed=[]/\Q .normal a w
 |fuel+1,listed,a,w=>
  (Region.ready md ops listed=[]->Q .normal a w) /\
  ∀i ∈ Region.ready md ops listed,wpOp P ops Q i (fun a' w'=>(i ∉ ds->S w->S w')/\bD P md ops Q S ds fuel (listed.setIfInBounds i true) a' w') a w
theorem mD:∀(fuel:Nat) (listed:Array Bool) (a:Act) (w:World),bD P md ops Q S ds fuel listed a w->wpAny P md ops Q fuel listed a w
 |0,_,_,_,h=>h
 |fuel+1,_,_,_,h=>⟨h.1,fun i hi=>wpOp_mono (fun a' w' h'=>mD fuel _ a' w' h'.2) (h.2 i hi)⟩
theorem y5{i:Nat}{oi:Oper}{v:Value}(hi:ops[i]?=some oi)(hsel:∀(j:Nat) (o:Oper) cs b,ops[j]?=some o->o.op≠ .select cs b)
  (hQ:∀c a w,Q (.panic c) (a.put oi.dst v) w->Q (.panic c) a w) (n:Nat):
  ∀(fuel:Nat) (listed:Array Bool) (a:Act) (w:World),
   (∀j oj,ops[j]?=some oj->j≠i->listed.getD j true=false->(∀e ∈ oj.after,Region.binds md e=true->e.on≠i)->oi.apart ops oj=true) ->
   iT md ops listed->(∀d ∈ ds,listed.getD d true=false->Region.lC md ops i n d=true) ->
   i ∈ Region.ready md ops listed->YieldsIf P ops S oi v a->S w ->
   bD P md ops Q S ds fuel (listed.setIfInBounds i true) (a.put oi.dst v) w->bD P md ops Q S ds (fuel+1) listed a w:=by
 intro fuel
 induction fuel with
 |zero=>
  intro listed a w _ _ _ hr hy hS H
  refine⟨fun h=>(by rw[h] at hr;cases hr),fun j hj=>?_⟩
  by_cases hji:j=i
  .subst hji;exact hy.wpOp hi hS ⟨fun _ h=>h,H⟩
  .have:=ready_mono hj hji
   rw[H.1] at this
   cases this
 |succ fuel ih=>
  intro listed a w hfree hc hd hr hy hS H
  refine⟨fun h=>(by rw[h] at hr;cases hr),fun j hj=>?_⟩
  by_cases hji:j=i
  .subst hji;exact hy.wpOp hi hS ⟨fun _ h=>h,H⟩
  .have h1:=H.2 j (ready_mono hj hji)
   obtain⟨hjun,oj,hoj,hall⟩:=mem_ready.1 hj
   have yj:=(mem_ready.1 hr).1
   have hnot:∀e ∈ oj.after,Region.binds md e=true->e.on≠i:=fun e he hb heq=>by
    have h1:=hall e he hb
    rw[heq] at h1
    rcases Nat.lt_or_ge i listed.size with h'|h'
    .simp[h'] at yj h1;rw[yj] at h1;cases h1
    .simp[Array.getElem?_eq_none h'] at h1
   have hjd:j ∉ ds:=fun hm=>Region.qX hc (hd j hm hjun) yj hj
   have h2:=wpOp_putIf hoj (hfree j oj hoj hji hjun hnot) (fun cs b=>hsel i oi cs b hi) (fun cs b=>hsel j oj cs b hoj) hQ hy h1
   have hfree':∀k ok,ops[k]?=some ok->k≠i->(listed.setIfInBounds j true).getD k true=false ->
     (∀e ∈ ok.after,Region.binds md e=true->e.on≠i)->oi.apart ops ok=true:=fun k ok hk hki hun hno=>by
    refine hfree k ok hk hki ?_ hno
    by_cases hjk:j=k
    .subst hjk;exact hjun
    .rw[getD_set_ne true hjk] at hun;exact hun
   have hd':∀d ∈ ds,(listed.setIfInBounds j true).getD d true=false->Region.lC md ops i n d=true:=fun d hm hun=>by
    refine hd d hm ?_
    by_cases hjk:j=d
    .subst hjk;exact hjun
    .rw[getD_set_ne true hjk] at hun;exact hun
   refine wpOp_mono (fun a' w' h3=>⟨h3.2.1,ih (listed.setIfInBounds j true) a' w' hfree' (hc.set hj) hd' (ready_mono hr (Ne.symm hji)) h3.1 (h3.2.1 hjd hS) ?_⟩) h2
   rw[Array.setIfInBounds_comm _ _ hji]
   exact h3.2.2
theorem Ce{i:Nat}{oi:Oper}{v:Value}(hi:ops[i]?=some oi)(hsel:∀(j:Nat) (o:Oper) cs b,ops[j]?=some o->o.op≠ .select cs b)
  (hQ:∀c a w,Q (.panic c) (a.put oi.dst v) w->Q (.panic c) a w):
  ∀(fuel:Nat) (listed:Array Bool) (a:Act) (w:World),
   (∀j oj,ops[j]?=some oj->j≠i->listed.getD j true=false->(∀e ∈ oj.after,Region.binds md e=true->e.on≠i)->oi.apart ops oj=true) ->
   i ∈ Region.ready md ops listed->Yields P ops oi v a ->
   bD P md ops Q S ds fuel (listed.setIfInBounds i true) (a.put oi.dst v) w->bD P md ops Q S ds (fuel+1) listed a w:=by
 intro fuel
 induction fuel with
 |zero=>
  intro listed a w _ hr hy H
  refine⟨fun h=>(by rw[h] at hr;cases hr),fun j hj=>?_⟩
  by_cases hji:j=i
  .subst hji;exact(hy.yieldsIf (S:=fun _=>True)).wpOp hi trivial ⟨fun _ h=>h,H⟩
  .have:=ready_mono hj hji
   rw[H.1] at this
   cases this
 |succ fuel ih=>
  intro listed a w hfree hr hy H
  refine⟨fun h=>(by rw[h] at hr;cases hr),fun j hj=>?_⟩
  by_cases hji:j=i
  .subst hji;exact(hy.yieldsIf (S:=fun _=>True)).wpOp hi trivial ⟨fun _ h=>h,H⟩
  .have h1:=H.2 j (ready_mono hj hji)
   obtain⟨hjun,oj,hoj,hall⟩:=mem_ready.1 hj
   have yj:=(mem_ready.1 hr).1
   have hnot:∀e ∈ oj.after,Region.binds md e=true->e.on≠i:=fun e he hb heq=>by
    have h1:=hall e he hb
    rw[heq] at h1
    rcases Nat.lt_or_ge i listed.size with h'|h'
    .simp[h'] at yj h1;rw[yj] at h1;cases h1
    .simp[Array.getElem?_eq_none h'] at h1
   have h2:=wpOp_put hoj (hfree j oj hoj hji hjun hnot) (fun cs b=>hsel i oi cs b hi) (fun cs b=>hsel j oj cs b hoj) hQ hy h1
   have hfree':∀k ok,ops[k]?=some ok->k≠i->(listed.setIfInBounds j true).getD k true=false ->
     (∀e ∈ ok.after,Region.binds md e=true->e.on≠i)->oi.apart ops ok=true:=fun k ok hk hki hun hno=>by
    refine hfree k ok hk hki ?_ hno
    by_cases hjk:j=k
    .subst hjk;exact hjun
    .rw[getD_set_ne true hjk] at hun;exact hun
   refine wpOp_mono (fun a' w' h3=>⟨h3.2.1,ih (listed.setIfInBounds j true) a' w' hfree' (ready_mono hr (Ne.symm hji)) h3.1 ?_⟩) h2
   rw[Array.setIfInBounds_comm _ _ hji]
   exact h3.2.2
theorem zL{i:Nat}{oi:Oper}{v:Value}{fuel:Nat}{listed:Array Bool}{a:Act}{w:World}(hi:ops[i]?=some oi)
  (hs:Region.noSelect ops=true) (hf:Region.free md ops listed i=true) (hr:(Region.ready md ops listed).contains i=true)
  (hc:Region.xq md ops listed=true) (hl:Region.lastB md ops listed ds i=true)
  (hQ:∀c a w,Q (.panic c) (a.put oi.dst v) w->Q (.panic c) a w) (hy:YieldsIf P ops S oi v a) (hS:S w)
  (h:bD P md ops Q S ds fuel (listed.setIfInBounds i true) (a.put oi.dst v) w):bD P md ops Q S ds (fuel+1) listed a w:=
 y5 hi (Region.noSelect_spec hs) hQ ops.size fuel listed a w (Region.free_spec hi hf) (Region.xn hc)
  (fun d hm hun=>by have:=List.all_eq_true.1 hl d hm;rw[hun] at this;simpa using this) (by simpa using hr) hy hS h
theorem Cf{rs:List Nat}{fuel:Nat}{listed:Array Bool}{a:Act}{w:World}(hr:Region.ready md ops listed=rs)(hne:rs≠[])
  (h:∀i ∈ rs,wpOp P ops Q i (fun a' w'=>(i ∉ ds->S w->S w')/\bD P md ops Q S ds fuel (listed.setIfInBounds i true) a' w') a w):bD P md ops Q S ds (fuel+1) listed a w:=
 ⟨fun h0=>absurd (hr▸h0) hne,hr▸h⟩
theorem zM{listed:Array Bool}{a:Act}{w:World}(hr:Region.ready md ops listed=[])(h:Q .normal a w):
  ∀fuel,bD P md ops Q S ds fuel listed a w
 |0=>⟨hr,h⟩
 |_+1=>⟨fun _=>h,by rw[hr];simp⟩
theorem zK{id:Nat}{a:Act}{w:World}(hm:P.follows .mixedOrders=true)
  (h:bD P .any ops Q S ds ops.size (Array.replicate ops.size false) a {w with drawn:=w.drawn+1}):(Code.region id ops true).wp P Q a w:=
 wp_region_any hm (mD _ _ _ _ h)
end
section
variable {P:Program} {ops:Array Oper} {Q:Exit->Act->World->Prop} {md:Region.Mode} {S:World->Prop} {ds:List Nat}
def dX(P:Program)(md:Region.Mode)(ops:Array Oper)(Q:Exit->Act->World->Prop)(S:World->Prop)(ds:List Nat)(fuel:Nat)(listed:Array Bool)(a:Act)(w:World)(rs:List Nat):Prop:=
 ∀i ∈ rs,wpOp P ops Q i (fun a' w'=>(i ∉ ds->S w->S w')/\bD P md ops Q S ds fuel (listed.setIfInBounds i true) a' w') a w
theorem dX.nil{fuel:Nat}{listed:Array Bool}{a:Act}{w:World}:dX P md ops Q S ds fuel listed a w []:=fun _ h=>by cases h
theorem dX.cons{fuel:Nat}{listed:Array Bool}{a:Act}{w:World}{i:Nat}{o:Oper}{rs:List Nat}(ho:ops[i]?=some o)(hd:i ∉ ds)
  (h:∀K':Act->World->Prop,Shut (∀a w,S w->(S w->bD P md ops Q S ds fuel (listed.setIfInBounds i true) a w)->K' a w)->if Region.wanted o (yielded ops a.tmps)=true then Oper.wp P o a w K' Q else K' (a.put o.dst undef) w)
  (hs:dX P md ops Q S ds fuel listed a w rs):dX P md ops Q S ds fuel listed a w (i::rs):=fun j hj=>by
 rcases List.mem_cons.1 hj with rfl|hj
 .exact wpOp_step ho (fun K' hK=>h K' (fun a w hS hW=>hK a w ⟨fun _ _=>hS,hW hS⟩))
 .exact hs j hj
theorem dX.Qn{fuel:Nat}{listed:Array Bool}{a:Act}{w:World}{i:Nat}{o:Oper}{rs:List Nat}(ho:ops[i]?=some o)(hd:i ∈ ds)
  (h:∀K':Act->World->Prop,Shut (∀a w,bD P md ops Q S ds fuel (listed.setIfInBounds i true) a w->K' a w)->if Region.wanted o (yielded ops a.tmps)=true then Oper.wp P o a w K' Q else K' (a.put o.dst undef) w)
  (hs:dX P md ops Q S ds fuel listed a w rs):dX P md ops Q S ds fuel listed a w (i::rs):=fun j hj=>by
 rcases List.mem_cons.1 hj with rfl|hj
 .exact wpOp_step ho (fun K' hK=>h K' (fun a w hW=>hK a w ⟨fun hn=>absurd hd hn,hW⟩))
 .exact hs j hj
theorem kG{rs:List Nat}{fuel:Nat}{listed:Array Bool}{a:Act}{w:World}(hr:Region.ready md ops listed=rs)(hne:rs≠[])
  (h:dX P md ops Q S ds fuel listed a w rs):bD P md ops Q S ds (fuel+1) listed a w:=Cf hr hne h
theorem gz{id n:Nat}{a:Act}{w:World}(l:Array Bool)(hm:P.follows .mixedOrders=true)(hn:ops.size=n)(hl:Array.replicate n false=l)(hS:S w.drew)
  (h:S w.drew->bD P .any ops Q S ds n l a w.drew):(Code.region id ops true).wp P Q a w:=by
 subst hn
 subst hl
 exact zK hm (h hS)
def takeB(md:Region.Mode)(ops:Array Oper)(ds:List Nat)(l l':Array Bool)(i:Nat):Bool:=
 Region.noSelect ops&&Region.free md ops l i&&(Region.ready md ops l).contains i&&Region.xq md ops l&&Region.lastB md ops l ds i&&(l.setIfInBounds i true==l')
theorem Rf{i:Nat}{N:Option Tmp}{oi:Oper}{v:Value}{fuel:Nat}{l:Array Bool}{a:Act}{w:World}(l':Array Bool)(hi:ops[i]?=some oi)(hN:oi.dst=N)(hc:takeB md ops ds l l' i=true)
  (hQ:∀c a w,Q (.panic c) (a.put oi.dst v) w->Q (.panic c) a w) (hy:YieldsIf P ops S oi v a) (hS:S w) {a':Act} (ha:a.put N v=a')
  (h:bD P md ops Q S ds fuel l' a' w):bD P md ops Q S ds (fuel+1) l a w:=by
 subst ha
 subst hN
 simp only[takeB,Bool.and_eq_true,beq_iff_eq] at hc
 obtain⟨⟨⟨⟨⟨h1,h2⟩,h3⟩,h4⟩,h5⟩,h6⟩:=hc
 subst h6
 exact zL hi h1 h2 h3 h4 h5 hQ hy hS h
def QA(md:Region.Mode)(ops:Array Oper)(l l':Array Bool)(i:Nat):Bool:=
 Region.noSelect ops&&Region.free md ops l i&&(Region.ready md ops l).contains i&&(l.setIfInBounds i true==l')
theorem oO{i:Nat}{N:Option Tmp}{oi:Oper}{v:Value}{fuel:Nat}{l:Array Bool}{a:Act}{w:World}(l':Array Bool)(hi:ops[i]?=some oi)(hN:oi.dst=N)(hc:QA md ops l l' i=true)
  (hQ:∀c a w,Q (.panic c) (a.put oi.dst v) w->Q (.panic c) a w) (hy:Yields P ops oi v a) {a':Act} (ha:a.put N v=a')
  (h:bD P md ops Q S ds fuel l' a' w):bD P md ops Q S ds (fuel+1) l a w:=by
 subst ha
 subst hN
 simp only[QA,Bool.and_eq_true,beq_iff_eq] at hc
 obtain⟨⟨⟨h1,h2⟩,h3⟩,h6⟩:=hc
 subst h6
 exact Ce hi (Region.noSelect_spec h1) hQ fuel l a w (Region.free_spec hi h2) (by simpa using h3) hy h
def pJ(md:Region.Mode)(ops:Array Oper)(l l':Array Bool)(i:Nat):Bool:=(Region.ready md ops l==[i])&&(l.setIfInBounds i true==l')
theorem iC{i:Nat}{N:Option Tmp}{oi:Oper}{fuel:Nat}{l:Array Bool}{a:Act}{w:World}(l':Array Bool)(hi:ops[i]?=some oi)(hN:oi.dst=N)(hc:pJ md ops l l' i=true)(hd:i ∉ ds)
  (h:∀K:Act->World->Prop,Shut (∀a' w',S w'->(S w'->bD P md ops Q S ds fuel l' a' w')->K a' w')->if Region.wanted oi (yielded ops a.tmps)=true then Oper.wp P oi a w K Q else K (a.put N undef) w):
  bD P md ops Q S ds (fuel+1) l a w:=by
 subst hN
 simp only[pJ,Bool.and_eq_true,beq_iff_eq] at hc
 obtain⟨h1,h2⟩:=hc
 subst h2
 exact kG h1 (by simp) (dX.cons hi hd (fun K hK=>h K hK) dX.nil)
theorem dW{i:Nat}{N:Option Tmp}{oi:Oper}{fuel:Nat}{l:Array Bool}{a:Act}{w:World}(l':Array Bool)(hi:ops[i]?=some oi)(hN:oi.dst=N)(hc:pJ md ops l l' i=true)(hd:i ∈ ds)
  (h:∀K:Act->World->Prop,Shut (∀a' w',bD P md ops Q S ds fuel l' a' w'->K a' w')->if Region.wanted oi (yielded ops a.tmps)=true then Oper.wp P oi a w K Q else K (a.put N undef) w):
  bD P md ops Q S ds (fuel+1) l a w:=by
 subst hN
 simp only[pJ,Bool.and_eq_true,beq_iff_eq] at hc
 obtain⟨h1,h2⟩:=hc
 subst h2
 exact kG h1 (by simp) (dX.Qn hi hd (fun K hK=>h K hK) dX.nil)
theorem fF{l:Array Bool}{a:Act}{w:World}{n:Nat}(hr:(Region.ready md ops l==[])=true)(h:Q .normal a w):bD P md ops Q S ds n l a w:=zM (by simpa using hr) h n
theorem zQ{i j:Nat}{Ni Nj:Option Tmp}{oi oj:Oper}{fuel:Nat}{l:Array Bool}{a:Act}{w:World}(li lj:Array Bool)(hi:ops[i]?=some oi)(hj:ops[j]?=some oj)(hNi:oi.dst=Ni)(hNj:oj.dst=Nj)
  (hc:(Region.ready md ops l==[i,j]&&l.setIfInBounds i true==li&&l.setIfInBounds j true==lj)=true) (hdi:i ∉ ds) (hdj:j ∉ ds)
  (h1:∀K:Act->World->Prop,Shut (∀a' w',S w'->(S w'->bD P md ops Q S ds fuel li a' w')->K a' w')->if Region.wanted oi (yielded ops a.tmps)=true then Oper.wp P oi a w K Q else K (a.put Ni undef) w)
  (h2:∀K:Act->World->Prop,Shut (∀a' w',S w'->(S w'->bD P md ops Q S ds fuel lj a' w')->K a' w')->if Region.wanted oj (yielded ops a.tmps)=true then Oper.wp P oj a w K Q else K (a.put Nj undef) w):
  bD P md ops Q S ds (fuel+1) l a w:=by
 subst hNi
 subst hNj
 simp only[Bool.and_eq_true,beq_iff_eq] at hc
 obtain⟨⟨h3,h4⟩,h5⟩:=hc
 subst h4
 subst h5
 exact kG h3 (by simp) (dX.cons hi hdi (fun K hK=>h1 K hK) (dX.cons hj hdj (fun K hK=>h2 K hK) dX.nil))
theorem Re{i j k:Nat}{Ni Nj Nk:Option Tmp}{oi oj ok:Oper}{fuel:Nat}{l:Array Bool}{a:Act}{w:World}(li lj lk:Array Bool)(hi:ops[i]?=some oi)(hj:ops[j]?=some oj)(hk:ops[k]?=some ok)(hNi:oi.dst=Ni)(hNj:oj.dst=Nj)(hNk:ok.dst=Nk)
  (hc:(Region.ready md ops l==[i,j,k]&&l.setIfInBounds i true==li&&l.setIfInBounds j true==lj&&l.setIfInBounds k true==lk)=true) (hdi:i ∉ ds) (hdj:j ∉ ds) (hdk:k ∉ ds)
  (h1:∀K:Act->World->Prop,Shut (∀a' w',S w'->(S w'->bD P md ops Q S ds fuel li a' w')->K a' w')->if Region.wanted oi (yielded ops a.tmps)=true then Oper.wp P oi a w K Q else K (a.put Ni undef) w)
  (h2:∀K:Act->World->Prop,Shut (∀a' w',S w'->(S w'->bD P md ops Q S ds fuel lj a' w')->K a' w')->if Region.wanted oj (yielded ops a.tmps)=true then Oper.wp P oj a w K Q else K (a.put Nj undef) w)
  (h3:∀K:Act->World->Prop,Shut (∀a' w',S w'->(S w'->bD P md ops Q S ds fuel lk a' w')->K a' w')->if Region.wanted ok (yielded ops a.tmps)=true then Oper.wp P ok a w K Q else K (a.put Nk undef) w):
  bD P md ops Q S ds (fuel+1) l a w:=by
 subst hNi
 subst hNj
 subst hNk
 simp only[Bool.and_eq_true,beq_iff_eq] at hc
 obtain⟨⟨⟨h4,h5⟩,h6⟩,h7⟩:=hc
 subst h5
 subst h6
 subst h7
 exact kG h4 (by simp) (dX.cons hi hdi (fun K hK=>h1 K hK) (dX.cons hj hdj (fun K hK=>h2 K hK) (dX.cons hk hdk (fun K hK=>h3 K hK) dX.nil)))
def cB:Act->List (Tmp×Value)->Act
 |a,[]=>a
 |a,(n,v)::r=>cB (a.put (some n) v) r
theorem nX{σ:Type}{fuel:Nat}{l:Array Bool}{a:Act}{w:World}(fuel':Nat)(l':Array Bool)(ns:σ->List (Tmp×Value))(F:σ->World->Prop)
  (hcont:∀s w',F s w'->bD P md ops Q S ds fuel' l' (cB a (ns s)) w')
  (h:(∀s w',F s w'->bD P md ops Q S ds fuel' l' (cB a (ns s)) w')->bD P md ops Q S ds fuel l a w):bD P md ops Q S ds fuel l a w:=h hcont
theorem bF{fuel:Nat}{l:Array Bool}{a a':Act}{w:World}(ha:a=a')(h:bD P md ops Q S ds fuel l a' w):bD P md ops Q S ds fuel l a w:=by
 subst ha
 exact h
theorem call_{oi:Oper}{N:Option Tmp}{a:Act}{w:World}{K:Act->World->Prop}(f:FuncId)(args:Array Value)(hw:Region.wanted oi (yielded ops a.tmps)=true)(hN:oi.dst=N)(hrun:(execOp a.eval oi).run P w= .ok (.enter f args) w)
  (h:Calls P f args w fun e w'=>∃v,e= .returned v/\K (a.put N v) w'):if Region.wanted oi (yielded ops a.tmps)=true then Oper.wp P oi a w K Q else K (a.put N undef) w:=by
 rw[if_pos hw]
 subst hN
 unfold Oper.wp
 rw[hrun,Oper.upon_enter]
 refine h.mono fun e w'' hh=>?_
 obtain⟨v,rfl,hk⟩:=hh
 exact hk
theorem xe {f:FuncId} {fn:Func} (hf:P.funcs[f]?=some fn) (hname:(fn.name== "runtime.NumGoroutine")=false) (hb:fn.body.isSome=true) (args:Array Value) (w:World):(callFunc f args).run P w= .ok (.enter f args) w:=by
 have h1:fn.name≠ "runtime.NumGoroutine" :=by simpa using hname
 obtain⟨c,hc⟩:=Option.isSome_iff_exists.1 hb
 simp[callFunc,hf,h1,hc]
theorem fD {oi:Oper} {N:Option Tmp} {a:Act} {w:World} {K:Act->World->Prop} {f:FuncId} {fn:Func} {as2:Array Operand} {ts:Array TypeId} (hf:P.funcs[f]?=some fn) (hname:(fn.name== "runtime.NumGoroutine")=false) (hb:fn.body.isSome=true) (args:Array Value)
  (hw:Region.wanted oi (yielded ops a.tmps)=true) (hN:oi.dst=N) (hop:oi.op= .call {callee:= .value (.func f),args:=as2,argTypes:=ts}) (hargs:as2.map a.eval=args)
  (h:Calls P f args w fun e w'=>∃v,e= .returned v/\K (a.put N v) w'):if Region.wanted oi (yielded ops a.tmps)=true then Oper.wp P oi a w K Q else K (a.put N undef) w:=by
 refine call_ f args hw hN ?_ h
 have he:=xe hf hname hb args w
 unfold execOp
 simp[hop,resolve,Deferred.ofValue,invoke,Act.eval,hargs,he]
theorem iV {rest:List Oper} {oi:Oper} {a:Act} {w:World} (N:Option Tmp) (hd:oi.dst=N) (hg:oi.guard=none) {f:FuncId} {fn:Func} {as2:Array Operand} {ts:Array TypeId} (hf:P.funcs[f]?=some fn) (hname:(fn.name== "runtime.NumGoroutine")=false) (hb:fn.body.isSome=true) (args:Array Value)
  (hop:oi.op= .call {callee:= .value (.func f),args:=as2,argTypes:=ts}) (hargs:as2.map a.eval=args)
  (h:Calls P f args w fun e w'=>∃v,e= .returned v/\wpList P ops Q rest (a.put N v) w'):wpList P ops Q (oi::rest) a w:=by
 refine wpList_plain hg fun K hK=>?_
 have he:=xe hf hname hb args w
 have hrun:(execOp a.eval oi).run P w= .ok (.enter f args) w:=by
  unfold execOp
  simp[hop,resolve,Deferred.ofValue,invoke,Act.eval,hargs,he]
 unfold Oper.wp
 rw[hrun,Oper.upon_enter]
 refine h.mono fun e w'' hh=>?_
 obtain⟨v,rfl,hk⟩:=hh
 subst hd
 exact hK _ _ hk
theorem dV{oi:Oper}{N:Option Tmp}{a:Act}{w w1:World}{v:Value}{K:Act->World->Prop}(hw:Region.wanted oi (yielded ops a.tmps)=true)(hN:oi.dst=N)(hrun:(execOp a.eval oi).run P w= .ok (.value v) w1)
  (h:K (a.put N v) w1):if Region.wanted oi (yielded ops a.tmps)=true then Oper.wp P oi a w K Q else K (a.put N undef) w:=by
 rw[if_pos hw]
 subst hN
 unfold Oper.wp
 rw[hrun]
 exact h
theorem ib{oi:Oper}{a:Act}{w w1:World}{K:Act->World->Prop}(hw:Region.wanted oi (yielded ops a.tmps)=true)(hN:oi.dst=none)(hrun:(execOp a.eval oi).run P w= .ok .skip w1)
  (h:K a w1):if Region.wanted oi (yielded ops a.tmps)=true then Oper.wp P oi a w K Q else K (a.put none undef) w:=by
 rw[if_pos hw]
 unfold Oper.wp
 rw[hrun]
 show K (a.put oi.dst undef) w1
 rw[hN]
 exact h
theorem dL(n:Int):IntKind.i64.wrap n=Go.RowKit.wrap64 n:=by unfold Go.RowKit.wrap64;exact IntKind.wrap_i64 n
theorem ed(n:Int):IntKind.i32.wrap n=Go.RowKit.wrap32 n:=by unfold Go.RowKit.wrap32;exact IntKind.wrap_i32 n
end
end Go.Proofs.YtkjoilgpmngndaaGreatW.aJ
namespace Go.Proofs.YtkjoilgpmngndaaGreatW.aJ
open Go.Proofs.YtkjoilgpmngndaaGreatW.aA (aa)
def sM(md:Region.Mode)(o:Oper):List Nat:=(o.after.toList.filter (fun e=>Region.binds md e)).map (fun e=>e.on)
def Io(md:Region.Mode)(ops:Array Oper)(i:Nat)(oi:Oper):List Nat:=(List.range ops.size).filter fun j=>!(j==i)&&match ops[j]? with
 |some oj=>!(oj.after.any (fun e=>Region.binds md e&&e.on==i)||oi.apart ops oj)
 |none=>false
def eu(md:Region.Mode)(ops:Array Oper):Bool×List (List Nat×List Nat):=(Region.noSelect ops,(List.range ops.size).map fun i=>match ops[i]? with
 |some o=>(sM md o,Io md ops i o)
 |none=>([],[]))
def oN(T:List (List Nat×List Nat))(l:List Bool)(i:Nat):Bool:=!l.getD i true&&match T[i]? with
 |some r=>r.1.all (fun j=>l.getD j false)
 |none=>false
def uo(T:List (List Nat×List Nat))(l:List Bool):List Nat:=(List.range T.length).filter (oN T l)
def Kv(T:List (List Nat×List Nat))(l:List Bool)(i:Nat):Bool:=match T[i]? with
 |some r=>r.2.all (fun j=>l.getD j true)
 |none=>false
def zA(T:List (List Nat×List Nat))(l:List Bool):Bool:=(List.range T.length).all fun j=>!l.getD j false||match T[j]? with
 |some r=>r.1.all (fun k=>l.getD k false)
 |none=>true
def xU(T:List (List Nat×List Nat))(i:Nat):Nat->Nat->Bool
 |0,_=>false
 |fuel+1,d=>match T[d]? with
  |some r=>r.1.any fun j=>j==i||xU T i fuel j
  |none=>false
def lastT(T:List (List Nat×List Nat))(l:List Bool)(ds:List Nat)(i:Nat):Bool:=ds.all fun d=>l.getD d true||xU T i T.length d
section
variable {md:Region.Mode} {ops:Array Oper} {T:Bool×List (List Nat×List Nat)} {l l' li lj lk:Array Bool} {ds:List Nat} {i j k:Nat}
theorem gd(l:Array Bool)(j:Nat)(b:Bool):l.getD j b=l.toList.getD j b:=by simp[Array.getD_eq_getD_getElem?,List.getD_eq_getElem?_getD]
theorem C9(o:Oper)(p:Nat->Bool):o.after.all (fun e=>!Region.binds md e||p e.on)=(sM md o).all p:=by
 unfold sM
 rw[<- Array.all_toList]
 induction o.after.toList with
 |nil=>rfl
 |cons e r ih=>
  rw[List.all_cons,ih,List.filter_cons]
  cases h:Region.binds md e<;>simp
theorem PS(o:Oper)(p:Nat->Bool):o.after.any (fun e=>Region.binds md e&&p e.on)=(sM md o).any p:=by
 unfold sM
 rw[<- Array.any_toList]
 induction o.after.toList with
 |nil=>rfl
 |cons e r ih=>
  rw[List.any_cons,ih,List.filter_cons]
  cases h:Region.binds md e<;>simp
theorem oL:(eu md ops).2.length=ops.size:=by simp[eu]
theorem sG{o:Oper}(h:ops[i]?=some o):(eu md ops).2[i]?=some (sM md o,Io md ops i o):=by
 have hi:=(Array.getElem?_eq_some_iff.1 h).1
 unfold eu
 rw[List.getElem?_map,List.getElem?_range hi,Option.map_some,h]
theorem sH(h:ops[i]?=none):(eu md ops).2[i]?=none:=by
 have hi:ops.size<=i:=Array.getElem?_eq_none_iff.1 h
 exact List.getElem?_eq_none (by rw[oL];exact hi)
theorem LP:oN (eu md ops).2 l.toList i=(!l.getD i true&&((ops[i]?).map (·.after.all fun e=>!Region.binds md e||l.getD e.on false)).getD false):=by
 unfold oN
 rw[gd]
 cases h:ops[i]? with
 |none=>rw[sH h];rfl
 |some o=>
  rw[sG h]
  simp only[Option.map_some,Option.getD_some]
  rw[<- C9]
  simp only[gd]
theorem ready_eq:Region.ready md ops l=uo (eu md ops).2 l.toList:=by
 unfold Region.ready uo
 rw[oL]
 refine List.filter_congr (fun i _=>?_)
 rw[LP]
theorem free_eq:Region.free md ops l i=Kv (eu md ops).2 l.toList i:=by
 unfold Region.free Kv
 cases h:ops[i]? with
 |none=>rw[sH h]
 |some oi=>
  rw[sG h]
  simp only[Io]
  rw[List.all_filter]
  congr 1
  funext j
  rw[gd]
  cases hj:ops[j]? with
  |none=>cases(j==i)<;>cases(l.toList.getD j true)<;>simp
  |some oj=>
   cases(j==i)<;>cases(l.toList.getD j true)<;>cases(oj.after.any (fun e=>Region.binds md e&&e.on==i)||oi.apart ops oj)<;>simp_all
theorem Qs:Region.xq md ops l=zA (eu md ops).2 l.toList:=by
 unfold Region.xq zA
 rw[oL]
 congr 1
 funext j
 rw[gd]
 cases h:ops[j]? with
 |none=>rw[sH h]
 |some o=>
  rw[sG h]
  simp only
  rw[<- C9]
  simp only[gd]
theorem Jw:∀(fuel d:Nat),Region.lC md ops i fuel d=xU (eu md ops).2 i fuel d
 |0,_=>rfl
 |fuel+1,d=>by
  unfold Region.lC xU
  cases h:ops[d]? with
  |none=>rw[sH h]
  |some o=>
   rw[sG h]
   simp only
   rw[<- PS]
   congr 1
   funext e
   rw[Jw fuel]
theorem U8:Region.lastB md ops l ds i=lastT (eu md ops).2 l.toList ds i:=by
 unfold Region.lastB lastT
 rw[oL]
 congr 1
 funext d
 rw[gd,Jw]
theorem yI(h:oN T.2 l.toList i=true)(hT:eu md ops=T):(Region.ready md ops l).contains i=true:=by
 subst hT
 rw[ready_eq]
 unfold uo
 rw[List.contains_iff_mem,List.mem_filter,List.mem_range]
 refine⟨?_,h⟩
 unfold oN at h
 rw[Bool.and_eq_true] at h
 cases hq:(eu md ops).2[i]? with
 |none=>rw[hq] at h;simp at h
 |some r=>exact(List.getElem?_eq_some_iff.1 hq).1
theorem rA(h:(l.toList.set i true==l'.toList)=true):(l.setIfInBounds i true==l')=true:=by
 rw[beq_iff_eq] at h ⊢
 apply Array.ext'
 rw[Array.toList_setIfInBounds]
 exact h
def Xf(T:Bool×List (List Nat×List Nat))(l l':List Bool)(i:Nat):Bool:=T.1&&Kv T.2 l i&&oN T.2 l i&&(l.set i true==l')
theorem dQ(hT:eu md ops=T)(h:Xf T l.toList l'.toList i=true):QA md ops l l' i=true:=by
 simp only[Xf,Bool.and_eq_true] at h
 obtain⟨⟨⟨h1,h2⟩,h3⟩,h4⟩:=h
 have h5:=yI h3 hT
 have h6:=rA h4
 subst hT
 simp only[QA,Bool.and_eq_true]
 exact⟨⟨⟨h1,by rw[free_eq];exact h2⟩,h5⟩,h6⟩
def Rh(T:Bool×List (List Nat×List Nat))(ds:List Nat)(l l':List Bool)(i:Nat):Bool:=T.1&&Kv T.2 l i&&oN T.2 l i&&zA T.2 l&&lastT T.2 l ds i&&(l.set i true==l')
theorem UX(hT:eu md ops=T)(h:Rh T ds l.toList l'.toList i=true):takeB md ops ds l l' i=true:=by
 simp only[Rh,Bool.and_eq_true] at h
 obtain⟨⟨⟨⟨⟨h1,h2⟩,h3⟩,h4⟩,h5⟩,h6⟩:=h
 have h7:=yI h3 hT
 have h8:=rA h6
 subst hT
 simp only[takeB,Bool.and_eq_true]
 exact⟨⟨⟨⟨⟨h1,by rw[free_eq];exact h2⟩,h7⟩,by rw[Qs];exact h4⟩,by rw[U8];exact h5⟩,h8⟩
theorem aN(hT:eu md ops=T)(h:(uo T.2 l.toList==[i]&&l.toList.set i true==l'.toList)=true):pJ md ops l l' i=true:=by
 simp only[Bool.and_eq_true] at h
 obtain⟨h1,h2⟩:=h
 subst hT
 simp only[pJ,Bool.and_eq_true]
 exact⟨by rw[ready_eq];exact h1,rA h2⟩
theorem nN(hT:eu md ops=T)(h:(uo T.2 l.toList==[i,j]&&l.toList.set i true==li.toList&&l.toList.set j true==lj.toList)=true):(Region.ready md ops l==[i,j]&&l.setIfInBounds i true==li&&l.setIfInBounds j true==lj)=true:=by
 simp only[Bool.and_eq_true] at h ⊢
 obtain⟨⟨h1,h2⟩,h3⟩:=h
 subst hT
 exact⟨⟨by rw[ready_eq];exact h1,rA h2⟩,rA h3⟩
theorem Jc(hT:eu md ops=T)(h:(uo T.2 l.toList==[i,j,k]&&l.toList.set i true==li.toList&&l.toList.set j true==lj.toList&&l.toList.set k true==lk.toList)=true):
  (Region.ready md ops l==[i,j,k]&&l.setIfInBounds i true==li&&l.setIfInBounds j true==lj&&l.setIfInBounds k true==lk)=true:=by
 simp only[Bool.and_eq_true] at h ⊢
 obtain⟨⟨⟨h1,h2⟩,h3⟩,h4⟩:=h
 subst hT
 exact⟨⟨⟨by rw[ready_eq];exact h1,rA h2⟩,rA h3⟩,rA h4⟩
theorem bQ(hT:eu md ops=T)(h:(uo T.2 l.toList==[])=true):(Region.ready md ops l==[])=true:=by
 subst hT
 rw[ready_eq]
 exact h
def Y6(B:List Nat)(d:Nat):List Nat->Nat
 |[]=>0
 |n::r=>(2^n|||(if n<d then B.getD n 0 else 0))|||Y6 B d r
def bO(T:List (List Nat×List Nat))(B:List Nat):Bool:=(List.range T.length).all fun d=>match T[d]? with
 |some r=>(B.getD d 0|||Y6 B d r.1)==Y6 B d r.1
 |none=>false
theorem Od{B:List Nat}{d i:Nat}:∀{ns:List Nat},(Y6 B d ns).testBit i=true->∃n ∈ ns,n=i\/(n<d/\(B.getD n 0).testBit i=true)
 |[],h=>by simp[Y6] at h
 |n::r,h=>by
  unfold Y6 at h
  rw[Nat.testBit_or,Nat.testBit_or,Bool.or_eq_true,Bool.or_eq_true] at h
  rcases h with(h|h)|h
  .rw[Nat.testBit_two_pow] at h
   exact⟨n,List.mem_cons_self,.inl (by simpa using h)⟩
  .by_cases hn:n<d
   .rw[if_pos hn] at h
    exact⟨n,List.mem_cons_self,.inr ⟨hn,h⟩⟩
   .rw[if_neg hn] at h
    simp at h
  .obtain⟨m,hm,h2⟩:=Od h
   exact⟨m,List.mem_cons_of_mem _ hm,h2⟩
theorem CY{T:List (List Nat×List Nat)}{B:List Nat}(hB:bO T B=true):∀(fuel d:Nat),d<fuel->d<T.length->(B.getD d 0).testBit i=true->xU T i fuel d=true
 |0,d,h,_,_=>by omega
 |fuel+1,d,h,hd,hb=>by
  have h1:=List.all_eq_true.1 hB d (List.mem_range.2 hd)
  cases hr:T[d]? with
  |none=>rw[hr] at h1;simp at h1
  |some r=>
   rw[hr] at h1
   simp only[beq_iff_eq] at h1
   have h2:(Y6 B d r.1).testBit i=true:=by rw[<- h1,Nat.testBit_or,hb,Bool.true_or]
   obtain⟨n,hn,h3⟩:=Od h2
   unfold xU
   rw[hr]
   simp only
   rw[List.any_eq_true]
   refine⟨n,hn,?_⟩
   rcases h3 with rfl|⟨h4,h5⟩
   .simp
   .rw[CY hB fuel n (by omega) (by omega) h5,Bool.or_true]
def XP(T:List (List Nat×List Nat))(B:List Nat)(l:List Bool)(ds:List Nat)(i:Nat):Bool:=ds.all fun d=>l.getD d true||(decide (d<T.length)&&(B.getD d 0).testBit i)
def Oe(T:Bool×List (List Nat×List Nat))(B:List Nat)(ds:List Nat)(l l':List Bool)(i:Nat):Bool:=T.1&&Kv T.2 l i&&oN T.2 l i&&zA T.2 l&&XP T.2 B l ds i&&(l.set i true==l')
theorem Jd{B:List Nat}(hT:eu md ops=T)(hB:bO T.2 B=true)(h:Oe T B ds l.toList l'.toList i=true):takeB md ops ds l l' i=true:=by
 refine UX hT ?_
 simp only[Oe,Rh,Bool.and_eq_true] at h ⊢
 obtain⟨⟨⟨⟨⟨h1,h2⟩,h3⟩,h4⟩,h5⟩,h6⟩:=h
 refine⟨⟨⟨⟨⟨h1,h2⟩,h3⟩,h4⟩,?_⟩,h6⟩
 unfold XP at h5
 unfold lastT
 rw[List.all_eq_true] at h5 ⊢
 intro d hd
 have h7:=h5 d hd
 rw[Bool.or_eq_true,Bool.and_eq_true,decide_eq_true_eq] at h7
 rcases h7 with h7|⟨h8,h9⟩
 .rw[h7,Bool.true_or]
 .rw[CY hB _ d h8 h8 h9,Bool.or_true]
theorem bK{P:Program}{Q:Exit->Act->World->Prop}{S:World->Prop}{n:Nat}{a:Act}{w:World}{B:List Nat}(hT:eu md ops=T)(hB:bO T.2 B=true)(h:aa (eu md ops=T)->aa (bO T.2 B=true)->bD P md ops Q S ds n l a w):bD P md ops Q S ds n l a w:=h ⟨hT⟩ ⟨hB⟩
end
def tq:Code->Nat->Option (Array Oper)
 | .region id ops _,k=>if id==k then some ops else none
 | .seq a b,k=>match tq a k with
  |some o=>some o
  |none=>tq b k
 | .cond _ a b,k=>match tq a k with
  |some o=>some o
  |none=>tq b k
 | .block _ c,k=>tq c k
 | .loop c,k=>tq c k
 | .scope c,k=>tq c k
 | .rangeFunc _ _ a b,k=>match tq a k with
  |some o=>some o
  |none=>tq b k
 |_,_=>none
def opsOf(f:Func)(k:Nat):Array Oper:=((f.body.bind fun c=>tq c k)).getD #[]
end Go.Proofs.YtkjoilgpmngndaaGreatW.aJ
namespace Go.Proofs.YtkjoilgpmngndaaGreatW.aJ
section
variable {P:Program} {ops:Array Oper} {Q:Exit->Act->World->Prop} {md:Region.Mode} {S:World->Prop} {ds:List Nat} {T:Bool×List (List Nat×List Nat)}
end
end Go.Proofs.YtkjoilgpmngndaaGreatW.aJ
namespace Go.Proofs.YtkjoilgpmngndaaGreatW.aA
open Go.RowKit
namespace Kd
section
variable {α:Type} {d:Kd α} {e base g o n cap:Nat} {ok okp:Nat->Prop} {w W:World} {v:Value} {xs:List α}
end
section
variable {α:Type} {enc:α->Value} {h1:∀x,(enc x).oneCell'=true} {e base g o n cap:Nat} {ok:Nat->Prop} {W:World} {xs:List α}
end
end Kd
end Go.Proofs.YtkjoilgpmngndaaGreatW.aA
namespace Go.Proofs.YtkjoilgpmngndaaGreatW.aA
open Go.RowKit
namespace Kd
def tag{α:Type}(f:Nat->Nat)(d:Kd α):Kd (α×Nat) where
 sz:=d.sz
 E:=d.E
 K:=fun w x cs=>d.K w x.1 cs
 M:=fun w base ok x cs=>d.M w base (fun k=>ok k/\f k=x.2) x.1 cs
 lN:=fun h=>d.lN h
 kT:=fun h=>d.kT h
 ja:=fun hb h=>d.ja hb h
 gT:=fun h=>d.gT h
 fK:=fun hok h=>d.fK (fun k hk=>⟨hok k hk.1,hk.2⟩) h
 gG:=fun h=>d.fK (fun _ hk=>⟨⟨hk.1.1,hk.2⟩,hk.1.2⟩) (d.gG h)
 jo:=fun hm h=>d.jo (fun k hk=>hm k hk.1) h
 iZ:=fun hb h=>d.iZ hb h
def raw(sz:Nat):Kd (List Value) where
 sz:=sz
 E:=[]
 K:=fun _ x cs=>cs=x/\cs.length=sz/\∀u ∈ cs,u.oneCell'=true
 M:=fun _ _ _ x cs=>cs=x/\cs.length=sz/\∀u ∈ cs,u.oneCell'=true
 lN:=fun h=>h.2.1
 kT:=fun h=>h.2.2
 ja:=fun _ h=>h
 gT:=fun h=>h
 fK:=fun _ h=>h
 gG:=fun h=>h
 jo:=fun _ h=>h
 iZ:=fun _ h=>h
def S{α:Type}(d:Kd α)(e:Nat)(w:World)(base:Nat)(ok:Nat->Prop)(v:Value)(xs:List α):Prop:=∃f,(tag f d).R e w base ok v xs.zipIdx
section
variable {α β:Type} {d:Kd α} {d':Kd β} {e e':Nat} {w w1 W:World} {base b:Nat} {ok ok' okv oku:Nat->Prop} {u v:Value} {xs:List α} {ys:List β}
theorem NF{ad:Addr}{n cap:Nat}(h:d.R e w base ok (.slice (some ad) n cap) xs):∃g,ad=⟨g,0,none⟩:=by
 obtain⟨_,inner,ho,hr⟩:=h
 rcases ho.2 with⟨hv,_⟩|⟨g,cap',cur,hv,_⟩
 .cases hv
 .injection hv with ha _ _
  injection ha with ha
  exact⟨g,ha⟩
theorem aa9{ad:Addr}{n cap:Nat}(h:d.R e W base ok (.slice (some ad) n cap) xs)(z:α)(i:Int)(h0:0<=i)(h1:i<n):
  ∃c,c.length=d.sz/\d.M W base (fun k=>ok k/\some k≠(Value.slice (some ad) n cap).ownBlock) (xs.getD i.toNat z) c/\∀j u,c[j]?=some u->W.cell? (ad.add (i.toNat*d.sz+j))=some u:=by
 obtain⟨g,rfl⟩:=NF h
 obtain⟨c,hcl,hM,hcc,_⟩:=aba h z i h0 h1
 refine⟨c,hcl,d.fK (fun k hk=>⟨hk.1,fun he=>hk.2 (by simpa[Value.ownBlock] using he)⟩) hM,fun j u hu=>?_⟩
 rw[Iy,Nat.zero_add]
 exact hcc j u hu
theorem zC(hE:d.E=[])(h:d.R e w base ok v xs):d.R e w base (fun k=>some k=v.ownBlock) v xs:=by
 obtain⟨h0,inner,ho,hr⟩:=h
 refine⟨fun k hk=>hk.symm,inner,ho,hr.ru (fun p c hp=>d.fK (fun k hk=>?_) (d.gG hp))⟩
 obtain⟨_,_,_,q,hq,_⟩:=hk
 rw[hE] at hq
 cases hq
theorem Yw(d:Kd α)(e:Nat)(w:World)(base:Nat)(ok:Nat->Prop):S d e w base ok (.slice none 0 0) []:=⟨fun _=>0,jL _ _ _ _ _⟩
end
section
variable {α β:Type} {d:Kd α} {d':Kd β} {e e' g:Nat} {w w1 W:World} {base b:Nat} {ok ok' okv oku:Nat->Prop} {u v:Value} {xs:List α} {ys:List β}
end
section
open Classical in
variable {P:Program} {ops:Array Oper} {rest:List Oper} {o:Oper} {a:Act} {Q:Exit->Act->World->Prop} {Kc:Act->World->Prop} {α:Type}
end
def gap{α:Type}(f:Nat->Nat)(d:Kd α)(i:Nat)(c:List Value):Kd (α×Nat) where
 sz:=d.sz
 E:=d.E
 K:=fun w x cs=>(x.2=i->cs=c/\cs.length=d.sz/\∀u ∈ cs,u.oneCell'=true)/\(x.2≠i->d.K w x.1 cs)
 M:=fun w base ok x cs=>(x.2=i->cs=c/\cs.length=d.sz/\∀u ∈ cs,u.oneCell'=true)/\(x.2≠i->d.M w base (fun k=>ok k/\f k=x.2) x.1 cs)
 lN:=fun {w x cs} h=>by
  by_cases hx:x.2=i
  .exact(h.1 hx).2.1
  .exact d.lN (h.2 hx)
 kT:=fun {w x cs} h=>by
  by_cases hx:x.2=i
  .exact(h.1 hx).2.2
  .exact d.kT (h.2 hx)
 ja:=fun hb h=>⟨h.1,fun hx=>d.ja hb (h.2 hx)⟩
 gT:=fun h=>⟨h.1,fun hx=>d.gT (h.2 hx)⟩
 fK:=fun hok h=>⟨h.1,fun hx=>d.fK (fun k hk=>⟨hok k hk.1,hk.2⟩) (h.2 hx)⟩
 gG:=fun h=>⟨h.1,fun hx=>d.fK (fun _ hk=>⟨⟨hk.1.1,hk.2⟩,hk.1.2⟩) (d.gG (h.2 hx))⟩
 jo:=fun hm h=>⟨h.1,fun hx=>d.jo (fun k hk=>hm k hk.1) (h.2 hx)⟩
 iZ:=fun hb h=>⟨h.1,fun hx=>d.iZ hb (h.2 hx)⟩
def H{α:Type}(d:Kd α)(e:Nat)(w:World)(base:Nat)(ok:Nat->Prop)(v:Value)(xs:List α)(i:Int)(oki:Nat->Prop)(c:List Value):Prop:=
 (∀k,oki k->ok k)/\∃f,(gap f d i.toNat c).R e w base (fun k=>ok k/\¬oki k) v xs.zipIdx
section
variable {α β:Type} {d:Kd α} {e e' g n cap:Nat} {w w1 W:World} {base:Nat} {ok ok' oki okp:Nat->Prop} {u v:Value} {xs:List α} {i:Int} {c:List Value}
open Classical in
end
section
variable {P:Program} {ops:Array Oper} {rest:List Oper} {o:Oper} {a:Act} {Q:Exit->Act->World->Prop} {α:Type}
end
end Kd
end Go.Proofs.YtkjoilgpmngndaaGreatW.aA
