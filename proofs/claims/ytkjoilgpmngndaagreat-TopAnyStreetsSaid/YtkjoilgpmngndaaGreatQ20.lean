import Derived.Test.YtkjoilgpmngndaaGreatQ18
import Derived.Test.YtkjoilgpmngndaaGreatQ19
set_option linter.all false
namespace Go.Proofs.YtkjoilgpmngndaaGreat
open Go.RowKit Go.Shelf Go.Proofs.YtkjoilgpmngndaaGreat.av Go.Proofs.YtkjoilgpmngndaaGreatW.aA Go.Proofs.YtkjoilgpmngndaaGreatW.aJ
def ji(base n:Int):Int:=n-n%base
def mi(base n:Int):Int:=ji base (n+base-1)
theorem nJ{base n:Int}(hb:2<=base):n-base<ji base n/\ji base n<=n:=by
 unfold ji
 have h1:=Int.emod_nonneg n (show base≠0 by omega)
 have h2:=Int.emod_lt_of_pos n (show 0<base by omega)
 omega
set_option maxRecDepth 100000 in
theorem rV(base n:Int)(u1 u2:Value)(w:World)(hb:2<=base)(hb1:base<=100)(hn:0<=n)(hn1:n<=1000000):
  Calls Tryz.prog 153 #[.agg #[.int .i64 base,u1,u2],.int .i64 n] w fun e w'=>e= .returned (.int .i64 (ji base n))/\Below w.heap.size w w':=by
 have hr:=nJ (n:=n) hb
 have hne:(base==0)=false:=by simpa using (show base≠0 by omega)
 go_enter Tryz.func153,Tryz.ntmps153
 go_wp2_with fail
 go_ret
 refine⟨?_,ae (Below.refl _ _) _⟩
 have e:wrap64 (n-n%base)=ji base n:=by
  unfold ji at hr ⊢
  unfold wrap64
  omega
 exact congrArg (fun v=>Ending.returned (.int .i64 v)) e
set_option maxRecDepth 100000 in
theorem yV(base n:Int)(u1 u2:Value)(w:World)(hb:2<=base)(hb1:base<=100)(hn:0<=n)(hn1:n<=999000):
  Calls Tryz.prog 154 #[.agg #[.int .i64 base,u1,u2],.int .i64 n] w fun e w'=>e= .returned (.int .i64 (mi base n))/\Below w.heap.size w w':=by
 go_enter Tryz.func154,Tryz.ntmps154
 go_wp2_with fail
 refine(rV base _ u1 u2 _ hb hb1 (by omega) (by omega)).mono ?_
 rintro e w' ⟨rfl,hb'⟩
 go_wp2_with fail
 go_ret
 exact⟨rfl,(ae (Below.refl _ _) _).trans (hb'.mono (by simp))⟩
set_option maxRecDepth 100000 in
theorem Jm(w:World):Calls Tryz.prog 165 #[] w fun e w'=>e= .returned (.agg #[.func (.func 153) #[] #[],.func (.func 154) #[] #[]])/\Below w.heap.size w w':=by
 go_enter Tryz.func165,Tryz.ntmps165
 go_wp2_with fail
 refine bodyPost_ret (results_cell_row rfl _ _ w.heap.size 244 #[.func (.func 153) #[] #[],.func (.func 154) #[] #[]] (0,0) _ rfl ?_ Tryz.underlying244 rfl (by kernel_rfl)) rfl ?_
 .exact aR.new w [.func (.func 153) #[] #[],.func (.func 154) #[] #[]] 244
 .exact⟨rfl,ae (Below.refl _ _) _⟩
theorem Og(a b:Value)(k:Nat)(hk:k<2)(w:World):(Instr.index 244 (.agg #[a,b]) (.int .i64 (k:Int))).run Tryz.prog w= .ok (.agg #[if k=0 then a else b]) w:=by
 have h:=Tryz.underlying244
 rcases(show k=0\/k=1 by omega) with rfl|rfl
 .simp[Instr.index,run_underlying h,asIntOf,go_sem]
 .simp[Instr.index,run_underlying h,asIntOf,go_sem]
theorem Ro(a b:Value)(w:World):(Instr.index 244 (.agg #[a,b]) (.int .i64 0)).run Tryz.prog w= .ok (.agg #[a]) w:=Og a b 0 (by omega) w
theorem Rn(a b:Value)(w:World):(Instr.index 244 (.agg #[a,b]) (.int .i64 1)).run Tryz.prog w= .ok (.agg #[b]) w:=Og a b 1 (by omega) w
attribute [local go_sem] Ro Rn
set_option maxRecDepth 100000 in
theorem MG(base n o:Int)(u1 u2:Value)(w:World)(hb:2<=base)(hb1:base<=100)(hn:0<=o)(hn1:o<=999000):
  Calls Tryz.prog 149 #[.agg #[.int .i64 base,u1,u2],.int .i64 n,.int .i64 o] w fun e w'=>e= .returned (.bool (decide (ji base o=n)||decide (mi base o=n)))/\Below w.heap.size w w':=by
 go_enter Tryz.func149,Tryz.ntmps149
 go_wp2_with fail
 refine(Jm _).mono ?_
 rintro e w1 ⟨rfl,hb1'⟩
 have HB:=aa.mk ((ae (Below.refl w.heap.size w) (.cells #[.int .i64 base,u1,u2] 110)).trans (hb1'.mono (by simp)))
 have BT:=aa.mk ((aR.new w [.int .i64 base,u1,u2] 110).below hb1')
 clear hb1'
 go_wp2_with fail
 go_loopw [10] (fun i wr=>∃k:Nat,k<=2/\i= .int .i64 k/\(0<k->ji base o≠n)/\(1<k->mi base o≠n)/\aa (Below w.heap.size w wr)/\aa (aR wr w.heap.size [.int .i64 base,u1,u2] 110))
  (fun i _=>2-(intOf i).toNat)
 case atStart=>exact⟨0,by omega,rfl,by omega,by omega,HB,BT⟩
 case round=>
  obtain⟨k,hk,rfl,hne0,hne1,HB2,BT2⟩:=hrel
  have hc0:=BT2.out.cell 0
  have hc1:=BT2.out.cell 1
  have hc2:=BT2.out.cell 2
  simp only[List.getElem?_cons_zero,List.getElem?_cons_succ] at hc0 hc1 hc2
  have hlt:=BT2.out.lt
  rcases Nat.lt_or_ge k 2 with hk2|hk2
  .rcases(show k=0\/k=1 by omega) with rfl|rfl
   .go_wp2_with fail
    refine(rV base o u1 u2 _ hb hb1 hn (by omega)).mono ?_
    rintro e w4 ⟨rfl,hb4⟩
    have kY:=aa.mk ((ae HB2.out (.cells #[.func (.func 153) #[] #[]] 243)).trans (hb4.mono (ae HB2.out _).size))
    have BT4:=aa.mk ((BT2.out.alloc (.cells #[.func (.func 153) #[] #[]] 243)).below hb4)
    clear hb4
    by_cases p0:ji base o=n
    .go_wp2_with fail
     go_ret
     exact⟨by simp[p0],kY.out⟩
    .go_wp2_with fail
     exact⟨⟨1,by omega,rfl,fun _=>p0,by omega,kY,BT4⟩,by simp[intOf]⟩
   .go_wp2_with fail
    refine(yV base o u1 u2 _ hb hb1 hn hn1).mono ?_
    rintro e w4 ⟨rfl,hb4⟩
    have kY:=aa.mk ((ae HB2.out (.cells #[.func (.func 154) #[] #[]] 243)).trans (hb4.mono (ae HB2.out _).size))
    have BT4:=aa.mk ((BT2.out.alloc (.cells #[.func (.func 154) #[] #[]] 243)).below hb4)
    clear hb4
    by_cases p0:mi base o=n
    .go_wp2_with fail
     go_ret
     exact⟨by simp[p0],kY.out⟩
    .go_wp2_with fail
     exact⟨⟨2,by omega,rfl,fun _=>hne0 (by omega),fun _=>p0,kY,BT4⟩,by simp[intOf]⟩
  .obtain rfl:k=2:=by omega
   go_wp2_with fail
   go_ret
   exact⟨by simp[hne0 (by omega),hne1 (by omega)],HB2.out⟩
end Go.Proofs.YtkjoilgpmngndaaGreat
namespace Go.Proofs.YtkjoilgpmngndaaGreat
open Go.RowKit Go.Shelf Go.Proofs.YtkjoilgpmngndaaGreat.av Go.Proofs.YtkjoilgpmngndaaGreatW.aA
def om(j:Nat):List Int:=(List.range j).map (fun i:Nat=>(i:Int))
theorem Ng(j:Nat):om (j+1)=om j++[(j:Int)]:=by
 unfold om
 rw[List.range_succ,List.map_append]
 rfl
theorem Dp(j:Nat):(om j).length=j:=by simp[om]
theorem Rw{n i:Nat}(h:i<n):rd (om n) (i:Int)=(i:Int):=by
 simp[rd,om,List.getD,h]
theorem DF{xs:List Int}{p i:Nat}{v:Int}(h:p<xs.length):rd (xs.set p v) (i:Int)=if i=p then v else rd xs (i:Int):=by
 unfold rd
 simp only[Int.toNat_natCast,List.getD,List.getElem?_set]
 by_cases e:i=p
 .subst e
  simp[h]
 .rw[if_neg (fun e'=>e e'.symm),if_neg e]
theorem UM{x:Int}(h1: -1000000<=x)(h2:x<=1000000):wrap64 x=x:=IntWalk.wrap64_in _ (by omega)
theorem Zz(n:Nat)(hn:n<=1000)(ws:List Int)(k:Nat):∀m j:Nat,j+m=n->ay.l0 (m+k+1) (n:Int) ws (om j) (j:Int)=ay.l1 k (n:Int) ws (om n) ((n:Int)-1):=by
 intro m
 induction m with
 |zero=>
  intro j hj
  obtain rfl:j=n:=by omega
  rw[show 0+k+1=k+1 by omega,ay.l0,if_neg (by omega),UM (by omega) (by omega)]
 |succ m ih=>
  intro j hj
  rw[show m+1+k+1=(m+k+1)+1 by omega,ay.l0,if_pos (by omega),if_pos (by rw[Dp];omega),UM (by omega) (by omega),<- Ng,show((j:Int)+1)=((j+1:Nat):Int) by omega]
  exact ih (j+1) (by omega)
structure ky(n:Nat)(s:Nat->Nat)(xs:List Int):Prop where
 len:xs.length=n
 at_:∀i:Nat,i<n->rd xs (i:Int)=(s i:Int)
def sw(i q x:Nat):Nat:=if x=q then i else if x=i then q else x
theorem XM(i q x:Nat):sw i q (sw i q x)=x:=by
 unfold sw
 by_cases h1:x=q
 .by_cases h2:i=q<;>simp[h1,h2]
 .by_cases h2:x=i
  .simp[h1,h2]
  .simp[h1,h2]
theorem Rk{n i q x:Nat}(hi:i<n)(hq:q<n)(hx:x<n):sw i q x<n:=by
 unfold sw
 by_cases h1:x=q
 .rw[if_pos h1];exact hi
 .rw[if_neg h1]
  by_cases h2:x=i
  .rw[if_pos h2];exact hq
  .rw[if_neg h2];exact hx
theorem Ren.sw{n:Nat}{s t:Nat->Nat}(h:Ren n s t){i q:Nat}(hi:i<n)(hq:q<n):Ren n (fun x=>s (sw i q x)) (fun y=>sw i q (t y)):=
 ⟨fun x hx=>h.um _ (Rk hi hq hx),fun y hy=>Rk hi hq (h.vD y hy),fun x hx=>by
  show Go.Proofs.YtkjoilgpmngndaaGreat.sw i q (t (s (Go.Proofs.YtkjoilgpmngndaaGreat.sw i q x)))=x
  rw[h.ts _ (Rk hi hq hx),XM],fun y hy=>by
  show s (Go.Proofs.YtkjoilgpmngndaaGreat.sw i q (Go.Proofs.YtkjoilgpmngndaaGreat.sw i q (t y)))=y
  rw[XM,h.st y hy]⟩
theorem ky.sw{n:Nat}{s:Nat->Nat}{xs:List Int}(h:ky n s xs){i q:Nat}(hi:i<n)(hq:q<n):ky n (fun x=>s (sw i q x)) ((xs.set i (rd xs (q:Int))).set q (rd xs (i:Int))):=by
 refine⟨by rw[List.length_set,List.length_set,h.len],fun x hx=>?_⟩
 rw[DF (by rw[List.length_set,h.len];exact hq),DF (by rw[h.len];exact hi)]
 unfold Go.Proofs.YtkjoilgpmngndaaGreat.sw
 by_cases h1:x=q
 .rw[if_pos h1,if_pos h1,h.at_ i hi]
 .rw[if_neg h1,if_neg h1]
  by_cases h2:x=i
  .rw[if_pos h2,if_pos h2,h.at_ q hq]
  .rw[if_neg h2,if_neg h2,h.at_ x hx]
def OX(n:Nat)(xs:List Int):Prop:=∃s t,Ren n s t/\ky n s xs
theorem uh{a b:Int}(ha:0<=a)(hb:0<b):0<=Int.tmod a b/\Int.tmod a b<b:=⟨Int.tmod_nonneg _ ha,Int.tmod_lt_of_pos _ hb⟩
theorem Zy(n:Nat)(hn:n<=1000)(ws:List Int)(hws:∀j:Nat,j<ws.length->0<=rd ws (j:Int)/\rd ws (j:Int)<65536)(k:Nat):∀(i:Nat) (xs:List Int),i<n->OX n xs->∃ys k',k<=k'/\OX n ys/\ay.l1 (i+1+k) (n:Int) ws xs (i:Int)=ay.j2 k' (n:Int) ys:=by
 intro i
 induction i with
 |zero=>
  intro xs _ hx
  refine⟨xs,k,Nat.le_refl _,hx,?_⟩
  rw[show 0+1+k=k+1 by omega,ay.l1,if_neg (by omega)]
 |succ i ih=>
  intro xs hi hx
  by_cases hw:ws.length=0
  .refine⟨xs,i+1+k,by omega,hx,?_⟩
   rw[show i+1+1+k=(i+1+k)+1 by omega,ay.l1,if_pos (by omega),if_neg (by omega)]
  .obtain⟨s,t,hr,ht⟩:=hx
   have hm:=uh (a:=((i+1:Nat):Int)) (b:=(ws.length:Int)) (by omega) (by omega)
   obtain⟨jw,hjw⟩:∃j:Nat,Int.tmod ((i+1:Nat):Int) (ws.length:Int)=(j:Int):=⟨(Int.tmod ((i+1:Nat):Int) (ws.length:Int)).toNat,by omega⟩
   have hwj:=hws jw (by omega)
   have e1:wrap64 (rd ws (jw:Int))=rd ws (jw:Int):=UM (by omega) (by omega)
   have e2:wrap64 (((i+1:Nat):Int)+1)=((i+1:Nat):Int)+1:=UM (by omega) (by omega)
   have e3:wrap64 (((i+1:Nat):Int)-1)=(i:Int):=by rw[UM (by omega) (by omega)];omega
   have hq:=uh (a:=rd ws (jw:Int)) (b:=((i+1:Nat):Int)+1) hwj.1 (by omega)
   obtain⟨q,hqe⟩:∃j:Nat,Int.tmod (rd ws (jw:Int)) (((i+1:Nat):Int)+1)=(j:Int):=⟨(Int.tmod (rd ws (jw:Int)) (((i+1:Nat):Int)+1)).toNat,by omega⟩
   have Vs:q<n:=by omega
   have hl:=ht.len
   obtain⟨ys,k',h1,h2,h3⟩:=ih ((xs.set (i+1) (rd xs (q:Int))).set q (rd xs ((i+1:Nat):Int))) (by omega) ⟨_,_,hr.sw hi Vs,ht.sw hi Vs⟩
   refine⟨ys,k',h1,h2,?_⟩
   rw[show i+1+1+k=(i+1+k)+1 by omega,ay.l1,if_pos (by omega),if_pos (by omega),if_neg (by omega),if_pos (by omega),if_pos (by omega),hjw,e1,e2,e3,hqe,if_neg (by omega),if_pos (by omega),if_pos (by omega),if_pos (by omega),if_pos (by omega)]
   simp only[Int.toNat_natCast]
   exact h3
theorem Zx(n:Nat)(hn:n<=1000){s t:Nat->Nat}(hr:Ren n s t){xs:List Int}(hx:ky n s xs)(k:Nat):∀(m j:Nat) (bs:List Int),j+m=n->bs.length=n->(∀i:Nat,i<j->rd bs (s i:Int)=(i:Int))->∃cs,cs.length=n/\(∀i:Nat,i<n->rd cs (s i:Int)=(i:Int))/\ay.l2 (m+k+1) (n:Int) xs bs (j:Int)=some (xs,cs):=by
 intro m
 induction m with
 |zero=>
  intro j bs hj hb hs
  obtain rfl:j=n:=by omega
  refine⟨bs,hb,hs,?_⟩
  rw[show 0+k+1=k+1 by omega,ay.l2,if_neg (by omega)]
 |succ m ih=>
  intro j bs hj hb hs
  have hjn:j<n:=by omega
  have hsj:=hr.um j hjn
  have e1:=hx.at_ j hjn
  have hl:=hx.len
  obtain⟨cs,h1,h2,h3⟩:=ih (j+1) (bs.set (s j) (j:Int)) (by omega) (by rw[List.length_set,hb]) (fun i hi=>by
   rw[DF (by rw[hb];exact hsj)]
   by_cases e:s i=s j
   .rw[if_pos e,hr.inj (by omega) hjn e]
   .rw[if_neg e]
    exact hs i (by
     have:i≠j:=fun h=>e (by rw[h])
     omega))
  refine⟨cs,h1,h2,?_⟩
  rw[show m+1+k+1=(m+k+1)+1 by omega,ay.l2,if_pos (by omega),if_pos (by omega),if_pos (by omega),e1,if_pos (by omega),if_pos (by omega),UM (by omega) (by omega)]
  simp only[Int.toNat_natCast]
  exact h3
theorem Dt(n:Nat)(hn:n<=1000)(ws:List Int)(hws:∀j:Nat,j<ws.length->0<=rd ws (j:Int)/\rd ws (j:Int)<65536):∃k xs cs s t,ay.f k (n:Int) ws=some (xs,cs)/\Ren n s t/\ky n s xs/\ky n t cs:=by
 have h0:OX n (om n):=⟨fun i=>i,fun i=>i,⟨fun _ h=>h,fun _ h=>h,fun _ _=>rfl,fun _ _=>rfl⟩,⟨Dp n,fun i hi=>Rw hi⟩⟩
 have hj:∀(k':Nat) (ys:List Int),n+3<=k'->OX n ys->∃cs s t,ay.j2 k' (n:Int) ys=some (ys,cs)/\Ren n s t/\ky n s ys/\ky n t cs:=by
  rintro k' ys hk ⟨s,t,hr,ht⟩
  obtain⟨cs,h1,h2,h3⟩:=Zx n hn hr ht (k'-n-2) n 0 (List.replicate n 0) (by omega) (by simp) (fun i hi=>by omega)
  refine⟨cs,s,t,?_,hr,ht,h1,fun i hi=>?_⟩
  .rw[show k'=(n+(k'-n-2)+1)+1 by omega,ay.j2,if_pos (by omega),if_pos (by omega)]
   simpa using h3
  .have:=h2 (t i) (hr.vD i hi)
   rw[hr.st i hi] at this
   exact this
 have hf:∀K,ay.f (n+K+1) (n:Int) ws=ay.l1 K (n:Int) ws (om n) ((n:Int)-1):=fun K=>by
  unfold ay.f
  have:=Zz n hn ws K n 0 (by omega)
  simpa[om] using this
 by_cases h:n=0
 .obtain⟨cs,s,t,h1,h2,h3,h4⟩:=hj (n+3) (om n) (Nat.le_refl _) h0
  refine⟨n+(n+3+1)+1,om n,cs,s,t,?_,h2,h3,h4⟩
  rw[hf,ay.l1,if_neg (by omega),h1]
 .obtain⟨ys,k',h1,h2,h3⟩:=Zy n hn ws hws (n+3) (n-1) (om n) (by omega) h0
  obtain⟨cs,s,t,h4,h5,h6,h7⟩:=hj k' ys h1 h2
  refine⟨n+(n-1+1+(n+3))+1,ys,cs,s,t,?_,h5,h6,h7⟩
  rw[hf,show((n:Int)-1)=((n-1:Nat):Int) by omega,h3,h4]
theorem Ja(ws:List Int)(i:Nat)(hi:i<=1000):∃b,fM.f ws (i:Int)=some b:=by
 unfold fM.f
 by_cases hw:ws.length=0
 .exact⟨false,by rw[if_neg (by omega)]⟩
 .have hm:=uh (a:=(i:Int)) (b:=(ws.length:Int)) (by omega) (by omega)
  exact⟨_,by rw[if_pos (by omega),if_neg (by omega),if_pos (by omega),if_pos (by omega)]⟩
theorem Rp(xs:List Int)(hx:xs.length<=1000)(k:Nat):∀(m j:Nat),j+m=xs.length->bE.l0 (m+k+1) xs xs (j:Int)=some true:=by
 intro m
 induction m with
 |zero=>
  intro j hj
  rw[show 0+k+1=k+1 by omega,bE.l0,if_neg (by omega)]
 |succ m ih=>
  intro j hj
  rw[show m+1+k+1=(m+k+1)+1 by omega,bE.l0,if_pos (by omega),if_pos (by omega),if_pos (by omega),if_pos rfl,UM (by omega) (by omega),show((j:Int)+1)=((j+1:Nat):Int) by omega]
  exact ih (j+1) (by omega)
theorem Pv(xs:List Int)(hx:xs.length<=1000):bE.f (xs.length+1) xs xs=some true:=by
 unfold bE.f
 rw[if_pos rfl]
 exact Rp xs hx 0 xs.length 0 (by omega)
theorem LA(xs:List sO)(hx:xs.length<=1000)(k:Nat):∀(m j:Nat),j+m=xs.length->bX.l0 (m+k+1) xs xs (j:Int)=some true:=by
 intro m
 induction m with
 |zero=>
  intro j hj
  rw[show 0+k+1=k+1 by omega,bX.l0,if_neg (by omega)]
 |succ m ih=>
  intro j hj
  rw[show m+1+k+1=(m+k+1)+1 by omega,bX.l0,if_pos (by omega),if_pos (by omega),if_pos (by omega),if_neg (by simp),UM (by omega) (by omega),show((j:Int)+1)=((j+1:Nat):Int) by omega]
  exact ih (j+1) (by omega)
theorem Jo(xs:List sO)(hx:xs.length<=1000):bX.f (xs.length+1) xs xs=some true:=by
 unfold bX.f
 rw[if_pos rfl]
 exact LA xs hx 0 xs.length 0 (by omega)
theorem CZ{n:Nat}(hn:n<=1000){s:Nat->Nat}{fr:List Int}(hf:ky n s fr){xs ys:List sO}(hx:xs.length=n)(hy:ys.length=n)(hs:∀i,i<n->s i<n)(he:∀i:Nat,i<n->dK ys (i:Int)=dK xs (s i:Int))(k:Nat):∀(m j:Nat),j+m=n->bu.l0 (m+k+1) xs ys fr (j:Int)=some true:=by
 have hl:=hf.len
 intro m
 induction m with
 |zero=>
  intro j hj
  rw[show 0+k+1=k+1 by omega,bu.l0,if_neg (by omega)]
 |succ m ih=>
  intro j hj
  have h1:=hf.at_ j (by omega)
  have h2:=hs j (by omega)
  rw[show m+1+k+1=(m+k+1)+1 by omega,bu.l0,if_pos (by omega),if_pos (by omega),if_pos (by omega),h1,if_pos (by omega),if_pos (by omega),he j (by omega),if_neg (by simp),UM (by omega) (by omega),show((j:Int)+1)=((j+1:Nat):Int) by omega]
  exact ih (j+1) (by omega)
theorem Sd{n:Nat}(hn:n<=1000){s:Nat->Nat}{fr:List Int}(hf:ky n s fr){xs ys:List sO}(hs:∀i,i<n->s i<n)(h:(xs.length=n/\ys.length=n/\∀i:Nat,i<n->dK ys (i:Int)=dK xs (s i:Int))\/(xs=[]/\ys=[])):∃k,bu.f k xs ys fr=some true:=by
 have hl:=hf.len
 rcases h with⟨h1,h2,h3⟩|⟨rfl,rfl⟩
 .refine⟨n+0+1+1,?_⟩
  unfold bu.f
  rw[if_pos (by omega),bu.j0,if_neg (by rw[hl,h2];simp)]
  exact CZ hn hf h1 h2 hs h3 0 n 0 (by omega)
 .by_cases h0:n=0
  .refine⟨0+0+1+1,?_⟩
   unfold bu.f
   rw[if_pos (by simp;omega),bu.j0,if_neg (by rw[hl,h0];simp)]
   exact CZ (n:=0) (by omega) (s:=s) (by rw[h0] at hf;exact hf) rfl rfl (fun i hi=>by omega) (fun i hi=>by omega) 0 0 0 (by omega)
  .refine⟨1,?_⟩
   unfold bu.f
   rw[if_neg (by simp;omega),bu.j0,if_pos rfl,if_pos (by simp)]
   rfl
end Go.Proofs.YtkjoilgpmngndaaGreat
