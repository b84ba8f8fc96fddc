import Derived.Test.YtkjoilgpmngndaaGreatQ17
set_option maxHeartbeats 40000000
set_option maxRecDepth 100000
set_option linter.all false
namespace Go.Proofs.YtkjoilgpmngndaaGreat.Wk
open Go.RowKit Go.Shelf au YtkjoilgpmngndaaGreatW.aj YtkjoilgpmngndaaGreatW.aJ
def bd.T7:Bool×List (List Nat×List Nat):=(true,[([],[]),([],[]),([],[]),([],[]),([2,3],[2,3]),([0,1,4,4],[0,1,4]),([],[]),([],[]),([],[]),([8,5],[8]),([6,7,9,9],[6,7,9]),([5,10],[5,10]),([11,10,0,1,2,3,4,5,6,7,8,9,10,11],[11]),([12,0,1,2,3,4,5,6,7,8,9,10,11,12],[])])
def bd.B7:List Nat:=[0,0,0,0,12,31,0,0,0,319,1023,2047,4095,8191]
theorem bd.TS:dW .any (opsOf Tryz.f26 7)=bd.T7:=by kernel_rfl
theorem bd.M7:bJ bd.T7.2 bd.B7=true:=by kernel_rfl
theorem Aa{α:Type}(p:α->Bool):∀(xs:List α) (i:Nat),0<=fi p xs i->∃k,∃hk:k<xs.length,fi p xs i=((i+k:Nat):Int)/\p xs[k]=true
 |[],i,h=>by simp[fi] at h
 |x::xs,i,h=>by
  unfold fi at h ⊢
  by_cases hx:p x=true
  .rw[if_pos hx]
   exact⟨0,by simp,rfl,hx⟩
  .rw[if_neg hx] at h ⊢
   obtain⟨k,hk,h1,h2⟩:=Aa p xs (i+1) h
   exact⟨k+1,by simpa using hk,by rw[h1];congr 1;omega,h2⟩
theorem EO{α:Type}(f:α->Int)(l:List α)(k:Nat)(h:k<l.length):rd (l.map f) (k:Int)=f l[k]:=by simp[rd,List.getD,h]
theorem Bc(l:List Int)(k:Nat)(h:k<l.length):rd l (k:Int)=l[k]:=by simp[rd,List.getD,h]
theorem J9{N:Nat}{r:aV}(hr:jN N r){a b:Int}(h:fq r a b=true):0<=a/\a<N/\0<=b/\b<N:=by
 unfold fq at h
 simp only[Bool.or_eq_true,Bool.and_eq_true,beq_iff_eq] at h
 have h1:=hr.a0;have h2:=hr.a1;have h3:=hr.b0;have h4:=hr.b1
 omega
theorem wZ{R:List aV}{l cs:List Int}(h:eQ R l cs=0):0<l.length/\l.length<=64/\rd l 0=0/\q9 R l (l.length-1)=true/\cs.all (λv=>l.any (λy=>v==y))=true:=by
 unfold eQ at h
 by_cases h1:64<l.length
 .rw[if_pos h1] at h;cases h
 .rw[if_neg h1] at h
  by_cases h2:l.length=0
  .rw[if_pos h2] at h;cases h
  .rw[if_neg h2] at h
   by_cases h3:rd l 0=0
   .rw[if_neg (by simpa using h3)] at h
    by_cases h4:rd l ((l.length:Int)-1)=0
    .rw[if_neg (by simpa using h4)] at h
     cases h5:q9 R l (l.length-1)
     .rw[h5,if_pos rfl] at h;cases h
     .rw[h5,if_neg (by simp)] at h
      cases h6:oU cs
      .rw[h6,if_pos rfl] at h;cases h
      .rw[h6,if_neg (by simp)] at h
       cases h7:cs.all (λv=>l.any (λy=>v==y))
       .rw[h7,if_neg (by simp)] at h;cases h
       .exact⟨by omega,by omega,h3,rfl,rfl⟩
    .rw[if_pos (by simpa using h4)] at h;cases h
   .rw[if_pos (by simpa using h3)] at h;cases h
theorem qP{W:List dP}{R:List aV}{l cs:List Int}(hc:bD W R=0)(hw:eQ R l cs=0)(p:dP->Int)(hp:∀x:dP,0<=x.f0->x.f0<=x.f1->x.f1<=50->0<=p x/\p x<=50):
  uq R l cs (W.map p) (R.map (λr=>p r.f2)):=by
 obtain⟨hN0,hN,_,hW,hR,_⟩:=mD hc
 obtain⟨hl0,hl,hl1,Re,ag6⟩:=wZ hw
 have Rf:∀k,k+1<l.length->∃q,∃hq:q<R.length,il R (rd l (k:Int)) (rd l ((k+1:Nat):Int))=(q:Int)/\fq R[q] (rd l (k:Int)) (rd l ((k+1:Nat):Int))=true:=by
  intro k hk
  have:=List.all_eq_true.1 Re k (List.mem_range.2 (by omega))
  simp only[Bool.not_eq_true',decide_eq_false_iff_not] at this
  obtain⟨q,hq,h1,h2⟩:=Aa (λr=>fq r (rd l (k:Int)) (rd l ((k+1:Nat):Int))) R 0 (by
   have e:fi (λr=>fq r (rd l (k:Int)) (rd l ((k+1:Nat):Int))) R 0=il R (rd l (k:Int)) (rd l ((k+1:Nat):Int)):=rfl
   rw[e];omega)
  refine⟨q,hq,?_,h2⟩
  have e:fi (λr=>fq r (rd l (k:Int)) (rd l ((k+1:Nat):Int))) R 0=il R (rd l (k:Int)) (rd l ((k+1:Nat):Int)):=rfl
  rw[<- e,h1]
  congr 1
  omega
 have Yr:∀k,k<l.length->0<=rd l (k:Int)/\rd l (k:Int)<W.length:=by
  intro k hk
  by_cases h0:k=0
  .subst h0
   have:rd l ((0:Nat):Int)=0:=hl1
   omega
  .obtain⟨j,rfl⟩:∃j,k=j+1:=⟨k-1,by omega⟩
   obtain⟨q,hq,_,h2⟩:=Rf j hk
   have:=J9 (hR _ (List.getElem_mem hq)) h2
   exact⟨this.2.2.1,this.2.2.2⟩
 refine⟨λk hk=>?_,λk hk=>?_⟩
 .obtain⟨q,hq,h1,h2⟩:=Rf k hk
  have hr:=hR _ (List.getElem_mem hq)
  have hb:=hp R[q].f2 (by have:=hr.lo;omega) hr.le hr.hi
  rw[h1,EO (λr:aV=>p r.f2) R q hq,List.length_map]
  exact⟨by omega,by omega,hb.1,by have:=hb.2;omega⟩
 .have hm:rd cs (k:Int) ∈ cs:=by rw[Bc cs k hk];exact List.getElem_mem hk
  obtain⟨y,hy,e⟩:=List.any_eq_true.1 (List.all_eq_true.1 ag6 _ hm)
  obtain⟨j,hj,rfl⟩:=List.getElem_of_mem hy
  have e2:rd cs (k:Int)=l[j]:=by simpa using e
  have h3:=Yr j hj
  rw[Bc l j hj] at h3
  rw[e2,List.length_map]
  obtain⟨n,hn⟩:∃n:Nat,l[j]=(n:Int):=⟨l[j].toNat,by omega⟩
  rw[hn] at h3 ⊢
  have hnl:n<W.length:=by omega
  have hw2:=hW _ (List.getElem_mem hnl)
  have hb:=hp W[n] hw2.1 hw2.2.1 hw2.2.2
  rw[EO p W n hnl]
  exact⟨by omega,by omega,hb.1,by have:=hb.2;omega⟩
theorem AX{A0:Option Addr}{c0:Nat}{Wk:List dP}{A1:Option Addr}{c1:Nat}{R:List aV}{w:World}(h:IsMap w A0 c0 Wk A1 c1 R)(hW:Wk.length<=1000)(hR:R.length<=1000):
  Calls Tryz.prog 62 #[.agg #[.slice A0 Wk.length c0,.slice A1 R.length c1]] w λe w'=>(∃v0 v1,e= .returned (.agg #[v0,v1])/\(Kd.int .i64).R 3 w' w.heap.size (λ_=>True) v0 (Wk.map (λx=>x.f1))/\(Kd.int .i64).R 3 w' w.heap.size (λ_=>True) v1 (R.map (λr=>r.f2.f1)))/\Below w.heap.size w w':=by
 have H:=aa.mk h
 clear h
 go_enter Tryz.func62,Tryz.ntmps62
 go_wp2_with fail
 have hb0:=ae (ae (Below.refl w.heap.size w) (.cells #[.slice A0 Wk.length c0,.slice A1 R.length c1] 78)) (.cells #[.slice none 0 0,.slice none 0 0] 86)
 have B2:=aa.mk (show aR _ (w.heap.size+1) _ _ by simpa using aR.new (w.alloc (.cells #[.slice A0 Wk.length c0,.slice A1 R.length c1] 78)) [.slice none 0 0,.slice none 0 0] 86)
 have hs0:w.heap.size+2<=((w.alloc (.cells #[.slice A0 Wk.length c0,.slice A1 R.length c1] 78)).alloc (.cells #[.slice none 0 0,.slice none 0 0] 86)).heap.size:=by simp
 refine(vJ 101 (enters Tryz.func101 (by kernel_rfl) rfl) _ Rh (H.out.below hb0) hW hR).mono ?_
 rintro e w1 ⟨⟨v0,v1,rfl,hR0,xM⟩,hb1⟩
 have yC:=aa.mk (B2.out.below hb1)
 have HB1:=aa.mk (hb0.trans (hb1.mono (by omega)))
 obtain⟨Av,nv,cv,rfl⟩:∃A n c,v0= .slice A n c:=by
  obtain⟨a_,b_,e_,_,_⟩:=Kd.cB hR0
  exact⟨_,_,_,e_⟩
 obtain⟨Au,nu,cu,rfl⟩:∃A n c,v1= .slice A n c:=by
  obtain⟨a_,b_,e_,_,_⟩:=Kd.cB xM
  exact⟨_,_,_,e_⟩
 have h20:=yC.out.cell 0
 have h21:=yC.out.cell 1
 have U0:=yC.out.frozen 0
 have acF:=yC.out.frozen 1
 simp only[eP,eO] at h20 h21
 have IG:=aa.mk (Kd.bB (Kd.bE hR0) (λb hb=>(show w.heap.size+2<=b by have:=hb.2.1;omega)))
 have HR1:=aa.mk (Kd.bB (Kd.bE xM) (λb hb=>(show w.heap.size+2<=b by have:=hb.2.1;omega)))
 have HS0:=aa.mk hs0
 clear hR0 xM hb0 hb1 hs0 B2
 go_wp2_with fail
 refine bodyPost_ret (results_cell_row rfl _ _ (w.heap.size+1) 86 #[.slice Av nv cv,.slice Au nu cu] (0,0) _ rfl (yC.out.set2 _ _) Tryz.underlying86 rfl (by kernel_rfl)) rfl ?_
 refine⟨⟨_,_,rfl,?_,?_⟩,(HB1.out.setCell (p:=⟨w.heap.size+1,0,none⟩) (by simp only;omega) _).setCell (p:=⟨w.heap.size+1,1,none⟩) (by simp only;omega) _⟩
 .exact Kd.bB (Kd.ed (Kd.dx (Kd.dx IG.out (p:=⟨w.heap.size+1,0,none⟩) (λb hb=>by simp only;omega) _) (p:=⟨w.heap.size+1,1,none⟩) (λb hb=>by simp only;omega) _) (by have:=HS0.out;omega)) (λ_ _=>trivial)
 .exact Kd.bB (Kd.ed (Kd.dx (Kd.dx HR1.out (p:=⟨w.heap.size+1,0,none⟩) (λb hb=>by simp only;omega) _) (p:=⟨w.heap.size+1,1,none⟩) (λb hb=>by simp only;omega) _) (by have:=HS0.out;omega)) (λ_ _=>trivial)
def gz(W:List dP)(R:List aV)(l cs:List Int):Int×Int×Int:=
 if bD W R=0 then(if eQ R l cs=0 then(kY R l cs (W.map λx=>x.f0) (R.map λr=>r.f2.f0),kY R l cs (W.map λx=>x.f1) (R.map λr=>r.f2.f1),0) else(0,0,eQ R l cs)) else(0,0,bD W R)
theorem sS{A0:Option Addr}{c0:Nat}{Wk:List dP}{A1:Option Addr}{c1:Nat}{R:List aV}{w:World}(h:IsMap w A0 c0 Wk A1 c1 R)
  (l cs:List Int) {Al Ac:Option Addr} {cl cc:Nat} (hl:Kd.C (Kd.int .i64) w Al l.length l) (hll:l.length<=cl) (hlb:l.length<1000000) (hcs:Kd.C (Kd.int .i64) w Ac cs.length cs) (hcl:cs.length<=cc) (OV:cs.length<1000000):
  Calls Tryz.prog 26 #[.agg #[.slice A0 Wk.length c0,.slice A1 R.length c1],.agg #[.slice Al l.length cl,.slice Ac cs.length cc]] w λe w'=>e= .returned (.tuple #[.agg #[.int .i64 (gz Wk R l cs).1,.int .i64 (gz Wk R l cs).2.1],.int .i64 (gz Wk R l cs).2.2])/\Below w.heap.size w w':=by
 have H:=aa.mk h
 have HL:=aa.mk hl
 have Nv:=aa.mk hcs
 clear h hl hcs
 go_enter Tryz.func26,Tryz.ntmps26
 go_wp2_with fail
 have B2:=aa.mk (((aR.new w [.slice A0 Wk.length c0,.slice A1 R.length c1] 78).alloc (.cells #[.slice Al l.length cl,.slice Ac cs.length cc] 80)).alloc (.cells #[.int .i64 0,.int .i64 0] 88))
 have B3:=aa.mk (show aR _ (w.heap.size+1) _ _ by simpa using (aR.new (w.alloc (.cells #[.slice A0 Wk.length c0,.slice A1 R.length c1] 78)) [.slice Al l.length cl,.slice Ac cs.length cc] 80).alloc (.cells #[.int .i64 0,.int .i64 0] 88))
 have B4:=aa.mk (show aR _ (w.heap.size+1+1) _ _ by simpa using aR.new ((w.alloc (.cells #[.slice A0 Wk.length c0,.slice A1 R.length c1] 78)).alloc (.cells #[.slice Al l.length cl,.slice Ac cs.length cc] 80)) [.int .i64 0,.int .i64 0] 88)
 have HB:=aa.mk (ae (ae (ae (Below.refl w.heap.size w) (.cells #[.slice A0 Wk.length c0,.slice A1 R.length c1] 78)) (.cells #[.slice Al l.length cl,.slice Ac cs.length cc] 80)) (.cells #[.int .i64 0,.int .i64 0] 88))
 have hs0:w.heap.size+3<=(((w.alloc (.cells #[.slice A0 Wk.length c0,.slice A1 R.length c1] 78)).alloc (.cells #[.slice Al l.length cl,.slice Ac cs.length cc] 80)).alloc (.cells #[.int .i64 0,.int .i64 0] 88)).heap.size:=by simp
 generalize(((w.alloc (.cells #[.slice A0 Wk.length c0,.slice A1 R.length c1] 78)).alloc (.cells #[.slice Al l.length cl,.slice Ac cs.length cc] 80)).alloc (.cells #[.int .i64 0,.int .i64 0] 88))=w0 at B2 B3 B4 HB hs0 ⊢
 refine(dM (H.out.below HB.out)).mono ?_
 rintro e w1 ⟨rfl,hb1⟩
 have yC:=aa.mk (B2.out.below hb1)
 have Db:=aa.mk (B3.out.below hb1)
 have LK:=aa.mk (B4.out.below hb1)
 have HB1:=aa.mk (HB.out.trans (hb1.mono (by omega)))
 have hs1:=Nat.le_trans hs0 hb1.size
 have h20:=yC.out.cell 0
 have h21:=yC.out.cell 1
 have jB:=Db.out.cell 0
 have h31:=Db.out.cell 1
 have lH:=LK.out.cell 0
 have oI:=LK.out.cell 1
 have o6:=LK.out.frozen 0
 have tH:=LK.out.frozen 1
 simp only[eP,eO] at h20 h21 jB h31 lH oI
 clear B2 B3 B4 HB hb1 hs0
 by_cases hc:bD Wk R=0
 .have hcb:(bD Wk R !=0)=false:=by simp[hc]
  obtain⟨hN0,hN,ah7,hW,hR,_⟩:=mD hc
  have HC:=aa.mk hc
  rw[hc]
  clear hc
  go_wp2_with fail
  refine(vU (H.out.below HB1.out) l cs (Kd.av HL.out HB1.out) hll hlb (Kd.av Nv.out HB1.out) hcl OV).mono ?_
  rintro e w2 ⟨rfl,hb2⟩
  have Qb:=aa.mk (yC.out.below hb2)
  have AB:=aa.mk (Db.out.below hb2)
  have zJ:=aa.mk (LK.out.below hb2)
  have HB2:=aa.mk (HB1.out.trans (hb2.mono HB1.out.size))
  have hs2:=Nat.le_trans hs1 hb2.size
  clear yC Db LK HB1 hs1 hb2 h20 h21 jB h31 lH oI o6 tH
  have h20:=Qb.out.cell 0
  have h21:=Qb.out.cell 1
  have jB:=AB.out.cell 0
  have h31:=AB.out.cell 1
  have lH:=zJ.out.cell 0
  have oI:=zJ.out.cell 1
  have o6:=zJ.out.frozen 0
  have tH:=zJ.out.frozen 1
  simp only[eP,eO] at h20 h21 jB h31 lH oI
  by_cases hw:eQ R l cs=0
  .have HLO:=aa.mk (qP HC.out hw (λx=>x.f0) (λx h1 h2 h3=>⟨h1,by omega⟩))
   have HHI:=aa.mk (qP HC.out hw (λx=>x.f1) (λx h1 h2 h3=>⟨by omega,h3⟩))
   have hl0:=(wZ hw).1
   have mI:=aa.mk (show gz Wk R l cs=(kY R l cs (Wk.map λx=>x.f0) (R.map λr=>r.f2.f0),kY R l cs (Wk.map λx=>x.f1) (R.map λr=>r.f2.f1),0) by unfold gz;rw[if_pos HC.out,if_pos hw])
   obtain⟨twl,Uq⟩:∃t,Wk.map (λx=>x.f0)=t:=⟨_,rfl⟩
   obtain⟨trl,Us⟩:∃t,R.map (λr=>r.f2.f0)=t:=⟨_,rfl⟩
   obtain⟨twh,Ur⟩:∃t,Wk.map (λx=>x.f1)=t:=⟨_,rfl⟩
   obtain⟨trh,Ut⟩:∃t,R.map (λr=>r.f2.f1)=t:=⟨_,rfl⟩
   rw[Uq,Us,Ur,Ut] at mI
   have HLO:=aa.mk (show uq R l cs twl trl by rw[<- Uq,<- Us];exact HLO.out)
   have HHI:=aa.mk (show uq R l cs twh trh by rw[<- Ur,<- Ut];exact HHI.out)
   have ai4:=aa.mk Uq
   have ai6:=aa.mk Us
   have ai5:=aa.mk Ur
   have ai7:=aa.mk Ut
   rw[hw]
   clear hw Uq Us Ur Ut
   go_wp2_with fail
   refine dB (n:=14) (S:=λw'=>w'.cell? ⟨w.heap.size,0,none⟩=some (.slice A0 Wk.length c0)/\w'.cell? ⟨w.heap.size,1,none⟩=some (.slice A1 R.length c1)/\w'.cell? ⟨w.heap.size+1,0,none⟩=some (.slice Al l.length cl)/\w'.cell? ⟨w.heap.size+1,1,none⟩=some (.slice Ac cs.length cc)) (ds:=[10,12]) #[O,O,O,O,O,O,O,O,O,O,O,O,O,O] (by kernel_rfl) rfl rfl ⟨h20,h21,jB,h31⟩ (λhHeld=>?_);refine bu bd.TS bd.M7 (λak bN=>?_)
   have HB3:=aa.mk (aM HB2.out)
   have I9:=aa.mk (zJ.out.move rfl:aR w2.drew _ _ _)
   have hs3:w.heap.size+3<=w2.drew.heap.size:=hs2
   clear HB2 Qb AB zJ hs2 h20 h21 jB h31 lH oI o6 tH
   generalize w2.drew=wd at HB3 I9 hs3 hHeld ⊢
   refine dG 0 21 #[I,O,O,O,O,O,O,O,O,O,O,O,O,O] ak bN hHeld (hy:=by(rintro w' ⟨s0,s1,s2,s3⟩;go_simp;with_reducible rfl)) (h:=?_)
   refine dG 1 22 #[I,I,O,O,O,O,O,O,O,O,O,O,O,O] ak bN hHeld (hy:=by(rintro w' ⟨s0,s1,s2,s3⟩;go_simp;with_reducible rfl)) (h:=?_)
   refine dG 2 23 #[I,I,I,O,O,O,O,O,O,O,O,O,O,O] ak bN hHeld (hy:=by(rintro w' ⟨s0,s1,s2,s3⟩;go_simp;with_reducible rfl)) (h:=?_)
   refine aZ 3 24 #[I,I,I,I,O,O,O,O,O,O,O,O,O,O] ak (h:=?_)
   refine dG 6 27 #[I,I,I,I,O,O,I,O,O,O,O,O,O,O] ak bN hHeld (hy:=by(rintro w' ⟨s0,s1,s2,s3⟩;go_simp;with_reducible rfl)) (h:=?_)
   refine dG 7 28 #[I,I,I,I,O,O,I,I,O,O,O,O,O,O] ak bN hHeld (hy:=by(rintro w' ⟨s0,s1,s2,s3⟩;go_simp;with_reducible rfl)) (h:=?_)
   refine dG 8 29 #[I,I,I,I,O,O,I,I,I,O,O,O,O,O] ak bN hHeld (hy:=by(rintro w' ⟨s0,s1,s2,s3⟩;go_simp;with_reducible rfl)) (h:=?_)
   refine dO (i:=4) (N:=some 25) #[I,I,I,I,I,O,I,I,I,O,O,O,O,O] rfl rfl (aI ak.out (by kernel_rfl)) (by decide) (λK hK=>?_)
   refine bW Tryz.func60 (by kernel_rfl) rfl #[.agg #[.slice A0 Wk.length c0,.slice A1 R.length c1],.agg #[.func (.func 61) #[] #[]]] (by rfl) rfl rfl (by(try simp only[List.map_toArray,List.map_cons,List.map_nil]);rfl) ?_
   refine(vJ 61 (enters Tryz.func61 (by kernel_rfl) rfl) _ Ue (H.out.below HB3.out) (by omega) (by omega)).mono ?_
   rintro e_ w_ ⟨⟨vA,vB,rfl,MQ,MP⟩,hbx⟩
   refine⟨_,rfl,hK.out _ _ ⟨(hbx.cell (World.block_lt_of_cell? _ _ hHeld.1)).trans hHeld.1,(hbx.cell (World.block_lt_of_cell? _ _ hHeld.2.1)).trans hHeld.2.1,(hbx.cell (World.block_lt_of_cell? _ _ hHeld.2.2.1)).trans hHeld.2.2.1,(hbx.cell (World.block_lt_of_cell? _ _ hHeld.2.2.2)).trans hHeld.2.2.2⟩ (λhHeld=>?_)⟩
   clear hK K
   obtain⟨Aw3,nw,cw3,rfl,hnw,MR⟩:∃A n c,vA= .slice A n c/\n=twl.length/\Kd.C (Kd.int .i64) w_ A n twl:=by rw[<- ai4.out];obtain⟨a_,b_,e_,_,h_⟩:=Kd.cB MQ;exact⟨_,_,_,e_,rfl,h_⟩
   subst hnw
   obtain⟨Ar3,nr,cr3,rfl,hnr,MS⟩:∃A n c,vB= .slice A n c/\n=trl.length/\Kd.C (Kd.int .i64) w_ A n trl:=by rw[<- ai6.out];obtain⟨a_,b_,e_,_,h_⟩:=Kd.cB MP;exact⟨_,_,_,e_,rfl,h_⟩
   subst hnr
   have jd:=aa.mk (HB3.out.trans (hbx.mono HB3.out.size))
   have DX:=aa.mk (I9.out.below hbx)
   have aeb:=aa.mk MR
   have aee:=aa.mk MS
   clear hbx MR MS MQ MP HB3 I9
   refine iY ?_
   refine dO (i:=5) (N:=some 26) #[I,I,I,I,I,I,I,I,I,O,O,O,O,O] rfl rfl (aI ak.out (by kernel_rfl)) (by decide) (λK hK=>?_)
   refine bW Tryz.func59 (by kernel_rfl) rfl #[.agg #[.slice A0 Wk.length c0,.slice A1 R.length c1],.agg #[.slice Al l.length cl,.slice Ac cs.length cc],.agg #[.slice Aw3 twl.length cw3,.slice Ar3 trl.length cr3]] (by rfl) rfl rfl (by(try simp only[List.map_toArray,List.map_cons,List.map_nil]);rfl) ?_
   refine(rP (H.out.below jd.out) l cs twl trl (Kd.av HL.out jd.out) hlb hl0 (Kd.av Nv.out jd.out) OV aeb.out aee.out HLO.out).mono ?_
   rintro e_ w_ ⟨rfl,hbx⟩
   refine⟨_,rfl,hK.out _ _ ⟨(hbx.cell (World.block_lt_of_cell? _ _ hHeld.1)).trans hHeld.1,(hbx.cell (World.block_lt_of_cell? _ _ hHeld.2.1)).trans hHeld.2.1,(hbx.cell (World.block_lt_of_cell? _ _ hHeld.2.2.1)).trans hHeld.2.2.1,(hbx.cell (World.block_lt_of_cell? _ _ hHeld.2.2.2)).trans hHeld.2.2.2⟩ (λhHeld=>?_)⟩
   clear hK K
   have kv:=aa.mk (jd.out.trans (hbx.mono jd.out.size))
   have AA:=aa.mk (DX.out.below hbx)
   clear hbx jd DX aeb aee
   refine iY ?_
   refine dO (i:=9) (N:=some 30) #[I,I,I,I,I,I,I,I,I,I,O,O,O,O] rfl rfl (aI ak.out (by kernel_rfl)) (by decide) (λK hK=>?_)
   refine bW Tryz.func62 (by kernel_rfl) rfl #[.agg #[.slice A0 Wk.length c0,.slice A1 R.length c1]] (by rfl) rfl rfl (by(try simp only[List.map_toArray,List.map_cons,List.map_nil]);rfl) ?_
   refine(AX (H.out.below kv.out) (by omega) (by omega)).mono ?_
   rintro e_ w_ ⟨⟨vA,vB,rfl,MQ,MP⟩,hbx⟩
   refine⟨_,rfl,hK.out _ _ ⟨(hbx.cell (World.block_lt_of_cell? _ _ hHeld.1)).trans hHeld.1,(hbx.cell (World.block_lt_of_cell? _ _ hHeld.2.1)).trans hHeld.2.1,(hbx.cell (World.block_lt_of_cell? _ _ hHeld.2.2.1)).trans hHeld.2.2.1,(hbx.cell (World.block_lt_of_cell? _ _ hHeld.2.2.2)).trans hHeld.2.2.2⟩ (λhHeld=>?_)⟩
   clear hK K
   obtain⟨Aw5,nw,cw5,rfl,hnw,MR⟩:∃A n c,vA= .slice A n c/\n=twh.length/\Kd.C (Kd.int .i64) w_ A n twh:=by rw[<- ai5.out];obtain⟨a_,b_,e_,_,h_⟩:=Kd.cB MQ;exact⟨_,_,_,e_,rfl,h_⟩
   subst hnw
   obtain⟨Ar5,nr,cr5,rfl,hnr,MS⟩:∃A n c,vB= .slice A n c/\n=trh.length/\Kd.C (Kd.int .i64) w_ A n trh:=by rw[<- ai7.out];obtain⟨a_,b_,e_,_,h_⟩:=Kd.cB MP;exact⟨_,_,_,e_,rfl,h_⟩
   subst hnr
   have uz:=aa.mk (kv.out.trans (hbx.mono kv.out.size))
   have I8:=aa.mk (AA.out.below hbx)
   have aea:=aa.mk MR
   have aed:=aa.mk MS
   clear hbx MR MS MQ MP kv AA
   refine iY ?_
   refine dE (i:=10) (N:=some 31) #[I,I,I,I,I,I,I,I,I,I,I,O,O,O] rfl rfl (aI ak.out (by kernel_rfl)) (by decide) (λK hK=>?_)
   refine bW Tryz.func59 (by kernel_rfl) rfl #[.agg #[.slice A0 Wk.length c0,.slice A1 R.length c1],.agg #[.slice Al l.length cl,.slice Ac cs.length cc],.agg #[.slice Aw5 twh.length cw5,.slice Ar5 trh.length cr5]] (by rfl) rfl rfl (by(try simp only[List.map_toArray,List.map_cons,List.map_nil]);rfl) ?_
   refine(rP (H.out.below uz.out) l cs twh trh (Kd.av HL.out uz.out) hlb hl0 (Kd.av Nv.out uz.out) OV aea.out aed.out HHI.out).mono ?_
   rintro e_ w_ ⟨rfl,hbx⟩
   refine⟨_,rfl,hK.out _ _ ?_⟩
   clear hK K
   have Gi:=aa.mk (uz.out.trans (hbx.mono uz.out.size))
   have PS:=aa.mk (I8.out.below hbx)
   clear hbx uz I8 aea aed
   have lH:=PS.out.cell 0
   have oI:=PS.out.cell 1
   have o6:=PS.out.frozen 0
   have tH:=PS.out.frozen 1
   simp only[eP,eO] at lH oI
   refine iY ?_
   refine aZ 11 32 #[I,I,I,I,I,I,I,I,I,I,I,I,O,O] ak (h:=?_)
   refine dE (i:=12) (N:=none) #[I,I,I,I,I,I,I,I,I,I,I,I,I,O] rfl rfl (aI ak.out (by kernel_rfl)) (by decide) (λK hK=>?_)
   have eY:=lH
   have ig:=o6
   refine gW (w1:=?_) (by rfl) rfl ?_ ?_
   rotate_left
   .go_simp
    rfl
   refine hK.out _ _ ?_
   clear hK K eY ig
   refine aZ 13 5 #[I,I,I,I,I,I,I,I,I,I,I,I,I,I] ak (h:=?_)
   refine dK (bG ak.out (by kernel_rfl)) ?_
   go_wp2_with fail
   refine bodyPost_ret (wB rfl _ _ (w.heap.size+1+1) 88 #[.int .i64 (kY R l cs twl trl),.int .i64 (kY R l cs twh trh)] (0,0) _ rfl (PS.out.set2 _ _) Tryz.underlying88 rfl (by kernel_rfl)) rfl ?_
   rw[mI.out]
   exact⟨rfl,(Gi.out.setCell (p:=⟨w.heap.size+1+1,0,none⟩) (by simp only;omega) _).setCell (p:=⟨w.heap.size+1+1,1,none⟩) (by simp only;omega) _⟩
  .have hwb:(eQ R l cs !=0)=true:=by simp[hw]
   have mI:=aa.mk (show gz Wk R l cs=(0,0,eQ R l cs) by unfold gz;rw[if_pos HC.out,if_neg hw])
   clear hw
   go_wp2_with fail
   refine bodyPost_ret (wB rfl _ _ (w.heap.size+1+1) 88 #[.int .i64 0,.int .i64 0] (0,0) _ rfl (zJ.out.set2 _ _) Tryz.underlying88 rfl (by kernel_rfl)) rfl ?_
   rw[mI.out]
   exact⟨rfl,(HB2.out.setCell (p:=⟨w.heap.size+1+1,0,none⟩) (by simp only;omega) _).setCell (p:=⟨w.heap.size+1+1,1,none⟩) (by simp only;omega) _⟩
 .have hcb:(bD Wk R !=0)=true:=by simp[hc]
  have mI:=aa.mk (show gz Wk R l cs=(0,0,bD Wk R) by unfold gz;rw[if_neg hc])
  clear hc
  go_wp2_with fail
  refine bodyPost_ret (wB rfl _ _ (w.heap.size+1+1) 88 #[.int .i64 0,.int .i64 0] (0,0) _ rfl (LK.out.set2 _ _) Tryz.underlying88 rfl (by kernel_rfl)) rfl ?_
  rw[mI.out]
  exact⟨rfl,(HB1.out.setCell (p:=⟨w.heap.size+1+1,0,none⟩) (by simp only;omega) _).setCell (p:=⟨w.heap.size+1+1,1,none⟩) (by simp only;omega) _⟩
end Go.Proofs.YtkjoilgpmngndaaGreat.Wk
namespace Go.Proofs.YtkjoilgpmngndaaGreat.au
open Go.RowKit YtkjoilgpmngndaaGreatW.aj YtkjoilgpmngndaaGreatW.aJ YtkjoilgpmngndaaGreatW.ek
structure TC where
 f0:Int
 f1:Int
def z52:TC:=⟨(0:Int),(0:Int)⟩
def Yj:Kd TC:=Kd.Tv (Kd.pair (Kd.int .i64) (Kd.int .i64)) (λx:TC=>(x.f0,x.f1))
theorem QY{w:World}{x:TC}{cs:List Value}(h:Yj.K w x cs):cs=[.int .i64 x.f0,.int .i64 x.f1]:=by
 obtain⟨_,_,rfl,rfl,rfl⟩:=h
 exact rfl
theorem Yi(w:World)(x:TC):Yj.K w x [.int .i64 x.f0,.int .i64 x.f1]:=⟨[.int .i64 x.f0],[.int .i64 x.f1],rfl,rfl,rfl⟩
theorem Uj(w:World)(base:Nat)(ok:Nat->Prop)(x:TC):Yj.M w base ok x [.int .i64 x.f0,.int .i64 x.f1]:=⟨[.int .i64 x.f0],[.int .i64 x.f1],rfl,rfl,rfl⟩
structure dQ where
 f0:Int
 f1:Int
 f2:Int
 f3:TC
def z105:dQ:=⟨(0:Int),(0:Int),(0:Int),z52⟩
def Bu:Kd dQ:=Kd.Tv (Kd.pair (Kd.int .i64) (Kd.pair (Kd.int .i64) (Kd.pair (Kd.int .i64) Yj))) (λx:dQ=>(x.f0,x.f1,x.f2,x.f3))
theorem OD{w:World}{x:dQ}{cs:List Value}(h:Bu.K w x cs):cs=[.int .i64 x.f0,.int .i64 x.f1,.int .i64 x.f2,.int .i64 x.f3.f0,.int .i64 x.f3.f1]:=by
 obtain⟨_,_,rfl,rfl,⟨_,_,rfl,rfl,⟨_,_,rfl,rfl,s3⟩⟩⟩:=h
 obtain rfl:=QY s3
 exact rfl
theorem Mw(w:World)(x:dQ):Bu.K w x [.int .i64 x.f0,.int .i64 x.f1,.int .i64 x.f2,.int .i64 x.f3.f0,.int .i64 x.f3.f1]:=⟨[.int .i64 x.f0],[.int .i64 x.f1,.int .i64 x.f2,.int .i64 x.f3.f0,.int .i64 x.f3.f1],rfl,rfl,⟨[.int .i64 x.f1],[.int .i64 x.f2,.int .i64 x.f3.f0,.int .i64 x.f3.f1],rfl,rfl,⟨[.int .i64 x.f2],[.int .i64 x.f3.f0,.int .i64 x.f3.f1],rfl,rfl,(Yi w x.f3)⟩⟩⟩
def iX(xs:List dQ)(i:Int):dQ:=xs.getD i.toNat z105
theorem yh{w:World}{A:Option Addr}{n:Nat}{xs:List dQ}(h:Kd.C Bu w A n xs)(i:Int)(h0:0<=i)(h1:i<n):∃ad,A=some ad/\w.cell? (ad.add (i.toNat*5))=some (.int .i64 (iX xs i).f0)/\w.cell? ⟨(ad.add (i.toNat*5)).block,(ad.add (i.toNat*5)).off+1,none⟩=some (.int .i64 (iX xs i).f1)/\w.cell? ⟨(ad.add (i.toNat*5)).block,(ad.add (i.toNat*5)).off+2,none⟩=some (.int .i64 (iX xs i).f2)/\w.cell? ⟨(ad.add (i.toNat*5)).block,(ad.add (i.toNat*5)).off+3,none⟩=some (.int .i64 (iX xs i).f3.f0)/\w.cell? ⟨(ad.add (i.toNat*5)).block,(ad.add (i.toNat*5)).off+4,none⟩=some (.int .i64 (iX xs i).f3.f1):=by
 obtain⟨ad,c,e,_,hK,hc0⟩:=Kd.vQ h z105 i h0 h1
 have hc:∀j u,c[j]?=some u->w.cell? (ad.add (i.toNat*5+j))=some u:=hc0
 obtain rfl:=OD hK
 exact⟨ad,e,hc 0 _ rfl,by rw[<- gq _ _ 1 (by omega)];exact hc 1 _ rfl,by rw[<- gq _ _ 2 (by omega)];exact hc 2 _ rfl,by rw[<- gq _ _ 3 (by omega)];exact hc 3 _ rfl,by rw[<- gq _ _ 4 (by omega)];exact hc 4 _ rfl⟩
structure jO where
 f0:Int
 f1:Int
def TK:jO:=⟨(0:Int),(0:Int)⟩
def OC:Kd jO:=Kd.Tv (Kd.pair (Kd.int .i64) (Kd.int .i64)) (λx:jO=>(x.f0,x.f1))
theorem OB{w:World}{x:jO}{cs:List Value}(h:OC.K w x cs):cs=[.int .i64 x.f0,.int .i64 x.f1]:=by
 obtain⟨_,_,rfl,rfl,rfl⟩:=h
 exact rfl
def zZ(xs:List jO)(i:Int):jO:=xs.getD i.toNat TK
theorem Vg{w:World}{A:Option Addr}{n:Nat}{xs:List jO}(h:Kd.C OC w A n xs)(i:Int)(h0:0<=i)(h1:i<n):∃ad,A=some ad/\w.cell? (ad.add (i.toNat*2))=some (.int .i64 (zZ xs i).f0)/\w.cell? ⟨(ad.add (i.toNat*2)).block,(ad.add (i.toNat*2)).off+1,none⟩=some (.int .i64 (zZ xs i).f1):=by
 obtain⟨ad,c,e,_,hK,hc0⟩:=Kd.vQ h TK i h0 h1
 have hc:∀j u,c[j]?=some u->w.cell? (ad.add (i.toNat*2+j))=some u:=hc0
 obtain rfl:=OB hK
 exact⟨ad,e,hc 0 _ rfl,by rw[<- gq _ _ 1 (by omega)];exact hc 1 _ rfl⟩
def jD.f(di:Int)(dU:Int)(a1:Int):Option (Bool):=if 0<=di then(if di<=dU then(some (decide (dU<=a1))) else(some false)) else(some false)
set_option maxHeartbeats 8000000 in
theorem jD.calls(di:Int)(dU:Int)(a1:Int)(r:Bool)(w:World)(h:jD.f di dU a1=some r):
  Calls Tryz.prog 94 #[.agg #[.int .i64 di,.int .i64 dU],.int .i64 a1] w λe w'=>e= .returned (.bool r)/\Below w.heap.size w w':=by
 have an4:=Tryz.underlying52
 have HB:=aa.mk (Below.refl w.heap.size w)
 have H:(if 0<=di then(if di<=dU then(some (decide (dU<=a1))) else(some false)) else(some false))=some r:=h
 clear h
 by_cases c3:0<=di
 .rw[if_pos c3] at H
  have qG:decide (0<=di)=true:=decide_eq_true c3
  clear c3
  by_cases c4:di<=dU
  .rw[if_pos c4] at H
   have ze:decide (di<=dU)=true:=decide_eq_true c4
   clear c4
   obtain rfl:=Option.some.inj H
   go_enter Tryz.func94,Tryz.ntmps94
   go_wp2_with (first|((with_reducible refine cZ (N:=2) rfl ?_);refine dA ?hg (N:=2) ?hd (cs:=#[.int .i64 di,.int .i64 dU]) (t:=52) ?hr ?_;(case hd=>rfl);(case hg=>rfl);(case hr=>first|(go_simp;done)|(go_simp;rfl));intro qh hg w5 eH hb;have fH:=aa.mk (bL (by repeat(first|(with_reducible first|exact HB.out|apply ae|apply ag|apply ah)|exact HB.out)) hb);have fU:=aa.mk (eH);have gV:=aa.mk ((by rw[hg];exact(aW (by repeat(first|(with_reducible first|exact HB.out|apply ae|apply ag|apply ah)|exact HB.out))):w.heap.size<=qh));have iT:=aa.mk ((by rw[hg];exact(aW (by repeat(first|(with_reducible first|exact HB.out|apply ae|apply ag|apply ah)|exact HB.out))):w.heap.size<=qh));clear HB;have HB:=fH;have qp:=fU;have Xr:=gV;have IL:=iT;clear fH fU gV iT;clear hb eH hg;have Kq:w5.cell? ⟨qh,0,none⟩=some (.int .i64 di):=(aA qp.out 0).trans rfl;have Ko:w5.cell? ⟨qh,1,none⟩=some (.int .i64 dU):=(aA qp.out 1).trans rfl;have Kl:=aD qp.out 0;have Kk:=aD qp.out 1))
   go_ret
   exact⟨by first|rfl|(simp[aY,aX]<;>rfl)|(simp[*,aY,aX]<;>rfl),by repeat(first|(with_reducible first|exact HB.out|apply ae|apply ag|apply ah|refine az ?_ IL.out)|exact HB.out)⟩
  .rw[if_neg c4] at H
   have ze:decide (di<=dU)=false:=decide_eq_false c4
   clear c4
   obtain rfl:=Option.some.inj H
   go_enter Tryz.func94,Tryz.ntmps94
   go_wp2_with (first|((with_reducible refine cZ (N:=2) rfl ?_);refine dA ?hg (N:=2) ?hd (cs:=#[.int .i64 di,.int .i64 dU]) (t:=52) ?hr ?_;(case hd=>rfl);(case hg=>rfl);(case hr=>first|(go_simp;done)|(go_simp;rfl));intro qh hg w7 eH hb;have fH:=aa.mk (bL (by repeat(first|(with_reducible first|exact HB.out|apply ae|apply ag|apply ah)|exact HB.out)) hb);have fU:=aa.mk (eH);have gV:=aa.mk ((by rw[hg];exact(aW (by repeat(first|(with_reducible first|exact HB.out|apply ae|apply ag|apply ah)|exact HB.out))):w.heap.size<=qh));have iT:=aa.mk ((by rw[hg];exact(aW (by repeat(first|(with_reducible first|exact HB.out|apply ae|apply ag|apply ah)|exact HB.out))):w.heap.size<=qh));clear HB;have HB:=fH;have qp:=fU;have Xr:=gV;have IL:=iT;clear fH fU gV iT;clear hb eH hg;have Fz:w7.cell? ⟨qh,0,none⟩=some (.int .i64 di):=(aA qp.out 0).trans rfl;have Fy:w7.cell? ⟨qh,1,none⟩=some (.int .i64 dU):=(aA qp.out 1).trans rfl;have Fq:=aD qp.out 0;have Fp:=aD qp.out 1))
   go_ret
   exact⟨by first|rfl|(simp[aY,aX]<;>rfl)|(simp[*,aY,aX]<;>rfl),by repeat(first|(with_reducible first|exact HB.out|apply ae|apply ag|apply ah|refine az ?_ IL.out)|exact HB.out)⟩
 .rw[if_neg c3] at H
  have qG:decide (0<=di)=false:=decide_eq_false c3
  clear c3
  obtain rfl:=Option.some.inj H
  go_enter Tryz.func94,Tryz.ntmps94
  go_wp2_with (first|((with_reducible refine cZ (N:=2) rfl ?_);refine dA ?hg (N:=2) ?hd (cs:=#[.int .i64 di,.int .i64 dU]) (t:=52) ?hr ?_;(case hd=>rfl);(case hg=>rfl);(case hr=>first|(go_simp;done)|(go_simp;rfl));intro qh hg w9 eH hb;have fH:=aa.mk (bL (by repeat(first|(with_reducible first|exact HB.out|apply ae|apply ag|apply ah)|exact HB.out)) hb);have fU:=aa.mk (eH);have gV:=aa.mk ((by rw[hg];exact(aW (by repeat(first|(with_reducible first|exact HB.out|apply ae|apply ag|apply ah)|exact HB.out))):w.heap.size<=qh));have iT:=aa.mk ((by rw[hg];exact(aW (by repeat(first|(with_reducible first|exact HB.out|apply ae|apply ag|apply ah)|exact HB.out))):w.heap.size<=qh));clear HB;have HB:=fH;have qp:=fU;have Xr:=gV;have IL:=iT;clear fH fU gV iT;clear hb eH hg;have afA:w9.cell? ⟨qh,0,none⟩=some (.int .i64 di):=(aA qp.out 0).trans rfl;have afz:w9.cell? ⟨qh,1,none⟩=some (.int .i64 dU):=(aA qp.out 1).trans rfl;have afn:=aD qp.out 0;have afm:=aD qp.out 1))
  go_ret
  exact⟨by first|rfl|(simp[aY,aX]<;>rfl)|(simp[*,aY,aX]<;>rfl),by repeat(first|(with_reducible first|exact HB.out|apply ae|apply ag|apply ah|refine az ?_ IL.out)|exact HB.out)⟩
end Go.Proofs.YtkjoilgpmngndaaGreat.au
