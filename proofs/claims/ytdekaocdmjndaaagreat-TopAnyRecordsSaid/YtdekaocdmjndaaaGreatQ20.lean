import Derived.Test.YtdekaocdmjndaaaGreatQ19
set_option maxRecDepth 100000
set_option linter.all false
namespace Go.Proofs.YtdekaocdmjndaaaGreat
open Go.RowKit Go.Shelf ah YtdekaocdmjndaaaGreatW.aj YtdekaocdmjndaaaGreatW.aH Ag
theorem BV(l:List Int)(a:Int)(hl:l.length<=1000):∀(m j:Nat),j+m=l.length->∃r,aZ.l0 (m+1) l a (l.length:Int) (j:Int)=some r/\decide (r>=0)=decide (a ∈ l.drop j)
 |0,j,hj=>by
  refine⟨-1,?_,?_⟩
  .rw[aZ.l0,if_neg (by omega)]
  .rw[List.drop_eq_nil_of_le (by omega)]
   rfl
 |m+1,j,hj=>by
  have hrd:rd l (j:Int)=l[j]:=by simp[rd,List.getD,show j<l.length by omega]
  have hd:l.drop j=l[j]::l.drop (j+1):=List.drop_eq_getElem_cons (by omega)
  by_cases h:a=l[j]
  .refine⟨(j:Int),?_,?_⟩
   .rw[aZ.l0,if_pos (by omega),if_pos (by omega),if_pos (by omega),hrd,if_pos h]
   .rw[decide_eq_true (show(j:Int)>=0 by omega),decide_eq_true (by rw[hd,h];exact List.mem_cons_self)]
  .obtain⟨r,h1,h2⟩:=BV l a hl m (j+1) (by omega)
   refine⟨r,?_,?_⟩
   .rw[aZ.l0,if_pos (by omega),if_pos (by omega),if_pos (by omega),hrd,if_neg h,show wrap64 ((j:Int)+1)=((j+1:Nat):Int) by unfold wrap64;omega]
    exact h1
   .rw[h2]
    exact decide_eq_decide.2 ⟨λhm=>by rw[hd];exact List.mem_cons_of_mem _ hm,λhm=>by rw[hd] at hm;exact(List.mem_cons.1 hm).resolve_left h⟩
theorem Hr(l:List Int)(a:Int)(hl:l.length<=1000):eP.f (l.length+1) l a=some (decide (a ∈ l)):=by
 obtain⟨r,h1,h2⟩:=BV l a hl l.length 0 (by omega)
 unfold eP.f aZ.f
 have h1':aZ.l0 (l.length+1) l a (l.length:Int) 0=some r:=h1
 rw[h1']
 simp only[Option.bind_some,h2,List.drop_zero]
theorem Ht{A:Option Addr}{c:Nat}(l:List Int)(a:Int)(b:Bool)(hb:decide (a ∈ l)=b)(w:World)(hC:(Kd.int .i64).C w A l.length l)(hc:l.length<=c)(hl:l.length<=1000):Calls Tryz.prog 129 #[.slice A l.length c,.int .i64 a] w λe w'=>e= .returned (.bool b)/\Below w.heap.size w w':=
 (eP.calls (l.length+1) A c l a b w hC hc (by rw[Hr l a hl,hb])).mono λ_ _ h=>⟨h.1,h.2.below⟩
theorem zJ(out:List Int)(a:List Rg):∀(al:List (List Rg)) (i:Nat) (l:List Rg),kU out (al++[a]) i l=if((i+al.length:Nat):Int) ∈ out then kU out al i l else iB (kU out al i l) a
 |[],i,l=>rfl
 |b::al,i,l=>by
  rw[List.cons_append,kU,zJ out a al,kU,List.length_cons,show i+1+al.length=i+(al.length+1) by omega]
theorem zI{out:List Int}{al:List (List Rg)}{k:Nat}(hk:k<al.length)(l:List Rg):kU out (al.take (k+1)) 0 l=if(k:Int) ∈ out then kU out (al.take k) 0 l else iB (kU out (al.take k) 0 l) al[k]:=by
 rw[List.take_succ_eq_append_getElem hk,zJ,List.length_take,Nat.zero_add,Nat.min_eq_left (by omega)]
theorem rz:∀(n:Nat) {a b:List Rg},a.length+b.length<=n->(iB a b).length<=a.length+b.length
 |_,[],b,_=>by simp[rf]
 |_,_::_,[],_=>by simp[ry]
 |0,_::_,_::_,h=>by simp at h
 |n+1,a::az,b::bz,h=>by
  simp only[List.length_cons] at h
  rw[pG,List.length_append]
  have hc:(vU a b).length<=1:=by
   unfold vU
   split<;>simp
  split
  .have:=rz n (a:=az) (b:=b::bz) (by simp only[List.length_cons];omega)
   simp only[List.length_cons] at this ⊢
   omega
  .have:=rz n (a:=a::az) (b:=bz) (by simp only[List.length_cons];omega)
   simp only[List.length_cons] at this ⊢
   omega
theorem qB{out:List Int}{al:List (List Rg)}{l:List Rg}(h:∀a ∈ al,a.length<=121):∀k,k<=al.length->(kU out (al.take k) 0 l).length<=l.length+121*k
 |0,_=>by simp[kU]
 |k+1,hk=>by
  have ih:=qB (out:=out) (l:=l) h k (by omega)
  have ha:=h al[k] (List.getElem_mem _)
  rw[zI (by omega)]
  split
  .omega
  .have:=rz _ (Nat.le_refl ((kU out (al.take k) 0 l).length+al[k].length))
   omega
theorem uq(rules:List Ru)(x:Re):(ni rules x).length<=121:=by
 have h:=o5 (day:=x.f0) (az:=(dE (oG (rules.getD x.f1.toNat ⟨0,0,0,0⟩) x.f2) 0 []).reverse) (l:=[])
 have h2:=oP (bs:=oG (rules.getD x.f1.toNat ⟨0,0,0,0⟩) x.f2) (n:=0) (l:=[])
 rw[qF] at h2
 unfold ni H7
 rw[List.length_reverse] at h
 simp only[List.length_nil] at h h2
 omega
theorem RA{w:World}{A:Option Addr}{al:List (List Rg)}(h:Xd.C w A al.length al)(k:Nat)(hk:k<al.length):∃ad B c,A=some ad/\w.cell? (ad.add k)=some (.slice B al[k].length c)/\al[k].length<=c/\nQ.C w B al[k].length al[k]:=by
 obtain⟨ad,c,e,_,hK,hc⟩:=Kd.qP h [] (k:Int) (by omega) (by omega)
 have e1:al.getD (k:Int).toNat []=al[k]:=by simp[List.getD,hk]
 rw[e1] at hK
 obtain⟨B,cb,rfl,h1,h2⟩:=hK
 have:=hc 0 _ rfl
 refine⟨ad,B,cb,e,?_,h1,h2⟩
 have e2:(k:Int).toNat*(Kd.slice 63 nQ).sz+0=k:=by
  show(k:Int).toNat*1+0=k
  omega
 rw[e2] at this
 exact this
theorem Z0{α:Type}(d:Kd α)(e:Nat){W:World}{base:Nat}(x:α)(cs:List Value)(hx:∀w b ok,d.M w b ok x cs)(hb:base<=W.heap.size):d.R e (W.alloc (.cells cs.toArray e)) base (λ_=>True) (.slice (some ⟨W.heap.size,0,none⟩) 1 1) [x]:=by
 have hl:cs.length=d.sz:=d.ky (d.fI (hx W base (λ_=>True)))
 have h2:=World.ownsRow_lit (base:=base) (e:=e) (size:=d.sz) W cs.toArray 1 hb (by decide) (by simpa using hl)
 have h3:(W.alloc (.cells cs.toArray e)).ownsRow base e d.sz (.slice (some ⟨W.heap.size,0,none⟩) 1 1) 1 cs:=by simpa using h2
 refine⟨λ_ _=>trivial,cs,h3,?_⟩
 refine⟨by simpa using hl,λj p hj=>?_⟩
 obtain⟨hjl,hp⟩:=List.getElem?_eq_some_iff.1 hj
 have hj0:j=0:=by simpa using hjl
 subst hj0
 have:x=p:=by simpa using hp
 subst this
 have e1:(cs.drop (0*d.sz)).take d.sz=cs:=by simp[<- hl]
 rw[e1]
 exact hx _ _ _
set_option maxHeartbeats 4000000 in
theorem zH{gf c ca:Nat}{A Aa:Option Addr}{u2 u3:Value}{al:List (List Rg)}(lo hi:Int)(out:List Int)(w:World)(hf:aV w gf [.int .i64 lo,.int .i64 hi,u2,u3,.slice Aa al.length ca] 203)(hal:Xd.C w Aa al.length al)(h8:al.length<=8)(Be:∀a ∈ al,a.length<=121)
  (ho:(Kd.int .i64).C w A out.length out) (hc:out.length<=c) (hol:out.length<=1000):
  Calls Tryz.prog 84 #[.pointer (some ⟨gf,0,none⟩),.slice A out.length c] w λe w'=>∃v,e= .returned v/\nQ.R 63 w' w.heap.size (λ_=>True) v (nI ⟨lo,hi⟩ al out)/\Below w.heap.size w w':=by
 have HAL:=aa.mk hal
 have HO:=aa.mk ho
 have R8:=aa.mk Be
 have h0:=hf.cell 0
 have h1:=hf.cell 1
 have h4:=hf.cell 4
 simp only[dZ,dY] at h0 h1 h4
 have hlf:=hf.lt
 clear hal ho Be hf
 go_enter Tryz.func84,Tryz.ntmps84
 go_upto_region 2 with(fail)
 have HB:=aa.mk (ae (Below.refl w.heap.size w) (.cells #[.int .i64 lo,.int .i64 hi] 63))
 have HR:=aa.mk (Z0 nQ 63 (W:=w) (base:=w.heap.size) (⟨lo,hi⟩:Rg) [.int .i64 lo,.int .i64 hi] (λ_ _ _=>vH _ _ _ (⟨lo,hi⟩:Rg)) (Nat.le_refl _))
 have h4':=(HB.out.cell (p:=⟨gf,4,none⟩) hlf).trans h4
 have Yw:=Nat.lt_of_lt_of_le hlf HB.out.size
 clear h0 h1 h4 hlf
 have HR:=aa.mk (show nQ.R 63 (w.alloc (.cells #[.int .i64 lo,.int .i64 hi] 63)) w.heap.size (λ_=>True) (.slice (some ⟨w.heap.size,0,none⟩) 1 1) [(⟨lo,hi⟩:Rg)] from HR.out)
 generalize w.alloc (.cells #[.int .i64 lo,.int .i64 hi] 63)=w0 at HB HR h4' Yw ⊢
 go_wp2_with fail
 clear h4' Yw
 go_loopw [5,19] (λv5 v19 wr=>∃(k:Nat) (ls:List Rg),k<=al.length/\v19= .int .i64 k/\aa (ls=kU out (al.take k) 0 [(⟨lo,hi⟩:Rg)])/\aa (Below w.heap.size w wr)/\aa (nQ.R 63 wr w.heap.size (λ_=>True) v5 ls)) (λ_ v19 _=>al.length-(intOf v19).toNat)
 case atStart=>exact⟨0,_,Nat.zero_le _,rfl,⟨rfl⟩,HB,HR⟩
 case round=>
  clear HB HR
  obtain⟨k,ls,hk,rfl,P5,HB,HR⟩:=hrel
  by_cases hkl:k<al.length
  .obtain⟨ad,B,cb,e,hr0,hcb,hCb⟩:=RA (Kd.aC HAL.out HB.out) k hkl
   cases e
   have HCB:=aa.mk hCb
   have HST:=aa.mk (zI (out:=out) hkl [(⟨lo,hi⟩:Rg)])
   have hlen:=qB (out:=out) (l:=[(⟨lo,hi⟩:Rg)]) R8.out k hk
   have hla:=R8.out al[k] (List.getElem_mem _)
   rw[<- P5.out] at HST hlen
   obtain⟨a,ha⟩:∃a,al[k]=a:=⟨_,rfl⟩
   rw[ha] at hr0 hcb HCB HST hla
   obtain⟨b,hb⟩:∃b,decide ((k:Int) ∈ out)=b:=⟨_,rfl⟩
   have HBB:=aa.mk hb
   simp only[List.length_singleton] at hlen
   clear ha hb hCb
   go_wp2_with fail
   refine(Ht out (k:Int) b HBB.out _ (Kd.aC HO.out HB.out) hc hol).mono ?_
   rintro e w1 ⟨rfl,dK⟩
   have HB1:=aa.mk (HB.out.trans (dK.mono HB.out.size))
   have HR1:=aa.mk (Kd.dm HR.out dK)
   have wL:=aa.mk (Kd.aC HCB.out dK)
   clear dK HB HR HCB hr0
   cases b
   .obtain⟨Al,cl,rfl,hcl,hCl⟩:=Kd.dB HR1.out
    have HCl:=aa.mk hCl
    clear hCl
    go_wp2_with fail
    refine(zo ls a w1 HCl.out wL.out hcl hcb (by omega)).mono ?_
    rintro e w2 ⟨v,rfl,hR2,hb2⟩
    have HB2:=aa.mk (HB1.out.trans (hb2.mono HB1.out.size))
    have HR2:=aa.mk (Kd.dG hR2 HB1.out.size)
    clear hR2 hb2
    go_wp2_with fail
    exact⟨⟨k+1,_,by omega,by go_num,⟨by rw[HST.out,if_neg (of_decide_eq_false HBB.out)]⟩,HB2,HR2⟩,by simp[intOf];omega⟩
   .go_wp2_with fail
    exact⟨⟨k+1,_,by omega,by go_num,⟨by rw[HST.out,if_pos (of_decide_eq_true HBB.out)]⟩,HB1,HR1⟩,by simp[intOf];omega⟩
  .obtain rfl:k=al.length:=by omega
   rw[List.take_length] at P5
   go_wp2_with fail
   go_ret
   exact⟨_,rfl,by(rw[show nI ⟨lo,hi⟩ al out=ls from P5.out.symm];exact HR.out),HB.out⟩
def Ij(w:World)(x:List Rg×Int)(e:Ending)(w':World):Prop:=∃v,e= .returned (.tuple #[v,.int .i64 x.2])/\nQ.R 63 w' w.heap.size (λ_=>True) v x.1/\Below w.heap.size w w'
theorem Di{born:Rg}{al:List (List Rg)}{out:List Int}(h:∀a ∈ al,a.length<=121):(nI born al out).length<=1+121*al.length:=by
 have:=qB (out:=out) (l:=[born]) h al.length (Nat.le_refl _)
 rw[List.take_length] at this
 exact this
theorem Bo(p:fe)(h:p.recs.length<=8):p.bU.1.length<=1000:=by
 unfold fe.bU
 split
 .have:=Di (born:=p.born) (al:=p.al) (out:=[]) (λa ha=>by
   obtain⟨x,_,rfl⟩:=List.mem_map.1 ha
   exact uq _ _)
  have e:p.al.length=p.recs.length:=by simp[fe.al]
  simp only
  omega
 .simp
theorem qE(p:fe):p.bU.1.length<=1000:=by
 by_cases h:p.recs.length<=8
 .exact Bo p h
 .unfold fe.bU
  rw[if_neg]
  .simp
  .unfold fe.fault
   rw[if_pos (.inr (by omega))]
   decide
set_option maxHeartbeats 4000000 in
theorem Dv{Ar Ac:Option Addr}{cr cc:Nat}{rules:List Ru}{recs:List Re}(lo hi:Int)(w:World)(h:Ao w Ar cr rules Ac cc recs):
  Calls Tryz.prog 77 #[.agg #[.int .i64 lo,.int .i64 hi,.slice Ar rules.length cr,.slice Ac recs.length cc]] w (Ij w (fe.bU ⟨⟨lo,hi⟩,rules,recs⟩)):=by
 have H:=aa.mk h
 clear h
 go_enter Tryz.func77,Tryz.ntmps77
 go_upto_region 1 with(fail)
 have HB:=aa.mk (ae (Below.refl w.heap.size w) (.cells #[.int .i64 lo,.int .i64 hi,.slice Ar rules.length cr,.slice Ac recs.length cc] 67))
 have BX:=aa.mk (aV.new w [.int .i64 lo,.int .i64 hi,.slice Ar rules.length cr,.slice Ac recs.length cc] 67)
 generalize w.alloc (.cells #[.int .i64 lo,.int .i64 hi,.slice Ar rules.length cr,.slice Ac recs.length cc] 67)=w0 at HB BX ⊢
 have dx:=BX.out.cell 0
 have dw:=BX.out.cell 1
 have dn:=BX.out.cell 2
 have dQ:=BX.out.cell 3
 simp only[dZ,dY] at dx dw dn dQ
 have mg:=BX.out.lt
 go_wp2_with fail
 refine(jl lo hi w0 (H.out.below HB.out)).mono ?_
 rintro e w1 ⟨rfl,dK⟩
 have HP:=aa.mk (show fe.bU ⟨⟨lo,hi⟩,rules,recs⟩=if fe.fault ⟨⟨lo,hi⟩,rules,recs⟩=0 then(nI ⟨lo,hi⟩ (recs.map (ni rules)) [],0) else([],fe.fault ⟨⟨lo,hi⟩,rules,recs⟩) from rfl)
 have DL:=aa.mk (M4 (lo:=lo) (hi:=hi) (rules:=rules) (recs:=recs))
 clear dx dw dn dQ mg
 replace HB:=aa.mk (HB.out.trans (dK.mono HB.out.size))
 replace BX:=aa.mk (BX.out.below dK)
 clear dK
 have dx:=BX.out.cell 0
 have dw:=BX.out.cell 1
 have dn:=BX.out.cell 2
 have dQ:=BX.out.cell 3
 simp only[dZ,dY] at dx dw dn dQ
 have mg:=BX.out.lt
 obtain⟨f,hf⟩:∃f,fe.fault ⟨⟨lo,hi⟩,rules,recs⟩=f:=⟨_,rfl⟩
 rw[hf] at HP DL ⊢
 clear hf
 by_cases hf0:f=0
 .subst hf0
  rw[if_pos rfl] at HP
  have hok:=DL.out rfl
  go_wp2_with fail
  refine(zG lo hi w1 (H.out.below HB.out) hok).mono ?_
  rintro e w2 ⟨gf,v,rfl,hfa⟩
  have hal:(recs.map (ni rules)).length<=8:=by rw[List.length_map];exact hok.m
  have Be:∀a ∈ recs.map (ni rules),a.length<=121:=λa ha=>by
   obtain⟨x,_,rfl⟩:=List.mem_map.1 ha
   exact uq _ _
  obtain⟨al,YN⟩:∃l,recs.map (ni rules)=l:=⟨_,rfl⟩
  rw[YN] at hfa hal Be HP
  obtain⟨Aa,ca,rfl,Vn,Y6⟩:=Kd.dB hfa.ra
  have HF:=aa.mk hfa
  have HC:=aa.mk Y6
  have R8:=aa.mk Be
  replace HB:=aa.mk (HB.out.trans (hfa.b.mono HB.out.size))
  clear hfa Y6 YN Be DL
  go_wp2_with fail
  refine(zH (A:=none) (c:=0) lo hi [] w2 HF.out.bf HC.out hal R8.out (Kd.FT _ _) (Nat.le_refl _) (by simp)).mono ?_
  rintro e w3 ⟨v3,rfl,hR,hb3⟩
  have HB3:=aa.mk (HB.out.trans (hb3.mono HB.out.size))
  have HR3:=aa.mk (Kd.dG hR HB.out.size)
  clear hR hb3
  go_wp2_with fail
  go_ret2
  exact HP.out▸⟨_,rfl,HR3.out,HB3.out⟩
 .rw[if_neg hf0] at HP
  have Q7:(f==0)=false:=by simpa using hf0
  clear DL hf0
  go_wp2_with fail
  go_ret2
  exact HP.out▸⟨_,rfl,Kd.iH _ _ _ _ _,HB.out⟩
theorem rQ{Ar Ac:Option Addr}{cr cc:Nat}{rules:List Ru}{recs:List Re}(lo hi:Int)(l:List Rg)(f:Int)(hr:fe.bU ⟨⟨lo,hi⟩,rules,recs⟩=(l,f))(w:World)(h:Ao w Ar cr rules Ac cc recs):
  Calls Tryz.prog 77 #[.agg #[.int .i64 lo,.int .i64 hi,.slice Ar rules.length cr,.slice Ac recs.length cc]] w (Ij w (l,f)):=hr▸Dv lo hi w h
set_option maxHeartbeats 4000000 in
theorem uj{Ar Ac:Option Addr}{cr cc:Nat}{rules:List Ru}{recs:List Re}(lo hi:Int)(w:World)(h:Ao w Ar cr rules Ac cc recs):
  Calls Tryz.prog 22 #[.agg #[.int .i64 lo,.int .i64 hi,.slice Ar rules.length cr,.slice Ac recs.length cc]] w (Ij w (fe.mM ⟨⟨lo,hi⟩,rules,recs⟩)):=by
 have H:=aa.mk h
 clear h
 have HP:=aa.mk (show fe.mM ⟨⟨lo,hi⟩,rules,recs⟩=if(fe.bU ⟨⟨lo,hi⟩,rules,recs⟩).2=0/\(fe.bU ⟨⟨lo,hi⟩,rules,recs⟩).1=[] then([],9) else fe.bU ⟨⟨lo,hi⟩,rules,recs⟩ from rfl)
 obtain⟨⟨l,f⟩,hx⟩:∃x,fe.bU ⟨⟨lo,hi⟩,rules,recs⟩=x:=⟨_,rfl⟩
 rw[hx] at HP
 have HX:=aa.mk (λW=>rQ (Ar:=Ar) (Ac:=Ac) (cr:=cr) (cc:=cc) lo hi l f hx W)
 clear hx
 go_enter Tryz.func22,Tryz.ntmps22
 go_upto_region 1 with(fail)
 have HB:=aa.mk (ae (Below.refl w.heap.size w) (.cells #[.int .i64 lo,.int .i64 hi,.slice Ar rules.length cr,.slice Ac recs.length cc] 67))
 have BX:=aa.mk (aV.new w [.int .i64 lo,.int .i64 hi,.slice Ar rules.length cr,.slice Ac recs.length cc] 67)
 generalize w.alloc (.cells #[.int .i64 lo,.int .i64 hi,.slice Ar rules.length cr,.slice Ac recs.length cc] 67)=w0 at HB BX ⊢
 have dx:=BX.out.cell 0
 have dw:=BX.out.cell 1
 have dn:=BX.out.cell 2
 have dQ:=BX.out.cell 3
 simp only[dZ,dY] at dx dw dn dQ
 have mg:=BX.out.lt
 go_wp2_with fail
 refine(HX.out w0 (H.out.below HB.out)).mono ?_
 rintro e w1 ⟨v,rfl,hR,dK⟩
 have HR:=aa.mk (Kd.dG hR HB.out.size)
 clear dx dw dn dQ mg
 replace HB:=aa.mk (HB.out.trans (dK.mono HB.out.size))
 replace BX:=aa.mk (BX.out.below dK)
 clear dK
 clear hR
 obtain⟨A,c,rfl⟩:=Kd.di HR.out
 by_cases hf:f=0
 .subst hf
  cases l with
  |nil=>
   rw[if_pos ⟨rfl,rfl⟩] at HP
   simp only[List.length_nil] at HR ⊢
   go_wp2_with fail
   go_ret2
   exact HP.out▸⟨_,rfl,HR.out,HB.out⟩
  |cons x l=>
   rw[if_neg (λh=>by cases h.2)] at HP
   have hlb:(((x::l).length:Int)==0)=false:=by simp;omega
   obtain⟨n,hn⟩:∃n,(x::l).length=n:=⟨_,rfl⟩
   rw[hn] at HR hlb ⊢
   clear hn
   go_wp2_with fail
   go_ret2
   exact HP.out▸⟨_,rfl,HR.out,HB.out⟩
 .rw[if_neg (λh=>hf h.1)] at HP
  have Q7:(f==0)=false:=by simpa using hf
  obtain⟨n,hn⟩:∃n,l.length=n:=⟨_,rfl⟩
  rw[hn] at HR ⊢
  clear hn hf
  go_wp2_with fail
  go_ret2
  exact HP.out▸⟨_,rfl,HR.out,HB.out⟩
def zg(p:fe)(day:Int):Bool:=decide (p.bU.2=0)&&p.bU.1.any (λr=>oW day r.f0 r.f1)
theorem CE(x:mh)(day:Int)(g:Nat)(w:World)(hg:w.cell? ⟨g,0,none⟩=some (.int .i64 day)):
  Calls Tryz.prog 91 #[.agg #[.int .i64 x.f0,.int .i64 x.f1],.pointer (some ⟨g,0,none⟩)] w λe w'=>e= .returned (.bool (oW day x.f0 x.f1))/\Below w.heap.size w w':=by
 have PW:g<w.heap.size:=World.block_lt_of_cell? w _ hg
 go_enter Tryz.func91,Tryz.ntmps91
 go_wp2_with fail
 refine(oZ day x.f0 x.f1 _).mono ?_
 rintro e w' ⟨rfl,hb⟩
 go_wp2_with fail
 go_ret
 exact⟨rfl,(ae (Below.refl _ _) _).trans (hb.mono (by simp))⟩
set_option maxHeartbeats 4000000 in
theorem pU{Ar Ac:Option Addr}{cr cc:Nat}{rules:List Ru}{recs:List Re}(lo hi day:Int)(w:World)(h:Ao w Ar cr rules Ac cc recs):
  Calls Tryz.prog 29 #[.agg #[.int .i64 lo,.int .i64 hi,.slice Ar rules.length cr,.slice Ac recs.length cc],.int .i64 day] w λe w'=>e= .returned (.bool (zg ⟨⟨lo,hi⟩,rules,recs⟩ day))/\Below w.heap.size w w':=by
 have H:=aa.mk h
 clear h
 have HP:=aa.mk (show zg ⟨⟨lo,hi⟩,rules,recs⟩ day=(decide ((fe.bU ⟨⟨lo,hi⟩,rules,recs⟩).2=0)&&(fe.bU ⟨⟨lo,hi⟩,rules,recs⟩).1.any (λr=>oW day r.f0 r.f1)) from rfl)
 have hln:=qE ⟨⟨lo,hi⟩,rules,recs⟩
 obtain⟨⟨l,f⟩,hx⟩:∃x,fe.bU ⟨⟨lo,hi⟩,rules,recs⟩=x:=⟨_,rfl⟩
 rw[hx] at HP hln
 have HX:=aa.mk (λW=>rQ (Ar:=Ar) (Ac:=Ac) (cr:=cr) (cc:=cc) lo hi l f hx W)
 clear hx
 go_enter Tryz.func29,Tryz.ntmps29
 go_upto_region 1 with(fail)
 have HB:=aa.mk (ae (ae (Below.refl w.heap.size w) (.cells #[.int .i64 lo,.int .i64 hi,.slice Ar rules.length cr,.slice Ac recs.length cc] 67)) (.cells #[.int .i64 day] 3))
 have BX:=aa.mk ((aV.new w [.int .i64 lo,.int .i64 hi,.slice Ar rules.length cr,.slice Ac recs.length cc] 67).alloc (.cells #[.int .i64 day] 3))
 have BD:=aa.mk (aV.second w (.cells #[.int .i64 lo,.int .i64 hi,.slice Ar rules.length cr,.slice Ac recs.length cc] 67) [.int .i64 day] 3)
 generalize(w.alloc (.cells #[.int .i64 lo,.int .i64 hi,.slice Ar rules.length cr,.slice Ac recs.length cc] 67)).alloc (.cells #[.int .i64 day] 3)=w0 at HB BX BD ⊢
 have dx:=BX.out.cell 0
 have dw:=BX.out.cell 1
 have dn:=BX.out.cell 2
 have dQ:=BX.out.cell 3
 simp only[dZ,dY] at dx dw dn dQ
 have mg:=BX.out.lt
 go_wp2_with fail
 refine(HX.out w0 (H.out.below HB.out)).mono ?_
 rintro e w1 ⟨v,rfl,hR,dK⟩
 have HR:=aa.mk (Kd.dG hR HB.out.size)
 replace BD:=aa.mk (BD.out.below dK)
 clear dx dw dn dQ mg
 replace HB:=aa.mk (HB.out.trans (dK.mono HB.out.size))
 replace BX:=aa.mk (BX.out.below dK)
 clear dK
 clear hR
 obtain⟨A,c,rfl,hc,hC⟩:=Kd.dB HR.out
 have HC:=aa.mk hC
 clear hC
 replace hln:l.length<=1000:=hln
 by_cases hf:f=0
 .subst hf
  rw[show decide ((0:Int)=0)=true from rfl,Bool.true_and] at HP
  obtain⟨b,hb⟩:∃b,l.any (λr=>oW day r.f0 r.f1)=b:=⟨_,rfl⟩
  have HBB:=aa.mk hb
  rw[hb] at HP
  clear hb
  go_wp2_with fail
  refine(yo 91 #[.pointer (some ⟨w.heap.size+1,0,none⟩)] (enters Tryz.func91 (by kernel_rfl) rfl) (λr=>oW day r.f0 r.f1) A c l w1 HC.out (by omega) (λW x hW=>?_)).mono ?_
  .have:=CE x day (w.heap.size+1) W ((hW.cell (p:=⟨w.heap.size+1,0,none⟩) BD.out.lt).trans (BD.out.cell 0))
   simpa[uK] using this
  rintro e w2 ⟨rfl,hb2⟩
  rw[HBB.out]
  have HB2:=aa.mk (HB.out.trans (hb2.mono HB.out.size))
  clear hb2
  go_wp2_with fail
  go_ret
  exact⟨by rw[HP.out];rfl,HB2.out⟩
 .rw[show decide (f=0)=false from decide_eq_false hf,Bool.false_and] at HP
  have Q7:(f==0)=false:=by simpa using hf
  clear hf
  go_wp2_with fail
  go_ret
  exact⟨by rw[HP.out];rfl,HB.out⟩
def Xb(x y:List Rg×Int):List Rg×Int:=if x.2≠0 then([],x.2) else if y.2≠0 then([],y.2) else(iB x.1 y.1,0)
set_option maxHeartbeats 4000000 in
theorem vw{Ar Ac:Option Addr}{cr cc:Nat}{rules:List Ru}{recs:List Re}{Bu Bv:Option Addr}{Bh Bn:Nat}{gq:List Ru}{jc:List Re}(lo hi lo2 hi2:Int)(w:World)(h:Ao w Ar cr rules Ac cc recs)(h2:Ao w Bu Bh gq Bv Bn jc):
  Calls Tryz.prog 85 #[.agg #[.int .i64 lo,.int .i64 hi,.slice Ar rules.length cr,.slice Ac recs.length cc],.agg #[.int .i64 lo2,.int .i64 hi2,.slice Bu gq.length Bh,.slice Bv jc.length Bn]] w (Ij w (Xb (fe.bU ⟨⟨lo,hi⟩,rules,recs⟩) (fe.bU ⟨⟨lo2,hi2⟩,gq,jc⟩))):=by
 have H:=aa.mk h
 have H2:=aa.mk h2
 clear h h2
 have hln:=qE ⟨⟨lo,hi⟩,rules,recs⟩
 have Yv:=qE ⟨⟨lo2,hi2⟩,gq,jc⟩
 obtain⟨⟨l,f⟩,hx⟩:∃x,fe.bU ⟨⟨lo,hi⟩,rules,recs⟩=x:=⟨_,rfl⟩
 have HX:=aa.mk (λW=>rQ (Ar:=Ar) (Ac:=Ac) (cr:=cr) (cc:=cc) lo hi l f hx W)
 obtain⟨⟨l2,f2⟩,hx2⟩:∃x,fe.bU ⟨⟨lo2,hi2⟩,gq,jc⟩=x:=⟨_,rfl⟩
 have FH:=aa.mk (λW=>rQ (Ar:=Bu) (Ac:=Bv) (cr:=Bh) (cc:=Bn) lo2 hi2 l2 f2 hx2 W)
 rw[hx,hx2]
 rw[hx] at hln
 rw[hx2] at Yv
 clear hx hx2
 simp only at hln Yv
 have HP:=aa.mk (show Xb (l,f) (l2,f2)=if f≠0 then([],f) else if f2≠0 then([],f2) else(iB l l2,0) from rfl)
 go_enter Tryz.func85,Tryz.ntmps85
 go_upto_region 1 with(fail)
 have HB:=aa.mk (ae (ae (Below.refl w.heap.size w) (.cells #[.int .i64 lo,.int .i64 hi,.slice Ar rules.length cr,.slice Ac recs.length cc] 67)) (.cells #[.int .i64 lo2,.int .i64 hi2,.slice Bu gq.length Bh,.slice Bv jc.length Bn] 67))
 have BX:=aa.mk ((aV.new w [.int .i64 lo,.int .i64 hi,.slice Ar rules.length cr,.slice Ac recs.length cc] 67).alloc (.cells #[.int .i64 lo2,.int .i64 hi2,.slice Bu gq.length Bh,.slice Bv jc.length Bn] 67))
 have BY:=aa.mk (aV.second w (.cells #[.int .i64 lo,.int .i64 hi,.slice Ar rules.length cr,.slice Ac recs.length cc] 67) [.int .i64 lo2,.int .i64 hi2,.slice Bu gq.length Bh,.slice Bv jc.length Bn] 67)
 generalize(w.alloc (.cells #[.int .i64 lo,.int .i64 hi,.slice Ar rules.length cr,.slice Ac recs.length cc] 67)).alloc (.cells #[.int .i64 lo2,.int .i64 hi2,.slice Bu gq.length Bh,.slice Bv jc.length Bn] 67)=w0 at HB BX BY ⊢
 have dx:=BX.out.cell 0
 have dw:=BX.out.cell 1
 have dn:=BX.out.cell 2
 have dQ:=BX.out.cell 3
 have zF:=BY.out.cell 0
 have zD:=BY.out.cell 1
 have zC:=BY.out.cell 2
 have zB:=BY.out.cell 3
 simp only[dZ,dY] at dx dw dn dQ zF zD zC zB
 have mg:=BX.out.lt
 have UR:=BY.out.lt
 go_wp2_with fail
 refine(HX.out w0 (H.out.below HB.out)).mono ?_
 rintro e w1 ⟨v,rfl,hR,dK⟩
 have HR:=aa.mk (Kd.dG hR HB.out.size)
 clear hR
 clear dx dw dn dQ zF zD zC zB mg UR
 replace HB:=aa.mk (HB.out.trans (dK.mono HB.out.size))
 replace BX:=aa.mk (BX.out.below dK)
 replace BY:=aa.mk (BY.out.below dK)
 clear dK
 obtain⟨A,c,rfl,hc,hC⟩:=Kd.dB HR.out
 have HC:=aa.mk hC
 clear hC
 have dx:=BX.out.cell 0
 have dw:=BX.out.cell 1
 have dn:=BX.out.cell 2
 have dQ:=BX.out.cell 3
 have zF:=BY.out.cell 0
 have zD:=BY.out.cell 1
 have zC:=BY.out.cell 2
 have zB:=BY.out.cell 3
 simp only[dZ,dY] at dx dw dn dQ zF zD zC zB
 have mg:=BX.out.lt
 have UR:=BY.out.lt
 simp only
 by_cases hf:f=0
 .subst hf
  rw[if_neg (by simp)] at HP
  go_wp2_with fail
  refine(FH.out w1 (H2.out.below HB.out)).mono ?_
  rintro e w2 ⟨v2,rfl,hR2,dK⟩
  have HR2:=aa.mk (Kd.dG hR2 HB.out.size)
  replace HC:=aa.mk (Kd.aC HC.out dK)
  clear hR2
  clear dx dw dn dQ zF zD zC zB mg UR
  replace HB:=aa.mk (HB.out.trans (dK.mono HB.out.size))
  replace BX:=aa.mk (BX.out.below dK)
  replace BY:=aa.mk (BY.out.below dK)
  clear dK
  obtain⟨A2,c2,rfl,hc2,hC2⟩:=Kd.dB HR2.out
  have FZ:=aa.mk hC2
  clear hC2
  simp only
  by_cases hf2:f2=0
  .subst hf2
   rw[if_neg (by simp)] at HP
   go_wp2_with fail
   refine(zo l l2 w2 HC.out FZ.out hc hc2 (by omega)).mono ?_
   rintro e w3 ⟨v3,rfl,hR3,hb3⟩
   have HB3:=aa.mk (HB.out.trans (hb3.mono HB.out.size))
   have HR3:=aa.mk (Kd.dG hR3 HB.out.size)
   clear hR3 hb3
   go_wp2_with fail
   go_ret2
   exact HP.out▸⟨_,rfl,HR3.out,HB3.out⟩
  .rw[if_pos hf2] at HP
   have Q7:(f2==0)=false:=by simpa using hf2
   clear hf2
   go_wp2_with fail
   go_ret2
   exact HP.out▸⟨_,rfl,Kd.iH _ _ _ _ _,HB.out⟩
 .rw[if_pos hf] at HP
  have Q7:(f==0)=false:=by simpa using hf
  clear hf
  go_wp2_with fail
  go_ret2
  exact HP.out▸⟨_,rfl,Kd.iH _ _ _ _ _,HB.out⟩
set_option maxHeartbeats 4000000 in
theorem zW(l:List Rg)(f:Int){Ar Ac:Option Addr}{cr cc:Nat}{rules:List Ru}{recs:List Re}{Bu Bv:Option Addr}{Bh Bn:Nat}{gq:List Ru}{jc:List Re}(lo hi lo2 hi2:Int)(w:World)(h:Ao w Ar cr rules Ac cc recs)(h2:Ao w Bu Bh gq Bv Bn jc)(hx:Xb (fe.bU ⟨⟨lo,hi⟩,rules,recs⟩) (fe.bU ⟨⟨lo2,hi2⟩,gq,jc⟩)=(l,f)):
  Calls Tryz.prog 25 #[.agg #[.int .i64 lo,.int .i64 hi,.slice Ar rules.length cr,.slice Ac recs.length cc],.agg #[.int .i64 lo2,.int .i64 hi2,.slice Bu gq.length Bh,.slice Bv jc.length Bn]] w λe w'=>e= .returned (.tuple #[.bool (!l.isEmpty),.int .i64 f])/\Below w.heap.size w w':=by
 have H:=aa.mk h
 have H2:=aa.mk h2
 have HX:=aa.mk hx
 clear h h2 hx
 go_enter Tryz.func25,Tryz.ntmps25
 go_upto_region 1 with(fail)
 have HB:=aa.mk (ae (ae (Below.refl w.heap.size w) (.cells #[.int .i64 lo,.int .i64 hi,.slice Ar rules.length cr,.slice Ac recs.length cc] 67)) (.cells #[.int .i64 lo2,.int .i64 hi2,.slice Bu gq.length Bh,.slice Bv jc.length Bn] 67))
 have BX:=aa.mk ((aV.new w [.int .i64 lo,.int .i64 hi,.slice Ar rules.length cr,.slice Ac recs.length cc] 67).alloc (.cells #[.int .i64 lo2,.int .i64 hi2,.slice Bu gq.length Bh,.slice Bv jc.length Bn] 67))
 have BY:=aa.mk (aV.second w (.cells #[.int .i64 lo,.int .i64 hi,.slice Ar rules.length cr,.slice Ac recs.length cc] 67) [.int .i64 lo2,.int .i64 hi2,.slice Bu gq.length Bh,.slice Bv jc.length Bn] 67)
 generalize(w.alloc (.cells #[.int .i64 lo,.int .i64 hi,.slice Ar rules.length cr,.slice Ac recs.length cc] 67)).alloc (.cells #[.int .i64 lo2,.int .i64 hi2,.slice Bu gq.length Bh,.slice Bv jc.length Bn] 67)=w0 at HB BX BY ⊢
 have dx:=BX.out.cell 0
 have dw:=BX.out.cell 1
 have dn:=BX.out.cell 2
 have dQ:=BX.out.cell 3
 have zF:=BY.out.cell 0
 have zD:=BY.out.cell 1
 have zC:=BY.out.cell 2
 have zB:=BY.out.cell 3
 simp only[dZ,dY] at dx dw dn dQ zF zD zC zB
 have mg:=BX.out.lt
 have UR:=BY.out.lt
 go_wp2_with fail
 refine(vw lo hi lo2 hi2 w0 (H.out.below HB.out) (H2.out.below HB.out)).mono ?_
 rintro e w1 hret
 rw[HX.out] at hret
 obtain⟨v,rfl,hR,dK⟩:=hret
 obtain⟨A,c,rfl⟩:=Kd.di hR
 clear dx dw dn dQ zF zD zC zB mg UR
 replace HB:=aa.mk (HB.out.trans (dK.mono HB.out.size))
 replace BX:=aa.mk (BX.out.below dK)
 replace BY:=aa.mk (BY.out.below dK)
 clear dK
 clear hR
 simp only
 cases l with
 |nil=>
  simp only[List.length_nil]
  go_wp2_with fail
  go_ret2
  exact⟨rfl,HB.out⟩
 |cons x l=>
  have hlb:(0:Int)<((x::l).length:Int):=by simp
  obtain⟨n,hn⟩:∃n,(x::l).length=n:=⟨_,rfl⟩
  rw[hn] at hlb ⊢
  clear hn
  go_wp2_with fail
  go_ret2
  have hd:decide (0<n)=true:=decide_eq_true (by omega)
  exact⟨by rw[show(!(x::l).isEmpty)=decide (0<n) from hd.symm▸rfl];rfl,HB.out⟩
def Ur(x:List Rg×Int):List Rg×Int:=if x.2=0/\x.1=[] then([],9) else x
set_option maxHeartbeats 4000000 in
theorem rT(l:List Rg)(f:Int){Ar Ac:Option Addr}{cr cc:Nat}{rules:List Ru}{recs:List Re}{Bu Bv:Option Addr}{Bh Bn:Nat}{gq:List Ru}{jc:List Re}(lo hi lo2 hi2:Int)(w:World)(h:Ao w Ar cr rules Ac cc recs)(h2:Ao w Bu Bh gq Bv Bn jc)(hx:Xb (fe.bU ⟨⟨lo,hi⟩,rules,recs⟩) (fe.bU ⟨⟨lo2,hi2⟩,gq,jc⟩)=(l,f)):
  Calls Tryz.prog 26 #[.agg #[.int .i64 lo,.int .i64 hi,.slice Ar rules.length cr,.slice Ac recs.length cc],.agg #[.int .i64 lo2,.int .i64 hi2,.slice Bu gq.length Bh,.slice Bv jc.length Bn]] w (Ij w (Ur (l,f))):=by
 have H:=aa.mk h
 have H2:=aa.mk h2
 have HX:=aa.mk hx
 have HP:=aa.mk (show Ur (l,f)=if f=0/\l=[] then([],9) else(l,f) from rfl)
 clear h h2 hx
 go_enter Tryz.func26,Tryz.ntmps26
 go_upto_region 1 with(fail)
 have HB:=aa.mk (ae (ae (Below.refl w.heap.size w) (.cells #[.int .i64 lo,.int .i64 hi,.slice Ar rules.length cr,.slice Ac recs.length cc] 67)) (.cells #[.int .i64 lo2,.int .i64 hi2,.slice Bu gq.length Bh,.slice Bv jc.length Bn] 67))
 have BX:=aa.mk ((aV.new w [.int .i64 lo,.int .i64 hi,.slice Ar rules.length cr,.slice Ac recs.length cc] 67).alloc (.cells #[.int .i64 lo2,.int .i64 hi2,.slice Bu gq.length Bh,.slice Bv jc.length Bn] 67))
 have BY:=aa.mk (aV.second w (.cells #[.int .i64 lo,.int .i64 hi,.slice Ar rules.length cr,.slice Ac recs.length cc] 67) [.int .i64 lo2,.int .i64 hi2,.slice Bu gq.length Bh,.slice Bv jc.length Bn] 67)
 generalize(w.alloc (.cells #[.int .i64 lo,.int .i64 hi,.slice Ar rules.length cr,.slice Ac recs.length cc] 67)).alloc (.cells #[.int .i64 lo2,.int .i64 hi2,.slice Bu gq.length Bh,.slice Bv jc.length Bn] 67)=w0 at HB BX BY ⊢
 have dx:=BX.out.cell 0
 have dw:=BX.out.cell 1
 have dn:=BX.out.cell 2
 have dQ:=BX.out.cell 3
 have zF:=BY.out.cell 0
 have zD:=BY.out.cell 1
 have zC:=BY.out.cell 2
 have zB:=BY.out.cell 3
 simp only[dZ,dY] at dx dw dn dQ zF zD zC zB
 have mg:=BX.out.lt
 have UR:=BY.out.lt
 go_wp2_with fail
 refine(vw lo hi lo2 hi2 w0 (H.out.below HB.out) (H2.out.below HB.out)).mono ?_
 rintro e w1 hret
 rw[HX.out] at hret
 obtain⟨v,rfl,hR,dK⟩:=hret
 have HR:=aa.mk (Kd.dG hR HB.out.size)
 clear hR
 obtain⟨A,c,rfl⟩:=Kd.di HR.out
 clear dx dw dn dQ zF zD zC zB mg UR
 replace HB:=aa.mk (HB.out.trans (dK.mono HB.out.size))
 replace BX:=aa.mk (BX.out.below dK)
 replace BY:=aa.mk (BY.out.below dK)
 clear dK
 simp only
 by_cases hf:f=0
 .subst hf
  cases l with
  |nil=>
   rw[if_pos ⟨rfl,rfl⟩] at HP
   simp only[List.length_nil] at HR ⊢
   go_wp2_with fail
   go_ret2
   exact HP.out▸⟨_,rfl,HR.out,HB.out⟩
  |cons x l=>
   rw[if_neg (λh=>by cases h.2)] at HP
   have hlb:(((x::l).length:Int)==0)=false:=by simp;omega
   obtain⟨n,hn⟩:∃n,(x::l).length=n:=⟨_,rfl⟩
   rw[hn] at HR hlb ⊢
   clear hn
   go_wp2_with fail
   go_ret2
   exact HP.out▸⟨_,rfl,HR.out,HB.out⟩
 .rw[if_neg (λh=>hf h.1)] at HP
  have Q7:(f==0)=false:=by simpa using hf
  obtain⟨n,hn⟩:∃n,l.length=n:=⟨_,rfl⟩
  rw[hn] at HR ⊢
  clear hn hf
  go_wp2_with fail
  go_ret2
  unfold Ij
  rw[HP.out]
  exact⟨_,rfl,HR.out,HB.out⟩
end Go.Proofs.YtdekaocdmjndaaaGreat
namespace Go.Proofs.YtdekaocdmjndaaaGreat.ah
open Go.RowKit YtdekaocdmjndaaaGreatW.aj YtdekaocdmjndaaaGreatW.aH YtdekaocdmjndaaaGreatW.eu
structure fG where
 f0:Int
 f1:Int
def Mr:fG:=⟨(0:Int),(0:Int)⟩
def AY:Kd fG:=Kd.NG (Kd.pair (Kd.int .i64) (Kd.int .i64)) (λx:fG=>(x.f0,x.f1))
theorem BU{w:World}{x:fG}{cs:List Value}(h:AY.K w x cs):cs=[.int .i64 x.f0,.int .i64 x.f1]:=by
 obtain⟨_,_,rfl,rfl,rfl⟩:=h
 exact rfl
theorem QE(w:World)(x:fG):AY.K w x [.int .i64 x.f0,.int .i64 x.f1]:=⟨[.int .i64 x.f0],[.int .i64 x.f1],rfl,rfl,rfl⟩
def sF(xs:List fG)(i:Int):fG:=xs.getD i.toNat Mr
theorem Jp{w:World}{A:Option Addr}{n:Nat}{xs:List fG}(h:Kd.C AY w A n xs)(i:Int)(h0:0<=i)(h1:i<n):∃ad,A=some ad/\w.cell? (ad.add (i.toNat*2))=some (.int .i64 (sF xs i).f0)/\w.cell? ⟨(ad.add (i.toNat*2)).block,(ad.add (i.toNat*2)).off+1,none⟩=some (.int .i64 (sF xs i).f1):=by
 obtain⟨ad,c,e,_,hK,hc0⟩:=Kd.qP h Mr i h0 h1
 have hc:∀j u,c[j]?=some u->w.cell? (ad.add (i.toNat*2+j))=some u:=hc0
 obtain rfl:=BU hK
 exact⟨ad,e,hc 0 _ rfl,by rw[<- dz _ _ 1 (by omega)];exact hc 1 _ rfl⟩
structure dJ where
 f0:Int
 f1:Int
 f2:fG
def Qb:dJ:=⟨(0:Int),(0:Int),Mr⟩
def GM:Kd dJ:=Kd.NG (Kd.pair (Kd.int .i64) (Kd.pair (Kd.int .i64) AY)) (λx:dJ=>(x.f0,x.f1,x.f2))
theorem Kw{w:World}{x:dJ}{cs:List Value}(h:GM.K w x cs):cs=[.int .i64 x.f0,.int .i64 x.f1,.int .i64 x.f2.f0,.int .i64 x.f2.f1]:=by
 obtain⟨_,_,rfl,rfl,⟨_,_,rfl,rfl,s2⟩⟩:=h
 obtain rfl:=BU s2
 exact rfl
def iX(xs:List dJ)(i:Int):dJ:=xs.getD i.toNat Qb
theorem yI{w:World}{A:Option Addr}{n:Nat}{xs:List dJ}(h:Kd.C GM w A n xs)(i:Int)(h0:0<=i)(h1:i<n):∃ad,A=some ad/\w.cell? (ad.add (i.toNat*4))=some (.int .i64 (iX xs i).f0)/\w.cell? ⟨(ad.add (i.toNat*4)).block,(ad.add (i.toNat*4)).off+1,none⟩=some (.int .i64 (iX xs i).f1)/\w.cell? ⟨(ad.add (i.toNat*4)).block,(ad.add (i.toNat*4)).off+2,none⟩=some (.int .i64 (iX xs i).f2.f0)/\w.cell? ⟨(ad.add (i.toNat*4)).block,(ad.add (i.toNat*4)).off+3,none⟩=some (.int .i64 (iX xs i).f2.f1):=by
 obtain⟨ad,c,e,_,hK,hc0⟩:=Kd.qP h Qb i h0 h1
 have hc:∀j u,c[j]?=some u->w.cell? (ad.add (i.toNat*4+j))=some u:=hc0
 obtain rfl:=Kw hK
 exact⟨ad,e,hc 0 _ rfl,by rw[<- dz _ _ 1 (by omega)];exact hc 1 _ rfl,by rw[<- dz _ _ 2 (by omega)];exact hc 2 _ rfl,by rw[<- dz _ _ 3 (by omega)];exact hc 3 _ rfl⟩
def iy.f(a0:Int)(a1:Int)(a2:Int):Option (Bool):=if a1<=a0 then(some (decide (a0<=a2))) else(some false)
set_option maxHeartbeats 8000000 in
theorem iy.calls(a0:Int)(a1:Int)(a2:Int)(r:Bool)(w:World)(h:iy.f a0 a1 a2=some r):
  Calls Tryz.prog 210 #[.int .i64 a0,.int .i64 a1,.int .i64 a2] w λe w'=>e= .returned (.bool r)/\aU w w':=by
 have H:(if a1<=a0 then(some (decide (a0<=a2))) else(some false))=some r:=h
 clear h
 by_cases c4:a1<=a0
 .rw[if_pos c4] at H
  have rO:decide (a1<=a0)=true:=decide_eq_true c4
  clear c4
  obtain rfl:=Option.some.inj H
  go_enter Tryz.func210,Tryz.ntmps210
  go_wp2
  go_ret
  exact⟨by first|rfl|(simp;done)|(simp[*];done),by repeat(first|exact aU.refl _|apply aU.step)⟩
 .rw[if_neg c4] at H
  have rO:decide (a1<=a0)=false:=decide_eq_false c4
  clear c4
  obtain rfl:=Option.some.inj H
  go_enter Tryz.func210,Tryz.ntmps210
  go_wp2
  go_ret
  exact⟨by first|rfl|(simp;done)|(simp[*];done),by repeat(first|exact aU.refl _|apply aU.step)⟩
def kE.f(xY:List (fG))(jm:List (dJ))(a1:Int):Option (Bool):=(iy.f a1 0 (wrap64 ((xY.length:Int)-1))).bind λt216=>(some t216)
set_option maxHeartbeats 8000000 in
theorem kE.calls(Sn:Option Addr)(Rw:Nat)(xY:List (fG))(Aj:Option Addr)(zO:Nat)(jm:List (dJ))(a1:Int)(r:Bool)(w:World)(SF:Kd.C AY w Sn xY.length xY)(SN:xY.length<=Rw)(EP:Kd.C GM w Aj jm.length jm)(EW:jm.length<=zO)(h:kE.f xY jm a1=some r):
  Calls Tryz.prog 135 #[.agg #[.slice Sn xY.length Rw,.slice Aj jm.length zO],.int .i64 a1] w λe w'=>e= .returned (.bool r)/\Below w.heap.size w w':=by
 have huM:=Tryz.underlying155
 have ajq:=aa.mk SF
 have ajF:=aa.mk SN
 clear SF SN
 have TD:=aa.mk EP
 have aaR:=aa.mk EW
 clear EP EW
 have HB:=aa.mk (Below.refl w.heap.size w)
 have H:((iy.f a1 0 (wrap64 ((xY.length:Int)-1))).bind λt216=>(some t216))=some r:=h
 clear h
 replace H:=Option.bind_eq_some_iff.mp H
 obtain⟨t216,Ul,H⟩:=H
 replace H:(some t216)=some r:=H
 have A3:=aa.mk Ul
 clear Ul
 obtain rfl:=Option.some.inj H
 go_enter Tryz.func135,Tryz.ntmps135
 go_wp2_with (first|((with_reducible refine dM (N:=2) rfl ?_);refine ek ?hg (N:=2) ?hd (cs:=#[.slice Sn xY.length Rw,.slice Aj jm.length zO]) (t:=155) ?hr ?_;(case hd=>rfl);(case hg=>rfl);(case hr=>first|(go_simp;done)|(go_simp;rfl));intro Ja hg w4 fK hb;have ic:=aa.mk (bZ (by repeat(first|(with_reducible first|exact HB.out|apply ae|apply ag|apply ak)|exact HB.out)) hb);have ib:=aa.mk (fK);have iU:=aa.mk ((by rw[hg];exact(aT (by repeat(first|(with_reducible first|exact HB.out|apply ae|apply ag|apply ak)|exact HB.out))):w.heap.size<=Ja));have jR:=aa.mk ((by rw[hg];exact(aT (by repeat(first|(with_reducible first|exact HB.out|apply ae|apply ag|apply ak)|exact HB.out))):w.heap.size<=Ja));clear HB;have HB:=ic;have JN:=ib;have ajJ:=iU;have aa6:=jR;clear ic ib iU jR;clear hb fK hg;have C8:w4.cell? ⟨Ja,0,none⟩=some (.slice Sn xY.length Rw):=(av JN.out 0).trans rfl;have C7:w4.cell? ⟨Ja,1,none⟩=some (.slice Aj jm.length zO):=(av JN.out 1).trans rfl;have CZ:=aA JN.out 0;have CY:=aA JN.out 1)|((with_reducible refine iE (f:=210) rfl ?_);refine qz (some 10) rfl rfl Tryz.func210 (by kernel_rfl) rfl #[.int .i64 a1,.int .i64 0,.int .i64 (wrap64 ((xY.length:Int)-1))] rfl (by(try simp only[List.map_toArray,List.map_cons,List.map_nil]);first|done|rfl|(simp only[List.length_drop,List.length_take];rfl)) ?_;(with_reducible refine(iy.calls a1 0 (wrap64 ((xY.length:Int)-1)) t216 _ A3.out).mono ?_);rintro e w' ⟨rfl,⟨nd,rfl⟩⟩;refine⟨_,rfl,?_⟩))
 go_ret
 exact⟨by first|rfl|(simp[bn,bg]<;>rfl)|(simp[*,bn,bg]<;>rfl),by repeat(first|(with_reducible first|exact HB.out|apply ae|apply ag|apply ak|refine aJ ?_ aa6.out)|exact HB.out)⟩
def Qk.f(a0:Int):Option (Bool):=(iy.f a0 0 10000).bind λt221=>(some t221)
end Go.Proofs.YtdekaocdmjndaaaGreat.ah
