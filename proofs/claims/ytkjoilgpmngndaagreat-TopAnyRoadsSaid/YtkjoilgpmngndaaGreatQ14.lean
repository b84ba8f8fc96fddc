import Derived.Test.YtkjoilgpmngndaaGreatQ13
set_option linter.all false
namespace Go.Proofs.YtkjoilgpmngndaaGreat.Wk
open Go.RowKit Go.Shelf au YtkjoilgpmngndaaGreatW.aj YtkjoilgpmngndaaGreatW.aJ
attribute [local go_sem] EK Jm
def dv.T7:Bool×List (List Nat×List Nat):=(true,[([],[]),([],[]),([0,1],[0,1]),([2],[2]),([3],[3]),([4],[4]),([4],[4]),([5,6,4,4],[4,5,6]),([4],[4]),([7,8,4],[4,7,8]),([4,9],[4,9])])
def dv.B7:List Nat:=[0,0,3,7,15,31,31,127,31,511,1023]
theorem dv.TS:dW .any (opsOf Tryz.f111 7)=dv.T7:=by kernel_rfl
theorem dv.M7:bJ dv.T7.2 dv.B7=true:=by kernel_rfl
def dv.Sd:Bool×List (List Nat×List Nat):=(true,[([],[]),([],[]),([],[]),([2],[2]),([],[]),([4],[4]),([3,5,3],[3,5]),([0,1,0,1,2,3,4,5,6],[0,1]),([7,6,6,0,1,2,3,4,5,6],[6,7])])
def dv.B11:List Nat:=[0,0,0,4,0,16,60,127,255]
theorem dv.vE:dW .any (opsOf Tryz.f111 11)=dv.Sd:=by kernel_rfl
theorem dv.qH:bJ dv.Sd.2 dv.B11=true:=by kernel_rfl
def ll(T:Nat->Nat->Int)(Wk:List dP)(limit:Int)(part:Nat):Bool:=decide (limit<jA T Wk part)
theorem kN{w:World}{g:Nat}{x:Int}(h:w.cell? ⟨g,0,none⟩=some (.int .i64 x)):(Kd.int .i64).C w (some ⟨g,0,none⟩) 1 [x]:=by
 refine⟨rfl,by omega,λ_=>⟨_,rfl,λj p hj=>?_⟩⟩
 obtain rfl:j=0:=by
  rcases Nat.eq_zero_or_pos j with e|e
  .exact e
  .rw[List.getElem?_eq_none (by simp only[List.length_cons,List.length_nil];omega)] at hj
   cases hj
 obtain rfl:x=p:=by simpa using hj
 refine⟨[.int .i64 x],rfl,rfl,λi u hu=>?_⟩
 obtain rfl:i=0:=by
  rcases Nat.eq_zero_or_pos i with e|e
  .exact e
  .rw[List.getElem?_eq_none (by simp only[List.length_cons,List.length_nil];omega)] at hu
   cases hu
 obtain rfl:Value.int .i64 x=u:=by simpa using hu
 rw[FT]
 simpa using h
def CL(w:World)(v:Value)(xs:List Int):Prop:=(v= .slice none 0 0/\xs=[])\/∃ad k c,v= .slice (some ad) k c/\xs.length=k/\(Kd.int .i64).C w (some ad) k xs/\k<=1000
theorem CL.below{w w':World}{v:Value}{xs:List Int}(h:CL w v xs)(hb:Below w.heap.size w w'):CL w' v xs:=by
 rcases h with h|⟨ad,k,c,h1,h2,h3,h4⟩
 .exact .inl h
 .exact .inr ⟨ad,k,c,h1,h2,Kd.av h3 hb,h4⟩
theorem lT{w:World}{v:Value}{xs:List Int}(h:CL w v xs):Calls Tryz.prog 112 #[v] w λe w'=>∃v',e= .returned v'/\(Kd.int .i64).R 160 w' w.heap.size (λ_=>True) v' xs/\Below w.heap.size w w':=by
 rcases h with⟨rfl,rfl⟩|⟨ad,k,c,rfl,rfl,h3,h4⟩
 .exact(Pf w).mono λe w' ⟨h1,h2⟩=>⟨_,h1,Kd.iK _ _ _ _ _,h2⟩
 .exact Il w h3 h4
set_option maxRecDepth 100000 in
set_option maxHeartbeats 40000000 in
theorem Gw{w0:World}{A0:Option Addr}{c0:Nat}{Wk:List dP}{A1:Option Addr}{c1:Nat}{R:List aV}{ga mb:Nat}{T F:Nat->Nat->Int}{gt b1 b2 b3 b4:Nat}{limit:Int}(hN:Wk.length<=8)(hT:kL T)(hW:Cv Wk):
  ∀(s:Nat),s<2^Wk.length->∀(w:World) (E:Nat->Option Nat),DC w0 w A0 c0 Wk A1 c1 R ga mb T F gt b1 b2 b3 b4 limit->Cx w mb gt Wk.length E->(∀t,t<=s->E t=none\/E t=split (ll T Wk limit) t) ->
  Calls Tryz.prog 111 #[.int .i64 s,.pointer (some ⟨b1,0,none⟩),.pointer (some ⟨b2,0,none⟩),.pointer (some ⟨b3,0,none⟩),.pointer (some ⟨b4,0,none⟩)] w λe w'=>∃v E',e= .returned v/\PO w' (Wr mb gt) v (split (ll T Wk limit) s)/\DC w0 w' A0 c0 Wk A1 c1 R ga mb T F gt b1 b2 b3 b4 limit/\Cx w' mb gt Wk.length E'/\(∀t,t<=s->E' t=none\/E' t=split (ll T Wk limit) t)/\(∀t,s<t->E' t=E t)/\bq w.heap.size (Wr mb gt) w w':=by
 intro s
 induction s using Nat.strongRecOn with
 |ind s ih=>
 intro hs w E hD YW hE
 have IH:=aa.mk ih
 have HT:=aa.mk hT
 have HW:=aa.mk hW
 have HD:=aa.mk hD
 have I4:=aa.mk YW
 have HE:=aa.mk hE
 have Mx:s<256:=Nat.lt_of_lt_of_le hs (Nat.pow_le_pow_right (by omega) hN)
 have hsi:(s:Int)<(2^Wk.length:Nat):=by omega
 have an7:(s:Int)<2^Wk.length:=by have:=Int.ofNat_lt.2 hs;simpa using this
 obtain⟨hc1,hc2,hc3,hc4⟩:=hD.cells
 obtain⟨v,hv,hEv⟩:=YW.cell hs
 have hgt:=YW.lt
 have HEV:=aa.mk hEv
 clear ih hT hW hD YW hE hEv
 by_cases h0:s=0
 .subst h0
  have hE0:E 0=none:=by
   rcases HE.out 0 (Nat.le_refl _) with h|h
   .exact h
   .exact h
  go_enter Tryz.func111,Tryz.ntmps111
  go_wp2_with fail
  go_ret
  exact⟨_,E,rfl,by have:=HEV.out;rw[hE0] at this;exact this,HD.out,I4.out,HE.out,λ_ _=>rfl,bq.refl _ _ _⟩
 .have h0b:((s:Int)==0)=false:=by simpa using h0
  by_cases hk:∃k,E s=some k
  .obtain⟨k,hk⟩:=hk
   have UW:split (ll T Wk limit) s=some k:=by
    rcases HE.out s (Nat.le_refl _) with h|h
    .rw[hk] at h;cases h
    .rw[<- h,hk]
   have hev:=HEV.out
   rw[hk] at hev
   obtain⟨ad,c,xs,rfl,h2,h3,h4,h5⟩:=hev
   have H3:=aa.mk h3
   have H4:=aa.mk h4
   clear h3 h4
   go_enter Tryz.func111,Tryz.ntmps111
   go_wp2_with fail
   go_ret
   exact⟨_,E,rfl,by rw[UW];exact⟨ad,c,xs,rfl,h2,H3.out,H4.out,h5⟩,HD.out,I4.out,HE.out,λ_ _=>rfl,bq.refl _ _ _⟩
  .have hn:E s=none:=by
    cases h:E s with
    |none=>rfl
    |some k=>exact absurd ⟨k,h⟩ hk
   have hev:=HEV.out
   rw[hn] at hev
   obtain rfl:v= .slice none 0 0:=hev
   have hlow:=X9 Mx
   have Rb:=Ya Mx
   obtain⟨first,Fv⟩:∃f,J6 s=f:=⟨_,rfl⟩
   rw[Fv] at hlow Rb
   have HNS:=aa.mk hn
   clear hk hn HEV
   go_enter Tryz.func111,Tryz.ntmps111
   go_wp2_with fail
   clear hv
   have hsp:=Ea (ll T Wk limit) s h0
   rw[Fv] at hsp
   have HSP:=aa.mk hsp
   have HFI:=aa.mk Fv
   clear hlow hsp Fv
   go_loopw [8] (λv8 wr=>∃(part:Nat) (E':Nat->Option Nat),v8= .int .i64 part/\part<=s/\part&&&s=part/\aa (DC w0 wr A0 c0 Wk A1 c1 R ga mb T F gt b1 b2 b3 b4 limit)/\aa (Cx wr mb gt Wk.length E')/\aa (∀t,t<s->E' t=none\/E' t=split (ll T Wk limit) t)/\aa (∀t,s<t->E' t=E t)/\aa (bq w.heap.size (Wr mb gt) w wr)/\aa (fZ (ll T Wk limit) (split (ll T Wk limit)) s first part part (E' s)=split (ll T Wk limit) s)) (λv8 _=>(intOf v8).toNat)
   case atStart=>exact⟨s,E,rfl,Nat.le_refl _,Nat.and_self s,HD,I4,⟨λt ht=>HE.out t (by omega)⟩,⟨λ_ _=>rfl⟩,⟨bq.refl _ _ _⟩,⟨by rw[HNS.out,HSP.out]⟩⟩
   case round=>
    clear hc1 hc2 hc3 hc4 HD I4 HE hgt
    obtain⟨part,E',rfl,hps,hpa,HD,I4,HE,HE2,KW,HSL⟩:=hrel
    obtain⟨hc1,hc2,hc3,hc4⟩:=HD.out.cells
    have hgt:=I4.out.lt
    by_cases hp0:part=0
    .subst hp0
     have hgr:decide ((0:Int)<((0:Nat):Int))=false:=by simp
     obtain⟨v,hv,hEv⟩:=I4.out.cell hs
     have HEV:=aa.mk hEv
     clear hEv
     go_wp2_with fail
     go_ret
     have hes:E' s=split (ll T Wk limit) s:=by rw[<- HSL.out,kz]
     exact⟨_,E',rfl,by rw[<- hes];exact HEV.out,HD.out,I4.out,λt ht=>by
      rcases Nat.lt_or_ge t s with h|h
      .exact HE.out t h
      .obtain rfl:t=s:=by omega
       exact .inr hes,HE2.out,KW.out⟩
    .have hgr:decide ((0:Int)<(part:Int))=true:=by simp;omega
     have MB:part<256:=by omega
     have hpn:part<2^Wk.length:=by omega
     have hpl:∀p ∈ places part,p<Wk.length:=λp hp=>by
      have h1:=Nat.ge_two_pow_of_testBit (kC.1 hp).2
      exact(Nat.pow_lt_pow_iff_right (by omega)).1 (Nat.lt_of_le_of_lt h1 hpn)
     have hand1:Go.bits .and .i64 (part:Int) (first:Int)=((part&&&first:Nat):Int):=RZ Rb MB
     have hand2:Go.bits .and .i64 ((part:Int)-1) (s:Int)=(((part-1)&&&s:Nat):Int):=by
      have:=RZ Mx (p:=part-1) (by omega)
      rwa [show((part-1:Nat):Int)=(part:Int)-1 by omega] at this
     obtain⟨hnot,_⟩:=X5 Mx MB hpa
     have hnext:(part-1)&&&s<=part-1:=Nat.and_le_left
     have qE:=TU (part-1) s
     have hstep:=AV (ll T Wk limit) (split (ll T Wk limit)) s first part (E' s) hp0
     rw[HSL.out] at hstep
     have HST:=aa.mk hstep
     clear hstep HSL
     obtain⟨nx,hnx⟩:∃x,(part-1)&&&s=x:=⟨_,rfl⟩
     rw[hnx] at hand2 hnext qE HST
     have HNX:=aa.mk hnx
     clear hnx
     by_cases Ws:part&&&first=0
     .have ahi:(((part&&&first:Nat):Int)==0)=true:=by simp[Ws]
      have hss:jg (ll T Wk limit) (split (ll T Wk limit)) s first part (E' s)=E' s:=by
       unfold jg
       rw[if_pos (.inl Ws)]
      rw[hss] at HST
      have HPF:=aa.mk Ws
      clear hss Ws
      go_wp2_with fail
      go_quiet (fail)
      go_wp2_with fail
      exact⟨⟨nx,E',rfl,by omega,qE,⟨HD.out.drewN nq⟩,⟨I4.out.drewN HD.out.nt.1 nq⟩,HE,HE2,⟨KW.out.drewN nq⟩,⟨HST.out.symm⟩⟩,by simp[intOf];omega⟩
     .have ahi:(((part&&&first:Nat):Int)==0)=false:=by simp[Ws]
      by_cases hbad:limit<jA T Wk part
      .have Rs:decide (limit<jA T Wk part)=true:=by simp[hbad]
       have hss:jg (ll T Wk limit) (split (ll T Wk limit)) s first part (E' s)=E' s:=by
        unfold jg
        rw[if_pos (.inr Rs)]
       rw[hss] at HST
       clear hss hbad Ws
       go_wp2_with fail
       refine dB (n:=11) (S:=λw'=>w'.cell? ⟨b2,0,none⟩=some (.pointer (some ⟨ga,0,none⟩))/\w'.cell? ⟨b3,0,none⟩=some (.int .i64 limit)) (ds:=[]) #[O,O,O,O,O,O,O,O,O,O,O] (by kernel_rfl) rfl rfl ⟨hc2,hc3⟩ (λhHeld=>?_);refine bu dv.TS dv.M7 (λak bN=>?_)
       have Aj:=aa.mk HD.out.drew
       have Sy:=aa.mk (I4.out.drew HD.out.nt.1)
       have CZ:=aa.mk KW.out.drew
       clear HD I4 KW hc1 hc2 hc3 hc4 hgt
       generalize wr.drew=wd at Aj Sy CZ hHeld ⊢
       refine aZ 0 34 #[I,O,O,O,O,O,O,O,O,O,O] ak (h:=?_)
       refine aZ 1 35 #[I,I,O,O,O,O,O,O,O,O,O] ak (h:=?_)
       refine aZ 2 36 #[I,I,I,O,O,O,O,O,O,O,O] ak (h:=?_)
       refine aZ 3 37 #[I,I,I,I,O,O,O,O,O,O,O] ak (h:=?_)
       refine aZ 4 38 #[I,I,I,I,I,O,O,O,O,O,O] ak (h:=?_)
       refine dG 5 39 #[I,I,I,I,I,I,O,O,O,O,O] ak bN hHeld (hy:=by(rintro w' ⟨s0,s1⟩;go_simp;with_reducible rfl)) (h:=?_)
       refine aZ 6 40 #[I,I,I,I,I,I,I,O,O,O,O] ak (h:=?_)
       refine dG 8 42 #[I,I,I,I,I,I,I,O,I,O,O] ak bN hHeld (hy:=by(rintro w' ⟨s0,s1⟩;go_simp;with_reducible rfl)) (h:=?_)
       refine dO (i:=7) (N:=some 41) #[I,I,I,I,I,I,I,I,I,O,O] rfl rfl (aI ak.out (by kernel_rfl)) (by decide) (λK hK=>?_)
       refine bW Tryz.func68 (by kernel_rfl) rfl #[.pointer (some ⟨ga,0,none⟩),.int .i64 (part:Int)] (by rfl) rfl rfl (by(try simp only[List.map_toArray,List.map_cons,List.map_nil]);rfl) ?_
       refine(jq HT.out HW.out part MB hpl Aj.out.eZ).mono ?_
       rintro e_ w_ ⟨rfl,OY,CW⟩
       refine⟨_,rfl,hK.out _ _ ⟨(Aj.out.keep (Nat.le_refl _) (CW.mono (Nat.le_refl _) (λb _ h=> .inl h)) OY.eZ).cells.2.1,(Aj.out.keep (Nat.le_refl _) (CW.mono (Nat.le_refl _) (λb _ h=> .inl h)) OY.eZ).cells.2.2.1⟩ (λhHeld=>?_)⟩
       clear hK K
       have HDe:=aa.mk (Aj.out.keep (Nat.le_refl _) (CW.mono (Nat.le_refl _) (λb _ h=> .inl h)) OY.eZ)
       have HTe:=aa.mk (Sy.out.keep CW (Nat.le_refl _) (λ_ h=>h) Aj.out.nt.1)
       have P5:=aa.mk (CZ.out.trans (CW.mono CZ.out.size (λb _ h=> .inl h)))
       clear OY CW Aj Sy CZ
       refine iY ?_
       refine aZ 9 43 #[I,I,I,I,I,I,I,I,I,I,O] ak (h:=?_)
       refine aZ 10 44 #[I,I,I,I,I,I,I,I,I,I,I] ak (h:=?_)
       refine dK (bG ak.out (by kernel_rfl)) ?_
       go_wp2_with fail
       exact⟨⟨nx,E',rfl,by omega,qE,HDe,HTe,HE,HE2,P5,⟨HST.out.symm⟩⟩,by simp[intOf];omega⟩
      .have Rs:decide (limit<jA T Wk part)=false:=by simpa using hbad
       have HBD:=aa.mk (show ¬(part&&&first=0\/ll T Wk limit part=true) by
        rintro(h|h)
        .exact Ws h
        .unfold ll at h
         rw[Rs] at h
         cases h)
       clear hbad Ws
       go_wp2_with fail
       refine dB (n:=11) (S:=λw'=>w'.cell? ⟨b2,0,none⟩=some (.pointer (some ⟨ga,0,none⟩))/\w'.cell? ⟨b3,0,none⟩=some (.int .i64 limit)) (ds:=[]) #[O,O,O,O,O,O,O,O,O,O,O] (by kernel_rfl) rfl rfl ⟨hc2,hc3⟩ (λhHeld=>?_);refine bu dv.TS dv.M7 (λak bN=>?_)
       have Aj:=aa.mk HD.out.drew
       have Sy:=aa.mk (I4.out.drew HD.out.nt.1)
       have CZ:=aa.mk KW.out.drew
       clear HD I4 KW hc1 hc2 hc3 hc4 hgt
       generalize wr.drew=wd at Aj Sy CZ hHeld ⊢
       refine aZ 0 34 #[I,O,O,O,O,O,O,O,O,O,O] ak (h:=?_)
       refine aZ 1 35 #[I,I,O,O,O,O,O,O,O,O,O] ak (h:=?_)
       refine aZ 2 36 #[I,I,I,O,O,O,O,O,O,O,O] ak (h:=?_)
       refine aZ 3 37 #[I,I,I,I,O,O,O,O,O,O,O] ak (h:=?_)
       refine aZ 4 38 #[I,I,I,I,I,O,O,O,O,O,O] ak (h:=?_)
       refine dG 5 39 #[I,I,I,I,I,I,O,O,O,O,O] ak bN hHeld (hy:=by(rintro w' ⟨s0,s1⟩;go_simp;with_reducible rfl)) (h:=?_)
       refine aZ 6 40 #[I,I,I,I,I,I,I,O,O,O,O] ak (h:=?_)
       refine dG 8 42 #[I,I,I,I,I,I,I,O,I,O,O] ak bN hHeld (hy:=by(rintro w' ⟨s0,s1⟩;go_simp;with_reducible rfl)) (h:=?_)
       refine dO (i:=7) (N:=some 41) #[I,I,I,I,I,I,I,I,I,O,O] rfl rfl (aI ak.out (by kernel_rfl)) (by decide) (λK hK=>?_)
       refine bW Tryz.func68 (by kernel_rfl) rfl #[.pointer (some ⟨ga,0,none⟩),.int .i64 (part:Int)] (by rfl) rfl rfl (by(try simp only[List.map_toArray,List.map_cons,List.map_nil]);rfl) ?_
       refine(jq HT.out HW.out part MB hpl Aj.out.eZ).mono ?_
       rintro e_ w_ ⟨rfl,OY,CW⟩
       refine⟨_,rfl,hK.out _ _ ⟨(Aj.out.keep (Nat.le_refl _) (CW.mono (Nat.le_refl _) (λb _ h=> .inl h)) OY.eZ).cells.2.1,(Aj.out.keep (Nat.le_refl _) (CW.mono (Nat.le_refl _) (λb _ h=> .inl h)) OY.eZ).cells.2.2.1⟩ (λhHeld=>?_)⟩
       clear hK K
       have HDe:=aa.mk (Aj.out.keep (Nat.le_refl _) (CW.mono (Nat.le_refl _) (λb _ h=> .inl h)) OY.eZ)
       have HTe:=aa.mk (Sy.out.keep CW (Nat.le_refl _) (λ_ h=>h) Aj.out.nt.1)
       have P5:=aa.mk (CZ.out.trans (CW.mono CZ.out.size (λb _ h=> .inl h)))
       clear OY CW Aj Sy CZ
       refine iY ?_
       refine aZ 9 43 #[I,I,I,I,I,I,I,I,I,I,O] ak (h:=?_)
       refine aZ 10 44 #[I,I,I,I,I,I,I,I,I,I,I] ak (h:=?_)
       refine dK (bG ak.out (by kernel_rfl)) ?_
       obtain⟨hc1,hc2,hc3,hc4⟩:=HDe.out.cells
       go_wp2_with fail
       refine(IH.out (s-part) (by omega) (by omega) w_ E' HDe.out HTe.out (λt ht=>HE.out t (by omega))).mono ?_
       rintro e w5 ⟨v5,E5,rfl,UU,hD5,hT5,hE5,UZ,tL⟩
       have UY:E5 s=E' s:=UZ s (by omega)
       have Z4:aa (∀t,t<s->E5 t=none\/E5 t=split (ll T Wk limit) t):=⟨λt ht=>by
        rcases Nat.lt_or_ge (s-part) t with h|h
        .rw[UZ t h]
         exact HE.out t ht
        .exact hE5 t h⟩
       have Lu:aa (∀t,s<t->E5 t=E t):=⟨λt ht=>by rw[UZ t (by omega)];exact HE2.out t ht⟩
       have HD5:=aa.mk hD5
       have I5:=aa.mk hT5
       have PG:=aa.mk (P5.out.trans (tL.mono P5.out.size (λ_ _ h=>h)))
       obtain⟨og,hog⟩:∃o,split (ll T Wk limit) (s-part)=o:=⟨_,rfl⟩
       rw[hog] at UU
       have hsl:=NU (ll T Wk limit) (s-part) (s-part) (Nat.le_refl _)
       rw[hog] at hsl
       have hst:jg (ll T Wk limit) (split (ll T Wk limit)) s first part (E' s)=if s≠part/\og=none then E' s else match E' s with|none=>some (og.getD 0+1)|some n=>if og.getD 0+1<n then some (og.getD 0+1) else some n:=by
        unfold jg
        rw[if_neg HBD.out,hog]
        by_cases h:s≠part/\og=none
        .rw[if_pos h,if_pos h]
        .rw[if_neg h,if_neg h]
         cases E' s<;>rfl
       rw[hst] at HST
       have HOG:=aa.mk hog
       clear hst hog hD5 hT5 hE5 UZ tL HDe HTe P5 hc1 hc2 hc3 hc4 HE HE2
       obtain⟨hc1,hc2,hc3,hc4⟩:=HD5.out.cells
       obtain⟨vb,hvb,UX⟩:=I5.out.cell hs
       rw[UY] at UX
       have Ri:=I5.out.lt
       by_cases hse:s=part
       .have abw:((s:Int)==(part:Int))=true:=by simp[hse]
        have ahd:((s:Int) !=(part:Int))=false:=by simp[hse]
        have hon:og=none:=by
         have:=HOG.out
         rw[hse,Nat.sub_self,vY] at this
         exact this.symm
        subst hon
        obtain rfl:v5= .slice none 0 0:=UU
        rw[if_neg (λh=>h.1 hse)] at HST
        simp only[Option.getD_none] at HST
        have C9:=aa.mk (show CL w5 (.slice none 0 0) [] from .inl ⟨rfl,rfl⟩)
        clear hse
        cases UW:E' s with
        |none=>
         rw[UW] at UX HST
         obtain rfl:vb= .slice none 0 0:=UX
         go_wp2_with fail
         refine dB (n:=9) (S:=λw'=>w'.cell? ⟨b1,0,none⟩=some (.slice (some ⟨gt,0,none⟩) (2^Wk.length) (2^Wk.length))) (ds:=[8]) #[O,O,O,O,O,O,O,O,O] (by kernel_rfl) rfl rfl hc1 (λhHeld=>?_);refine bu dv.vE dv.qH (λak bN=>?_)
         have HD6:=aa.mk HD5.out.drew
         have Li:=aa.mk (I5.out.drew HD5.out.nt.1)
         have Lg:=aa.mk PG.out.drew
         have wO:=aa.mk (show CL w5.drew (.slice none 0 0) [] from C9.out)
         clear HD5 I5 PG C9 hc1 hc2 hc3 hc4 Ri hvb
         generalize w5.drew=wd at HD6 Li Lg wO hHeld ⊢
         have hmt:=HD6.out.nt.1
         have hmd:=HD6.out.eZ.eZ.memo.lt
         have hgd:=Li.out.lt
         have hbd:=HD6.out.c1.lt
         refine dG 0 73 #[I,O,O,O,O,O,O,O,O] ak bN hHeld (hy:=by(rintro w' s0;go_simp;with_reducible rfl)) (h:=?_)
         refine aZ 1 74 #[I,I,O,O,O,O,O,O,O] ak (h:=?_)
         refine aZ 2 75 #[I,I,I,O,O,O,O,O,O] ak (h:=?_)
         refine aZ 4 77 #[I,I,I,O,I,O,O,O,O] ak (h:=?_)
         refine iI (σ:=Value×Nat) 3 #[I,I,I,I,I,I,O,O,O] (λx=>[(76,x.1),(78,.slice (some ⟨x.2,0,none⟩) 1 1)]) (λx w'=>(Kd.int .i64).R 160 w' wd.heap.size (λk=>wd.heap.size<=k/\k≠x.2) x.1 []/\wd.heap.size<=x.2/\x.2<w'.heap.size/\w'.cell? ⟨x.2,0,none⟩=some (.int .i64 (part:Int))/\Below wd.heap.size wd w') ?cont ?orders
         case orders=>
          intro hcont
          refine qO (i:=3) (j:=5) (Ni:=some 76) (Nj:=some 78) #[I,I,I,I,I,O,O,O,O] #[I,I,I,O,I,I,O,O,O] rfl rfl rfl rfl (jG ak.out (by kernel_rfl)) (by decide) (by decide) (λK hK=>?_) (λK hK=>?_)
          .refine bW Tryz.func112 (by kernel_rfl) rfl #[(.slice none 0 0)] (by rfl) rfl rfl (by(try simp only[List.map_toArray,List.map_cons,List.map_nil]);rfl) ?_
           refine(lT wO.out).mono ?_
           rintro e_ wc ⟨v6,rfl,wK,mW⟩
           refine⟨_,rfl,hK.out _ _ ((mW.cell (p:=⟨b1,0,none⟩) hbd).trans hHeld) (λiW=>?_)⟩
           clear hK K
           have BB:=mW.size
           refine iY ?_
           refine dO (i:=5) (N:=some 78) #[I,I,I,I,I,I,O,O,O] rfl rfl (aI ak.out (by kernel_rfl)) (by decide) (λK hK=>?_)
           refine bT (w1:=?_) (v:=?_) (by rfl) rfl ?_ ?_
           rotate_left 2
           .go_simp
            constructor<;>rfl
           refine hK.out _ _ ((Below.cell (ae (Below.refl _ _) _) (p:=⟨b1,0,none⟩) (by simp only;omega)).trans iW) (λ_=>?_)
           clear hK K
           have hfin:=hcont (v6,wc.heap.size) (wc.alloc (.cells #[.int .i64 (part:Int)] 160)) ⟨Kd.bK (Kd.bB (Kd.bE wK) (λk hk=>⟨hk.2.1,by simp only;have:=hk.2.2.1;omega⟩)) _,BB,by simp,by simpa using (aR.new wc [.int .i64 (part:Int)] 160).cell 0,ae mW _⟩
           refine bH ?_ hfin
           simp only[bz,Act.put,sb0,sb1,dD]
          .refine bT (w1:=?_) (v:=?_) (by rfl) rfl ?_ ?_
           rotate_left 2
           .go_simp
            constructor<;>rfl
           refine hK.out _ _ ((Below.cell (ae (Below.refl _ _) _) (p:=⟨b1,0,none⟩) hbd).trans hHeld) (λiW=>?_)
           clear hK K
           have BL:=aa.mk (aR.new wd [.int .i64 (part:Int)] 160)
           have CG:=aa.mk (wO.out.below (ae (Below.refl _ _) (.cells #[.int .i64 (part:Int)] 160)))
           have hsa:(wd.alloc (.cells #[.int .i64 (part:Int)] 160)).heap.size=wd.heap.size+1:=by simp
           refine iY ?_
           have hBa:=ae (Below.refl wd.heap.size wd) (.cells #[.int .i64 (part:Int)] 160)
           generalize wd.alloc (.cells #[.int .i64 (part:Int)] 160)=wa at BL CG hsa hBa iW ⊢
           refine dO (i:=3) (N:=some 76) #[I,I,I,I,I,I,O,O,O] rfl rfl (aI ak.out (by kernel_rfl)) (by decide) (λK hK=>?_)
           refine bW Tryz.func112 (by kernel_rfl) rfl #[(.slice none 0 0)] (by rfl) rfl rfl (by(try simp only[List.map_toArray,List.map_cons,List.map_nil]);rfl) ?_
           refine(lT CG.out).mono ?_
           rintro e_ wc ⟨v6,rfl,wK,mW⟩
           refine⟨_,rfl,hK.out _ _ ((mW.cell (p:=⟨b1,0,none⟩) (by simp only;omega)).trans iW) (λ_=>?_)⟩
           clear hK K
           have BB:=mW.size
           have hfin:=hcont (v6,wd.heap.size) wc ⟨Kd.bB (Kd.ed (Kd.bE wK) (by omega)) (λk hk=>⟨by have:=hk.2.1;omega,by simp only;have:=hk.2.1;omega⟩),Nat.le_refl _,by simp only;omega,by simpa using (BL.out.below mW).cell 0,hBa.trans (mW.mono (by omega))⟩
           refine bH ?_ hfin
           simp only[bz,Act.put,sb0,sb1,dD]
         case cont=>
          rintro⟨v6,gl⟩ w6 ⟨wK,yX,uh,ry,mW⟩
          simp only at wK yX uh ry
          refine bH (by simp only[bz,Act.put,sb0,sb1,dD];rfl) ?_
          refine dO (i:=6) (N:=some 79) #[I,I,I,I,I,I,I,O,O] rfl rfl (aI ak.out (by kernel_rfl)) (by decide) (λK hK=>?_)
          refine Kd.bO (Kd.int .i64) (w0:=wd) wd.heap.size (by rfl) (.tmp 76) (.tmp 78) 166 160 (.int .i64 0) 8 rfl Tryz.underlying166 xB rfl (by decide) (by omega) v6 [] [(part:Int)] (some ⟨gl,0,none⟩) 1 1 (λk=>wd.heap.size<=k/\k≠gl) (λ_=>False) rfl rfl wK (kN ry) (λx cs h=>h) (λ_ hk=>hk.elim) (λk hk=>⟨by have:=mW.size;omega,by omega⟩) mW mW.size (by first|omega|(simp only[List.length_nil];omega)) ?_
          intro v7 w7 yZ sW OU BZ
          obtain⟨FU,c7,rfl⟩:=Kd.mG yZ (by simp)
          have hlen:([]++[(part:Int)]).length=0+1:=by simp
          have Lt:=aa.mk (PO.ofR (no:=Wr mb gt) yZ (by simp) (λk hk hno=>by rcases hno with e|e<;>omega))
          rw[hlen] at yZ Lt ⊢
          have K7:bq wd.heap.size (Wr mb gt) wd w7:=bq.of_below sW (Nat.le_refl _)
          have HD7:=aa.mk (HD6.out.keep (Nat.le_refl _) K7 (HD6.out.eZ.eZ.keep sW))
          have FY:=aa.mk (Li.out.keep (S:=λb=>b=mb) (bq.of_below sW (Nat.le_refl _)) (Nat.le_refl _) (λ_ h=>h) hmt)
          have Su:=aa.mk (Lg.out.trans (K7.mono Lg.out.size (λ_ _ h=>h)))
          refine hK.out _ _ ((sW.cell (p:=⟨b1,0,none⟩) hbd).trans hHeld) (λ_=>?_)
          clear hK K yZ sW OU BZ K7 wK yX uh ry mW
          refine iY ?_
          refine aZ 7 80 #[I,I,I,I,I,I,I,I,O] ak (h:=?_)
          obtain⟨vo,Q7,_⟩:=FY.out.cell hs
          refine dE (i:=8) (N:=none) #[I,I,I,I,I,I,I,I,I] rfl rfl (aI ak.out (by kernel_rfl)) (by decide) (λK hK=>?_)
          have eY:=Q7
          have ig:=FY.out.frozen s
          refine gW (w1:=?_) (by rfl) rfl ?_ ?_
          rotate_left
          .go_simp
           rfl
          refine hK.out _ _ ?_
          clear hK K eY ig
          have SL:=aa.mk (HD7.out.keep (Nat.le_refl _) ((bq.refl w7.heap.size (Wr mb gt) w7).setCell (p:=⟨gt,s,none⟩) (.inl (.inr rfl)) (.slice (some FU) (0+1) c7)) (HD7.out.eZ.eZ.other (p:=⟨gt,s,none⟩) HD7.out.nt.2 HD7.out.nt.1 (.slice (some FU) (0+1) c7)))
          have Ns:=aa.mk (FY.out.set hs Lt.out)
          have Sr:=aa.mk (Su.out.setCell (p:=⟨gt,s,none⟩) (.inl (.inr rfl)) (.slice (some FU) (0+1) c7))
          refine dK (bG ak.out (by kernel_rfl)) ?_
          clear HD7 FY Su Lt Q7
          generalize w7.setCell ⟨gt,s,none⟩ (.slice (some FU) (0+1) c7)=wz at SL Ns Sr ⊢
          go_wp2_with fail
          exact⟨⟨nx,_,rfl,by omega,qE,SL,Ns,⟨λt ht=>by rw[jF _ _ _ _ (by omega)];exact Z4.out t ht⟩,⟨λt ht=>by rw[jF _ _ _ _ (by omega)];exact Lu.out t ht⟩,Sr,⟨by rw[upd_same];exact HST.out.symm⟩⟩,by simp[intOf];omega⟩
        |some n=>
         rw[UW] at UX HST
         obtain⟨adb,cb,xsb,rfl,hxb,hCb,Yt,ahA⟩:=UX
         clear hCb Yt
         simp only at HST
         by_cases hln:0+1<n
         .have Yu:decide ((0:Int)+1<(n:Int))=true:=by simp;omega
          have abU:decide ((1:Int)<(n:Int))=true:=by simp;omega
          have abT:decide (1<n)=true:=by simp;omega
          rw[if_pos hln] at HST
          clear hln
          go_wp2_with fail
          refine dB (n:=9) (S:=λw'=>w'.cell? ⟨b1,0,none⟩=some (.slice (some ⟨gt,0,none⟩) (2^Wk.length) (2^Wk.length))) (ds:=[8]) #[O,O,O,O,O,O,O,O,O] (by kernel_rfl) rfl rfl hc1 (λhHeld=>?_);refine bu dv.vE dv.qH (λak bN=>?_)
          have HD6:=aa.mk HD5.out.drew
          have Li:=aa.mk (I5.out.drew HD5.out.nt.1)
          have Lg:=aa.mk PG.out.drew
          have wO:=aa.mk (show CL w5.drew (.slice none 0 0) [] from C9.out)
          clear HD5 I5 PG C9 hc1 hc2 hc3 hc4 Ri hvb
          generalize w5.drew=wd at HD6 Li Lg wO hHeld ⊢
          have hmt:=HD6.out.nt.1
          have hmd:=HD6.out.eZ.eZ.memo.lt
          have hgd:=Li.out.lt
          have hbd:=HD6.out.c1.lt
          refine dG 0 73 #[I,O,O,O,O,O,O,O,O] ak bN hHeld (hy:=by(rintro w' s0;go_simp;with_reducible rfl)) (h:=?_)
          refine aZ 1 74 #[I,I,O,O,O,O,O,O,O] ak (h:=?_)
          refine aZ 2 75 #[I,I,I,O,O,O,O,O,O] ak (h:=?_)
          refine aZ 4 77 #[I,I,I,O,I,O,O,O,O] ak (h:=?_)
          refine iI (σ:=Value×Nat) 3 #[I,I,I,I,I,I,O,O,O] (λx=>[(76,x.1),(78,.slice (some ⟨x.2,0,none⟩) 1 1)]) (λx w'=>(Kd.int .i64).R 160 w' wd.heap.size (λk=>wd.heap.size<=k/\k≠x.2) x.1 []/\wd.heap.size<=x.2/\x.2<w'.heap.size/\w'.cell? ⟨x.2,0,none⟩=some (.int .i64 (part:Int))/\Below wd.heap.size wd w') ?cont ?orders
          case orders=>
           intro hcont
           refine qO (i:=3) (j:=5) (Ni:=some 76) (Nj:=some 78) #[I,I,I,I,I,O,O,O,O] #[I,I,I,O,I,I,O,O,O] rfl rfl rfl rfl (jG ak.out (by kernel_rfl)) (by decide) (by decide) (λK hK=>?_) (λK hK=>?_)
           .refine bW Tryz.func112 (by kernel_rfl) rfl #[(.slice none 0 0)] (by rfl) rfl rfl (by(try simp only[List.map_toArray,List.map_cons,List.map_nil]);rfl) ?_
            refine(lT wO.out).mono ?_
            rintro e_ wc ⟨v6,rfl,wK,mW⟩
            refine⟨_,rfl,hK.out _ _ ((mW.cell (p:=⟨b1,0,none⟩) hbd).trans hHeld) (λiW=>?_)⟩
            clear hK K
            have BB:=mW.size
            refine iY ?_
            refine dO (i:=5) (N:=some 78) #[I,I,I,I,I,I,O,O,O] rfl rfl (aI ak.out (by kernel_rfl)) (by decide) (λK hK=>?_)
            refine bT (w1:=?_) (v:=?_) (by rfl) rfl ?_ ?_
            rotate_left 2
            .go_simp
             constructor<;>rfl
            refine hK.out _ _ ((Below.cell (ae (Below.refl _ _) _) (p:=⟨b1,0,none⟩) (by simp only;omega)).trans iW) (λ_=>?_)
            clear hK K
            have hfin:=hcont (v6,wc.heap.size) (wc.alloc (.cells #[.int .i64 (part:Int)] 160)) ⟨Kd.bK (Kd.bB (Kd.bE wK) (λk hk=>⟨hk.2.1,by simp only;have:=hk.2.2.1;omega⟩)) _,BB,by simp,by simpa using (aR.new wc [.int .i64 (part:Int)] 160).cell 0,ae mW _⟩
            refine bH ?_ hfin
            simp only[bz,Act.put,sb0,sb1,dD]
           .refine bT (w1:=?_) (v:=?_) (by rfl) rfl ?_ ?_
            rotate_left 2
            .go_simp
             constructor<;>rfl
            refine hK.out _ _ ((Below.cell (ae (Below.refl _ _) _) (p:=⟨b1,0,none⟩) hbd).trans hHeld) (λiW=>?_)
            clear hK K
            have BL:=aa.mk (aR.new wd [.int .i64 (part:Int)] 160)
            have CG:=aa.mk (wO.out.below (ae (Below.refl _ _) (.cells #[.int .i64 (part:Int)] 160)))
            have hsa:(wd.alloc (.cells #[.int .i64 (part:Int)] 160)).heap.size=wd.heap.size+1:=by simp
            refine iY ?_
            have hBa:=ae (Below.refl wd.heap.size wd) (.cells #[.int .i64 (part:Int)] 160)
            generalize wd.alloc (.cells #[.int .i64 (part:Int)] 160)=wa at BL CG hsa hBa iW ⊢
            refine dO (i:=3) (N:=some 76) #[I,I,I,I,I,I,O,O,O] rfl rfl (aI ak.out (by kernel_rfl)) (by decide) (λK hK=>?_)
            refine bW Tryz.func112 (by kernel_rfl) rfl #[(.slice none 0 0)] (by rfl) rfl rfl (by(try simp only[List.map_toArray,List.map_cons,List.map_nil]);rfl) ?_
            refine(lT CG.out).mono ?_
            rintro e_ wc ⟨v6,rfl,wK,mW⟩
            refine⟨_,rfl,hK.out _ _ ((mW.cell (p:=⟨b1,0,none⟩) (by simp only;omega)).trans iW) (λ_=>?_)⟩
            clear hK K
            have BB:=mW.size
            have hfin:=hcont (v6,wd.heap.size) wc ⟨Kd.bB (Kd.ed (Kd.bE wK) (by omega)) (λk hk=>⟨by have:=hk.2.1;omega,by simp only;have:=hk.2.1;omega⟩),Nat.le_refl _,by simp only;omega,by simpa using (BL.out.below mW).cell 0,hBa.trans (mW.mono (by omega))⟩
            refine bH ?_ hfin
            simp only[bz,Act.put,sb0,sb1,dD]
          case cont=>
           rintro⟨v6,gl⟩ w6 ⟨wK,yX,uh,ry,mW⟩
           simp only at wK yX uh ry
           refine bH (by simp only[bz,Act.put,sb0,sb1,dD];rfl) ?_
           refine dO (i:=6) (N:=some 79) #[I,I,I,I,I,I,I,O,O] rfl rfl (aI ak.out (by kernel_rfl)) (by decide) (λK hK=>?_)
           refine Kd.bO (Kd.int .i64) (w0:=wd) wd.heap.size (by rfl) (.tmp 76) (.tmp 78) 166 160 (.int .i64 0) 8 rfl Tryz.underlying166 xB rfl (by decide) (by omega) v6 [] [(part:Int)] (some ⟨gl,0,none⟩) 1 1 (λk=>wd.heap.size<=k/\k≠gl) (λ_=>False) rfl rfl wK (kN ry) (λx cs h=>h) (λ_ hk=>hk.elim) (λk hk=>⟨by have:=mW.size;omega,by omega⟩) mW mW.size (by first|omega|(simp only[List.length_nil];omega)) ?_
           intro v7 w7 yZ sW OU BZ
           obtain⟨FU,c7,rfl⟩:=Kd.mG yZ (by simp)
           have hlen:([]++[(part:Int)]).length=0+1:=by simp
           have Lt:=aa.mk (PO.ofR (no:=Wr mb gt) yZ (by simp) (λk hk hno=>by rcases hno with e|e<;>omega))
           rw[hlen] at yZ Lt ⊢
           have K7:bq wd.heap.size (Wr mb gt) wd w7:=bq.of_below sW (Nat.le_refl _)
           have HD7:=aa.mk (HD6.out.keep (Nat.le_refl _) K7 (HD6.out.eZ.eZ.keep sW))
           have FY:=aa.mk (Li.out.keep (S:=λb=>b=mb) (bq.of_below sW (Nat.le_refl _)) (Nat.le_refl _) (λ_ h=>h) hmt)
           have Su:=aa.mk (Lg.out.trans (K7.mono Lg.out.size (λ_ _ h=>h)))
           refine hK.out _ _ ((sW.cell (p:=⟨b1,0,none⟩) hbd).trans hHeld) (λ_=>?_)
           clear hK K yZ sW OU BZ K7 wK yX uh ry mW
           refine iY ?_
           refine aZ 7 80 #[I,I,I,I,I,I,I,I,O] ak (h:=?_)
           obtain⟨vo,Q7,_⟩:=FY.out.cell hs
           refine dE (i:=8) (N:=none) #[I,I,I,I,I,I,I,I,I] rfl rfl (aI ak.out (by kernel_rfl)) (by decide) (λK hK=>?_)
           have eY:=Q7
           have ig:=FY.out.frozen s
           refine gW (w1:=?_) (by rfl) rfl ?_ ?_
           rotate_left
           .go_simp
            rfl
           refine hK.out _ _ ?_
           clear hK K eY ig
           have SL:=aa.mk (HD7.out.keep (Nat.le_refl _) ((bq.refl w7.heap.size (Wr mb gt) w7).setCell (p:=⟨gt,s,none⟩) (.inl (.inr rfl)) (.slice (some FU) (0+1) c7)) (HD7.out.eZ.eZ.other (p:=⟨gt,s,none⟩) HD7.out.nt.2 HD7.out.nt.1 (.slice (some FU) (0+1) c7)))
           have Ns:=aa.mk (FY.out.set hs Lt.out)
           have Sr:=aa.mk (Su.out.setCell (p:=⟨gt,s,none⟩) (.inl (.inr rfl)) (.slice (some FU) (0+1) c7))
           refine dK (bG ak.out (by kernel_rfl)) ?_
           clear HD7 FY Su Lt Q7
           generalize w7.setCell ⟨gt,s,none⟩ (.slice (some FU) (0+1) c7)=wz at SL Ns Sr ⊢
           go_wp2_with fail
           exact⟨⟨nx,_,rfl,by omega,qE,SL,Ns,⟨λt ht=>by rw[jF _ _ _ _ (by omega)];exact Z4.out t ht⟩,⟨λt ht=>by rw[jF _ _ _ _ (by omega)];exact Lu.out t ht⟩,Sr,⟨by rw[upd_same];exact HST.out.symm⟩⟩,by simp[intOf];omega⟩
         .have Yu:decide ((0:Int)+1<(n:Int))=false:=by simp;omega
          have abU:decide ((1:Int)<(n:Int))=false:=by simp;omega
          have abT:decide (1<n)=false:=by simp;omega
          rw[if_neg hln,<- UW,<- UY] at HST
          clear hln
          go_wp2_with fail
          exact⟨⟨nx,E5,rfl,by omega,qE,HD5,I5,Z4,Lu,PG,⟨HST.out.symm⟩⟩,by simp[intOf];omega⟩
       .have abw:((s:Int)==(part:Int))=false:=by
         simp only[beq_eq_false_iff_ne,ne_eq]
         omega
        have ahd:((s:Int) !=(part:Int))=true:=by simp only[bne,abw,Bool.not_false]
        cases og with
        |none=>
         obtain rfl:v5= .slice none 0 0:=UU
         rw[if_pos ⟨hse,rfl⟩] at HST
         rw[<- UY] at HST
         clear hse
         go_wp2_with fail
         exact⟨⟨nx,E5,rfl,by omega,qE,HD5,I5,Z4,Lu,PG,⟨HST.out.symm⟩⟩,by simp[intOf];omega⟩
        |some k5=>
         obtain⟨TB,c5,Tp,rfl,hx5,hC5,abF,aop⟩:=UU
         have I7:=aa.mk hC5
         have adO:=aa.mk abF
         rw[if_neg (λh=>by cases h.2)] at HST
         simp only[Option.getD_some] at HST
         have hk5:=hsl k5 rfl
         clear hC5 abF hse
         cases UW:E' s with
         |none=>
          rw[UW] at UX HST
          obtain rfl:vb= .slice none 0 0:=UX
          have C9:=aa.mk (show CL w5 (.slice (some TB) k5 c5) Tp from .inr ⟨TB,k5,c5,rfl,hx5,I7.out,by omega⟩)
          go_wp2_with fail
          refine dB (n:=9) (S:=λw'=>w'.cell? ⟨b1,0,none⟩=some (.slice (some ⟨gt,0,none⟩) (2^Wk.length) (2^Wk.length))) (ds:=[8]) #[O,O,O,O,O,O,O,O,O] (by kernel_rfl) rfl rfl hc1 (λhHeld=>?_);refine bu dv.vE dv.qH (λak bN=>?_)
          have HD6:=aa.mk HD5.out.drew
          have Li:=aa.mk (I5.out.drew HD5.out.nt.1)
          have Lg:=aa.mk PG.out.drew
          have wO:=aa.mk (show CL w5.drew (.slice (some TB) k5 c5) Tp from C9.out)
          clear HD5 I5 PG C9 hc1 hc2 hc3 hc4 Ri hvb
          generalize w5.drew=wd at HD6 Li Lg wO hHeld ⊢
          have hmt:=HD6.out.nt.1
          have hmd:=HD6.out.eZ.eZ.memo.lt
          have hgd:=Li.out.lt
          have hbd:=HD6.out.c1.lt
          refine dG 0 73 #[I,O,O,O,O,O,O,O,O] ak bN hHeld (hy:=by(rintro w' s0;go_simp;with_reducible rfl)) (h:=?_)
          refine aZ 1 74 #[I,I,O,O,O,O,O,O,O] ak (h:=?_)
          refine aZ 2 75 #[I,I,I,O,O,O,O,O,O] ak (h:=?_)
          refine aZ 4 77 #[I,I,I,O,I,O,O,O,O] ak (h:=?_)
          refine iI (σ:=Value×Nat) 3 #[I,I,I,I,I,I,O,O,O] (λx=>[(76,x.1),(78,.slice (some ⟨x.2,0,none⟩) 1 1)]) (λx w'=>(Kd.int .i64).R 160 w' wd.heap.size (λk=>wd.heap.size<=k/\k≠x.2) x.1 Tp/\wd.heap.size<=x.2/\x.2<w'.heap.size/\w'.cell? ⟨x.2,0,none⟩=some (.int .i64 (part:Int))/\Below wd.heap.size wd w') ?cont ?orders
          case orders=>
           intro hcont
           refine qO (i:=3) (j:=5) (Ni:=some 76) (Nj:=some 78) #[I,I,I,I,I,O,O,O,O] #[I,I,I,O,I,I,O,O,O] rfl rfl rfl rfl (jG ak.out (by kernel_rfl)) (by decide) (by decide) (λK hK=>?_) (λK hK=>?_)
           .refine bW Tryz.func112 (by kernel_rfl) rfl #[(.slice (some TB) k5 c5)] (by rfl) rfl rfl (by(try simp only[List.map_toArray,List.map_cons,List.map_nil]);rfl) ?_
            refine(lT wO.out).mono ?_
            rintro e_ wc ⟨v6,rfl,wK,mW⟩
            refine⟨_,rfl,hK.out _ _ ((mW.cell (p:=⟨b1,0,none⟩) hbd).trans hHeld) (λiW=>?_)⟩
            clear hK K
            have BB:=mW.size
            refine iY ?_
            refine dO (i:=5) (N:=some 78) #[I,I,I,I,I,I,O,O,O] rfl rfl (aI ak.out (by kernel_rfl)) (by decide) (λK hK=>?_)
            refine bT (w1:=?_) (v:=?_) (by rfl) rfl ?_ ?_
            rotate_left 2
            .go_simp
             constructor<;>rfl
            refine hK.out _ _ ((Below.cell (ae (Below.refl _ _) _) (p:=⟨b1,0,none⟩) (by simp only;omega)).trans iW) (λ_=>?_)
            clear hK K
            have hfin:=hcont (v6,wc.heap.size) (wc.alloc (.cells #[.int .i64 (part:Int)] 160)) ⟨Kd.bK (Kd.bB (Kd.bE wK) (λk hk=>⟨hk.2.1,by simp only;have:=hk.2.2.1;omega⟩)) _,BB,by simp,by simpa using (aR.new wc [.int .i64 (part:Int)] 160).cell 0,ae mW _⟩
            refine bH ?_ hfin
            simp only[bz,Act.put,sb0,sb1,dD]
           .refine bT (w1:=?_) (v:=?_) (by rfl) rfl ?_ ?_
            rotate_left 2
            .go_simp
             constructor<;>rfl
            refine hK.out _ _ ((Below.cell (ae (Below.refl _ _) _) (p:=⟨b1,0,none⟩) hbd).trans hHeld) (λiW=>?_)
            clear hK K
            have BL:=aa.mk (aR.new wd [.int .i64 (part:Int)] 160)
            have CG:=aa.mk (wO.out.below (ae (Below.refl _ _) (.cells #[.int .i64 (part:Int)] 160)))
            have hsa:(wd.alloc (.cells #[.int .i64 (part:Int)] 160)).heap.size=wd.heap.size+1:=by simp
            refine iY ?_
            have hBa:=ae (Below.refl wd.heap.size wd) (.cells #[.int .i64 (part:Int)] 160)
            generalize wd.alloc (.cells #[.int .i64 (part:Int)] 160)=wa at BL CG hsa hBa iW ⊢
            refine dO (i:=3) (N:=some 76) #[I,I,I,I,I,I,O,O,O] rfl rfl (aI ak.out (by kernel_rfl)) (by decide) (λK hK=>?_)
            refine bW Tryz.func112 (by kernel_rfl) rfl #[(.slice (some TB) k5 c5)] (by rfl) rfl rfl (by(try simp only[List.map_toArray,List.map_cons,List.map_nil]);rfl) ?_
            refine(lT CG.out).mono ?_
            rintro e_ wc ⟨v6,rfl,wK,mW⟩
            refine⟨_,rfl,hK.out _ _ ((mW.cell (p:=⟨b1,0,none⟩) (by simp only;omega)).trans iW) (λ_=>?_)⟩
            clear hK K
            have BB:=mW.size
            have hfin:=hcont (v6,wd.heap.size) wc ⟨Kd.bB (Kd.ed (Kd.bE wK) (by omega)) (λk hk=>⟨by have:=hk.2.1;omega,by simp only;have:=hk.2.1;omega⟩),Nat.le_refl _,by simp only;omega,by simpa using (BL.out.below mW).cell 0,hBa.trans (mW.mono (by omega))⟩
            refine bH ?_ hfin
            simp only[bz,Act.put,sb0,sb1,dD]
          case cont=>
           rintro⟨v6,gl⟩ w6 ⟨wK,yX,uh,ry,mW⟩
           simp only at wK yX uh ry
           refine bH (by simp only[bz,Act.put,sb0,sb1,dD];rfl) ?_
           refine dO (i:=6) (N:=some 79) #[I,I,I,I,I,I,I,O,O] rfl rfl (aI ak.out (by kernel_rfl)) (by decide) (λK hK=>?_)
           refine Kd.bO (Kd.int .i64) (w0:=wd) wd.heap.size (by rfl) (.tmp 76) (.tmp 78) 166 160 (.int .i64 0) 8 rfl Tryz.underlying166 xB rfl (by decide) (by omega) v6 Tp [(part:Int)] (some ⟨gl,0,none⟩) 1 1 (λk=>wd.heap.size<=k/\k≠gl) (λ_=>False) rfl rfl wK (kN ry) (λx cs h=>h) (λ_ hk=>hk.elim) (λk hk=>⟨by have:=mW.size;omega,by omega⟩) mW mW.size (by first|omega|(simp only[List.length_nil];omega)) ?_
           intro v7 w7 yZ sW OU BZ
           obtain⟨FU,c7,rfl⟩:=Kd.mG yZ (by simp)
           have hlen:(Tp++[(part:Int)]).length=k5+1:=by simp[hx5]
           have Lt:=aa.mk (PO.ofR (no:=Wr mb gt) yZ (by simp) (λk hk hno=>by rcases hno with e|e<;>omega))
           rw[hlen] at yZ Lt ⊢
           have K7:bq wd.heap.size (Wr mb gt) wd w7:=bq.of_below sW (Nat.le_refl _)
           have HD7:=aa.mk (HD6.out.keep (Nat.le_refl _) K7 (HD6.out.eZ.eZ.keep sW))
           have FY:=aa.mk (Li.out.keep (S:=λb=>b=mb) (bq.of_below sW (Nat.le_refl _)) (Nat.le_refl _) (λ_ h=>h) hmt)
           have Su:=aa.mk (Lg.out.trans (K7.mono Lg.out.size (λ_ _ h=>h)))
           refine hK.out _ _ ((sW.cell (p:=⟨b1,0,none⟩) hbd).trans hHeld) (λ_=>?_)
           clear hK K yZ sW OU BZ K7 wK yX uh ry mW
           refine iY ?_
           refine aZ 7 80 #[I,I,I,I,I,I,I,I,O] ak (h:=?_)
           obtain⟨vo,Q7,_⟩:=FY.out.cell hs
           refine dE (i:=8) (N:=none) #[I,I,I,I,I,I,I,I,I] rfl rfl (aI ak.out (by kernel_rfl)) (by decide) (λK hK=>?_)
           have eY:=Q7
           have ig:=FY.out.frozen s
           refine gW (w1:=?_) (by rfl) rfl ?_ ?_
           rotate_left
           .go_simp
            rfl
           refine hK.out _ _ ?_
           clear hK K eY ig
           have SL:=aa.mk (HD7.out.keep (Nat.le_refl _) ((bq.refl w7.heap.size (Wr mb gt) w7).setCell (p:=⟨gt,s,none⟩) (.inl (.inr rfl)) (.slice (some FU) (k5+1) c7)) (HD7.out.eZ.eZ.other (p:=⟨gt,s,none⟩) HD7.out.nt.2 HD7.out.nt.1 (.slice (some FU) (k5+1) c7)))
           have Ns:=aa.mk (FY.out.set hs Lt.out)
           have Sr:=aa.mk (Su.out.setCell (p:=⟨gt,s,none⟩) (.inl (.inr rfl)) (.slice (some FU) (k5+1) c7))
           refine dK (bG ak.out (by kernel_rfl)) ?_
           clear HD7 FY Su Lt Q7
           generalize w7.setCell ⟨gt,s,none⟩ (.slice (some FU) (k5+1) c7)=wz at SL Ns Sr ⊢
           go_wp2_with fail
           exact⟨⟨nx,_,rfl,by omega,qE,SL,Ns,⟨λt ht=>by rw[jF _ _ _ _ (by omega)];exact Z4.out t ht⟩,⟨λt ht=>by rw[jF _ _ _ _ (by omega)];exact Lu.out t ht⟩,Sr,⟨by rw[upd_same];exact HST.out.symm⟩⟩,by simp[intOf];omega⟩
         |some n=>
          rw[UW] at UX HST
          obtain⟨adb,cb,xsb,rfl,hxb,hCb,Yt,ahA⟩:=UX
          clear hCb Yt
          simp only at HST
          by_cases hln:k5+1<n
          .have Yu:decide ((k5:Int)+1<(n:Int))=true:=by simp;omega
           rw[if_pos hln] at HST
           have C9:=aa.mk (show CL w5 (.slice (some TB) k5 c5) Tp from .inr ⟨TB,k5,c5,rfl,hx5,I7.out,by omega⟩)
           go_wp2_with fail
           refine dB (n:=9) (S:=λw'=>w'.cell? ⟨b1,0,none⟩=some (.slice (some ⟨gt,0,none⟩) (2^Wk.length) (2^Wk.length))) (ds:=[8]) #[O,O,O,O,O,O,O,O,O] (by kernel_rfl) rfl rfl hc1 (λhHeld=>?_);refine bu dv.vE dv.qH (λak bN=>?_)
           have HD6:=aa.mk HD5.out.drew
           have Li:=aa.mk (I5.out.drew HD5.out.nt.1)
           have Lg:=aa.mk PG.out.drew
           have wO:=aa.mk (show CL w5.drew (.slice (some TB) k5 c5) Tp from C9.out)
           clear HD5 I5 PG C9 hc1 hc2 hc3 hc4 Ri hvb
           generalize w5.drew=wd at HD6 Li Lg wO hHeld ⊢
           have hmt:=HD6.out.nt.1
           have hmd:=HD6.out.eZ.eZ.memo.lt
           have hgd:=Li.out.lt
           have hbd:=HD6.out.c1.lt
           refine dG 0 73 #[I,O,O,O,O,O,O,O,O] ak bN hHeld (hy:=by(rintro w' s0;go_simp;with_reducible rfl)) (h:=?_)
           refine aZ 1 74 #[I,I,O,O,O,O,O,O,O] ak (h:=?_)
           refine aZ 2 75 #[I,I,I,O,O,O,O,O,O] ak (h:=?_)
           refine aZ 4 77 #[I,I,I,O,I,O,O,O,O] ak (h:=?_)
           refine iI (σ:=Value×Nat) 3 #[I,I,I,I,I,I,O,O,O] (λx=>[(76,x.1),(78,.slice (some ⟨x.2,0,none⟩) 1 1)]) (λx w'=>(Kd.int .i64).R 160 w' wd.heap.size (λk=>wd.heap.size<=k/\k≠x.2) x.1 Tp/\wd.heap.size<=x.2/\x.2<w'.heap.size/\w'.cell? ⟨x.2,0,none⟩=some (.int .i64 (part:Int))/\Below wd.heap.size wd w') ?cont ?orders
           case orders=>
            intro hcont
            refine qO (i:=3) (j:=5) (Ni:=some 76) (Nj:=some 78) #[I,I,I,I,I,O,O,O,O] #[I,I,I,O,I,I,O,O,O] rfl rfl rfl rfl (jG ak.out (by kernel_rfl)) (by decide) (by decide) (λK hK=>?_) (λK hK=>?_)
            .refine bW Tryz.func112 (by kernel_rfl) rfl #[(.slice (some TB) k5 c5)] (by rfl) rfl rfl (by(try simp only[List.map_toArray,List.map_cons,List.map_nil]);rfl) ?_
             refine(lT wO.out).mono ?_
             rintro e_ wc ⟨v6,rfl,wK,mW⟩
             refine⟨_,rfl,hK.out _ _ ((mW.cell (p:=⟨b1,0,none⟩) hbd).trans hHeld) (λiW=>?_)⟩
             clear hK K
             have BB:=mW.size
             refine iY ?_
             refine dO (i:=5) (N:=some 78) #[I,I,I,I,I,I,O,O,O] rfl rfl (aI ak.out (by kernel_rfl)) (by decide) (λK hK=>?_)
             refine bT (w1:=?_) (v:=?_) (by rfl) rfl ?_ ?_
             rotate_left 2
             .go_simp
              constructor<;>rfl
             refine hK.out _ _ ((Below.cell (ae (Below.refl _ _) _) (p:=⟨b1,0,none⟩) (by simp only;omega)).trans iW) (λ_=>?_)
             clear hK K
             have hfin:=hcont (v6,wc.heap.size) (wc.alloc (.cells #[.int .i64 (part:Int)] 160)) ⟨Kd.bK (Kd.bB (Kd.bE wK) (λk hk=>⟨hk.2.1,by simp only;have:=hk.2.2.1;omega⟩)) _,BB,by simp,by simpa using (aR.new wc [.int .i64 (part:Int)] 160).cell 0,ae mW _⟩
             refine bH ?_ hfin
             simp only[bz,Act.put,sb0,sb1,dD]
            .refine bT (w1:=?_) (v:=?_) (by rfl) rfl ?_ ?_
             rotate_left 2
             .go_simp
              constructor<;>rfl
             refine hK.out _ _ ((Below.cell (ae (Below.refl _ _) _) (p:=⟨b1,0,none⟩) hbd).trans hHeld) (λiW=>?_)
             clear hK K
             have BL:=aa.mk (aR.new wd [.int .i64 (part:Int)] 160)
             have CG:=aa.mk (wO.out.below (ae (Below.refl _ _) (.cells #[.int .i64 (part:Int)] 160)))
             have hsa:(wd.alloc (.cells #[.int .i64 (part:Int)] 160)).heap.size=wd.heap.size+1:=by simp
             refine iY ?_
             have hBa:=ae (Below.refl wd.heap.size wd) (.cells #[.int .i64 (part:Int)] 160)
             generalize wd.alloc (.cells #[.int .i64 (part:Int)] 160)=wa at BL CG hsa hBa iW ⊢
             refine dO (i:=3) (N:=some 76) #[I,I,I,I,I,I,O,O,O] rfl rfl (aI ak.out (by kernel_rfl)) (by decide) (λK hK=>?_)
             refine bW Tryz.func112 (by kernel_rfl) rfl #[(.slice (some TB) k5 c5)] (by rfl) rfl rfl (by(try simp only[List.map_toArray,List.map_cons,List.map_nil]);rfl) ?_
             refine(lT CG.out).mono ?_
             rintro e_ wc ⟨v6,rfl,wK,mW⟩
             refine⟨_,rfl,hK.out _ _ ((mW.cell (p:=⟨b1,0,none⟩) (by simp only;omega)).trans iW) (λ_=>?_)⟩
             clear hK K
             have BB:=mW.size
             have hfin:=hcont (v6,wd.heap.size) wc ⟨Kd.bB (Kd.ed (Kd.bE wK) (by omega)) (λk hk=>⟨by have:=hk.2.1;omega,by simp only;have:=hk.2.1;omega⟩),Nat.le_refl _,by simp only;omega,by simpa using (BL.out.below mW).cell 0,hBa.trans (mW.mono (by omega))⟩
             refine bH ?_ hfin
             simp only[bz,Act.put,sb0,sb1,dD]
           case cont=>
            rintro⟨v6,gl⟩ w6 ⟨wK,yX,uh,ry,mW⟩
            simp only at wK yX uh ry
            refine bH (by simp only[bz,Act.put,sb0,sb1,dD];rfl) ?_
            refine dO (i:=6) (N:=some 79) #[I,I,I,I,I,I,I,O,O] rfl rfl (aI ak.out (by kernel_rfl)) (by decide) (λK hK=>?_)
            refine Kd.bO (Kd.int .i64) (w0:=wd) wd.heap.size (by rfl) (.tmp 76) (.tmp 78) 166 160 (.int .i64 0) 8 rfl Tryz.underlying166 xB rfl (by decide) (by omega) v6 Tp [(part:Int)] (some ⟨gl,0,none⟩) 1 1 (λk=>wd.heap.size<=k/\k≠gl) (λ_=>False) rfl rfl wK (kN ry) (λx cs h=>h) (λ_ hk=>hk.elim) (λk hk=>⟨by have:=mW.size;omega,by omega⟩) mW mW.size (by first|omega|(simp only[List.length_nil];omega)) ?_
            intro v7 w7 yZ sW OU BZ
            obtain⟨FU,c7,rfl⟩:=Kd.mG yZ (by simp)
            have hlen:(Tp++[(part:Int)]).length=k5+1:=by simp[hx5]
            have Lt:=aa.mk (PO.ofR (no:=Wr mb gt) yZ (by simp) (λk hk hno=>by rcases hno with e|e<;>omega))
            rw[hlen] at yZ Lt ⊢
            have K7:bq wd.heap.size (Wr mb gt) wd w7:=bq.of_below sW (Nat.le_refl _)
            have HD7:=aa.mk (HD6.out.keep (Nat.le_refl _) K7 (HD6.out.eZ.eZ.keep sW))
            have FY:=aa.mk (Li.out.keep (S:=λb=>b=mb) (bq.of_below sW (Nat.le_refl _)) (Nat.le_refl _) (λ_ h=>h) hmt)
            have Su:=aa.mk (Lg.out.trans (K7.mono Lg.out.size (λ_ _ h=>h)))
            refine hK.out _ _ ((sW.cell (p:=⟨b1,0,none⟩) hbd).trans hHeld) (λ_=>?_)
            clear hK K yZ sW OU BZ K7 wK yX uh ry mW
            refine iY ?_
            refine aZ 7 80 #[I,I,I,I,I,I,I,I,O] ak (h:=?_)
            obtain⟨vo,Q7,_⟩:=FY.out.cell hs
            refine dE (i:=8) (N:=none) #[I,I,I,I,I,I,I,I,I] rfl rfl (aI ak.out (by kernel_rfl)) (by decide) (λK hK=>?_)
            have eY:=Q7
            have ig:=FY.out.frozen s
            refine gW (w1:=?_) (by rfl) rfl ?_ ?_
            rotate_left
            .go_simp
             rfl
            refine hK.out _ _ ?_
            clear hK K eY ig
            have SL:=aa.mk (HD7.out.keep (Nat.le_refl _) ((bq.refl w7.heap.size (Wr mb gt) w7).setCell (p:=⟨gt,s,none⟩) (.inl (.inr rfl)) (.slice (some FU) (k5+1) c7)) (HD7.out.eZ.eZ.other (p:=⟨gt,s,none⟩) HD7.out.nt.2 HD7.out.nt.1 (.slice (some FU) (k5+1) c7)))
            have Ns:=aa.mk (FY.out.set hs Lt.out)
            have Sr:=aa.mk (Su.out.setCell (p:=⟨gt,s,none⟩) (.inl (.inr rfl)) (.slice (some FU) (k5+1) c7))
            refine dK (bG ak.out (by kernel_rfl)) ?_
            clear HD7 FY Su Lt Q7
            generalize w7.setCell ⟨gt,s,none⟩ (.slice (some FU) (k5+1) c7)=wz at SL Ns Sr ⊢
            go_wp2_with fail
            exact⟨⟨nx,_,rfl,by omega,qE,SL,Ns,⟨λt ht=>by rw[jF _ _ _ _ (by omega)];exact Z4.out t ht⟩,⟨λt ht=>by rw[jF _ _ _ _ (by omega)];exact Lu.out t ht⟩,Sr,⟨by rw[upd_same];exact HST.out.symm⟩⟩,by simp[intOf];omega⟩
          .have Yu:decide ((k5:Int)+1<(n:Int))=false:=by simp;omega
           rw[if_neg hln,<- UW,<- UY] at HST
           clear hln
           go_wp2_with fail
           exact⟨⟨nx,E5,rfl,by omega,qE,HD5,I5,Z4,Lu,PG,⟨HST.out.symm⟩⟩,by simp[intOf];omega⟩
end Go.Proofs.YtkjoilgpmngndaaGreat.Wk
