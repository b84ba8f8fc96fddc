import Derived.Test.YtkjoilgpmngndaaGreatQ38
set_option linter.all false
namespace Go.Proofs.YtkjoilgpmngndaaGreat.Wk
open Go.RowKit Go.Shelf au YtkjoilgpmngndaaGreatW.aj YtkjoilgpmngndaaGreatW.aJ YtkjoilgpmngndaaGreatW.ek
def lj.T14:Bool×List (List Nat×List Nat):=(true,[([],[]),([0],[0]),([1],[1]),([],[]),([3,2],[3]),([],[]),([],[]),([5,2,4,0,1,2,5,6],[2,5]),([6,4,7,0,1,2,3,4,5,6,7],[4,6])])
def lj.LW:List Nat:=[0,1,3,0,15,0,0,127,255]
theorem lj.V5:dW .any (opsOf Tryz.f4 14)=lj.T14:=by kernel_rfl
theorem lj.RQ:bJ lj.T14.2 lj.LW=true:=by kernel_rfl
theorem kD{A0:Option Addr}{c0:Nat}(l0:List vC){A1:Option Addr}{c1:Nat}(l1:List pO)(w:World)(hr0:Hw.C w A0 l0.length l0)(hc0:l0.length<=c0)(hr1:Dv.C w A1 l1.length l1)(hc1:l1.length<=c1)(h0:l0.length<=1000)(h1:l1.length<=1000){W:List dP}{R:List aV}(hW:l0.map U4=W)(hR:l1.map sJ=R):
  Calls Tryz.prog 21 #[.agg #[.slice A0 l0.length c0,.slice A1 l1.length c1]] w λe w'=>(∃v0 v1,e= .returned (.agg #[v0,v1])/\CV.R 88 w' w.heap.size (λ_=>True) v0 W/\tF.R 141 w' w.heap.size (λ_=>True) v1 R)/\Below w.heap.size w w':=by
 subst hW
 subst hR
 refine(aH.calls _ A0 c0 l0 A1 c1 l1 _ _ w hr0 hc0 hr1 hc1 (map_some l0 l1 (by omega) (by omega))).mono ?_
 rintro e w' ⟨v0,v1,rfl,hR0,xM,hb⟩
 exact⟨⟨v0,v1,rfl,Kd.bB hR0 (λ_ _=>trivial),Kd.bB xM (λ_ _=>trivial)⟩,hb⟩
structure lq(wd:World)(W_:List dP)(R R2:List aV)(va vb vc ve:Value)(g h:Nat)(c1 c2 p q:Bool)(W:World):Prop where
 b:Below wd.heap.size wd W
 f1:c1=true->CV.R 88 W wd.heap.size (λk=>(p=true->k≠g)/\(q=true->k≠h)) va W_/\tF.R 141 W wd.heap.size (λk=>(p=true->k≠g)/\(q=true->k≠h)) vb R
 f2:c2=true->CV.R 88 W wd.heap.size (λk=>(p=true->k≠g)/\(q=true->k≠h)) vc W_/\tF.R 141 W wd.heap.size (λk=>(p=true->k≠g)/\(q=true->k≠h)) ve R2
 f3:p=true->aR W g [.slice none 0 0,.slice none 0 0] 78/\wd.heap.size<=g
 f4:q=true->aR W h [.slice none 0 0,.slice none 0 0] 78/\wd.heap.size<=h
 f5:p=true->q=true->g≠h
section
variable {wd:World} {W_:List dP} {R R2:List aV} {va vb vc ve:Value} {g h:Nat} {b1 b2 p q:Bool} {W W':World}
theorem lq.start(wd:World)(W_:List dP)(R R2:List aV)(va vb vc ve:Value)(g h:Nat):lq wd W_ R R2 va vb vc ve g h false false false false wd:=
 ⟨Below.refl _ _,nofun,nofun,nofun,nofun,nofun⟩
theorem lq.later(H:lq wd W_ R R2 va vb vc ve g h b1 b2 p q W)(hb:Below W.heap.size W W'):lq wd W_ R R2 va vb vc ve g h b1 b2 p q W':=
 ⟨H.b.trans (hb.mono H.b.size),λe=>⟨Kd.bV (H.f1 e).1 hb,Kd.bV (H.f1 e).2 hb⟩,λe=>⟨Kd.bV (H.f2 e).1 hb,Kd.bV (H.f2 e).2 hb⟩,λe=>⟨(H.f3 e).1.below hb,(H.f3 e).2⟩,λe=>⟨(H.f4 e).1.below hb,(H.f4 e).2⟩,H.f5⟩
theorem lq.fresh(H:lq wd W_ R R2 va vb vc ve g h b1 b2 p q W){α:Type}{d:Kd α}{e:Nat}{v:Value}{xs:List α}(hr:d.R e W' W.heap.size (λ_=>True) v xs):d.R e W' wd.heap.size (λk=>(p=true->k≠g)/\(q=true->k≠h)) v xs:=
 Kd.bB (Kd.ed (Kd.bE hr) H.b.size) (λk hk=>⟨λe1 e2=>by have:=(H.f3 e1).1.lt;have:=hk.2.1;omega,λe1 e2=>by have:=(H.f4 e1).1.lt;have:=hk.2.1;omega⟩)
theorem lq.c1{VX VW:Value}(H:lq wd W_ R R2 va vb vc ve g h false b2 p q W)(hb:Below W.heap.size W W')(h0:CV.R 88 W' W.heap.size (λ_=>True) VX W_)(h1:tF.R 141 W' W.heap.size (λ_=>True) VW R):lq wd W_ R R2 VX VW vc ve g h true b2 p q W':=
 have H':=H.later hb
 ⟨H'.b,λ_=>⟨H.fresh h0,H.fresh h1⟩,H'.f2,H'.f3,H'.f4,H'.f5⟩
theorem lq.c2{VX VW:Value}(H:lq wd W_ R R2 va vb vc ve g h b1 false p q W)(hb:Below W.heap.size W W')(h0:CV.R 88 W' W.heap.size (λ_=>True) VX W_)(h1:tF.R 141 W' W.heap.size (λ_=>True) VW R2):lq wd W_ R R2 va vb VX VW g h b1 true p q W':=
 have H':=H.later hb
 ⟨H'.b,H'.f1,λ_=>⟨H.fresh h0,H.fresh h1⟩,H'.f3,H'.f4,H'.f5⟩
theorem lq.a4(H:lq wd W_ R R2 va vb vc ve g h b1 b2 false q W):lq wd W_ R R2 va vb vc ve W.heap.size h b1 b2 true q (W.alloc (.cells #[.slice none 0 0,.slice none 0 0] 78)):=
 have H':=H.later (ae (Below.refl _ _) (.cells #[.slice none 0 0,.slice none 0 0] 78))
 have up:∀{α:Type} {d:Kd α} {e:Nat} {v:Value} {xs:List α},d.R e W wd.heap.size (λk=>(false=true->k≠g)/\(q=true->k≠h)) v xs->d.R e (W.alloc (.cells #[.slice none 0 0,.slice none 0 0] 78)) wd.heap.size (λk=>(true=true->k≠W.heap.size)/\(q=true->k≠h)) v xs:=
  λhr=>Kd.bK (Kd.bB (Kd.bE hr) (λk hk=>⟨λ_=>by have:=hk.2.2.1;omega,hk.1.2⟩)) (.cells #[.slice none 0 0,.slice none 0 0] 78)
 ⟨H'.b,λe=>⟨up (H.f1 e).1,up (H.f1 e).2⟩,λe=>⟨up (H.f2 e).1,up (H.f2 e).2⟩,λ_=>⟨aR.new W _ _,H.b.size⟩,H'.f4,λ_ e=>by have:=(H.f4 e).1.lt;omega⟩
theorem lq.a5(H:lq wd W_ R R2 va vb vc ve g h b1 b2 p false W):lq wd W_ R R2 va vb vc ve g W.heap.size b1 b2 p true (W.alloc (.cells #[.slice none 0 0,.slice none 0 0] 78)):=
 have H':=H.later (ae (Below.refl _ _) (.cells #[.slice none 0 0,.slice none 0 0] 78))
 have up:∀{α:Type} {d:Kd α} {e:Nat} {v:Value} {xs:List α},d.R e W wd.heap.size (λk=>(p=true->k≠g)/\(false=true->k≠h)) v xs->d.R e (W.alloc (.cells #[.slice none 0 0,.slice none 0 0] 78)) wd.heap.size (λk=>(p=true->k≠g)/\(true=true->k≠W.heap.size)) v xs:=
  λhr=>Kd.bK (Kd.bB (Kd.bE hr) (λk hk=>⟨hk.1.1,λ_=>by have:=hk.2.2.1;omega⟩)) (.cells #[.slice none 0 0,.slice none 0 0] 78)
 ⟨H'.b,λe=>⟨up (H.f1 e).1,up (H.f1 e).2⟩,λe=>⟨up (H.f2 e).1,up (H.f2 e).2⟩,H'.f3,λ_=>⟨aR.new W _ _,H.b.size⟩,λe _=>by have:=(H.f3 e).1.lt;omega⟩
end
theorem U1{α:Type}{d:Kd α}{e:Nat}{w:World}{base g h:Nat}{v:Value}{xs:List α}(hr:d.R e w base (λk=>(true=true->k≠g)/\(true=true->k≠h)) v xs)(v0 v1 u0 u1:Value):d.R e ((((w.setCell ⟨g,0,none⟩ v0).setCell ⟨g,1,none⟩ v1).setCell ⟨h,0,none⟩ u0).setCell ⟨h,1,none⟩ u1) base (λ_=>True) v xs:=
 Kd.bB (Kd.dx (Kd.dx (Kd.dx (Kd.dx hr (p:=⟨g,0,none⟩) (λk hk=>hk.1 rfl) v0) (p:=⟨g,1,none⟩) (λk hk=>hk.1 rfl) v1) (p:=⟨h,0,none⟩) (λk hk=>hk.2 rfl) u0) (p:=⟨h,1,none⟩) (λk hk=>hk.2 rfl) u1) (λ_ _=>trivial)
set_option maxRecDepth 100000 in
set_option maxHeartbeats 40000000 in
theorem agJ{w0 w:World}{l0:List vC}{l1 xs:List pO}{rt cs tw tr kg ps:List Int}{pl:List S64}{fr jH limit many:Int}{b7 b8:Nat}{A0 A1 A2 A3 A4 A5 A6 A7 X1 T1:Option Addr}{c0 c1 c2 c3 c4 c5 c6 c7 x1 t1:Nat}{W_:List dP}{R R2:List aV}{PL:List qI}(a:Act)(ha:a={tmps:=DF (a.tmps.getD 1 undef) (.pointer (some ⟨w0.heap.size,0,none⟩)) (a.tmps.getD 5 undef) (.pointer (some ⟨b7,0,none⟩)) (.pointer (some ⟨b8,0,none⟩)) (a.tmps.getD 11 undef) (a.tmps.getD 12 undef) (a.tmps.getD 13 undef) (a.tmps.getD 14 undef) (λi=>a.tmps.getD i undef),defers:=[]})(L:LX w0 w l0 l1 xs rt cs tw tr kg ps pl fr jH limit many b7 b8 A0 A1 A2 A3 A4 A5 A6 A7 X1 T1 c0 c1 c2 c3 c4 c5 c6 c7 x1 t1)
  (hW:l0.map U4=W_) (hR:l1.map sJ=R) (hR2:xs.map sJ=R2) (h0:l0.length<=1000) (h1:l1.length<=1000) (h2:xs.length<=1000) (hc0:l0.length<=c0) (hc1:l1.length<=c1) (hx1:xs.length<=x1)
  (WI:pl.map M4=PL) (hsm:uw pl) (hpl:pl.length<=1000)
  (hrt:rt.length<=1000) (hcs:cs.length<=1000) (ug:tw.length<=1000) (htr:tr.length<=1000) (OP:kg.length<=1000) (Gg:ps.length<=c7) (hps:ps.length<=1000)
  (hE:Same W_ R R2 rt cs tw tr kg ps PL fr jH limit many):Code.wp Tryz.prog (jK 5) (lL w0) a w:=by
 have HL:=aa.mk L
 have HP:=aa.mk WI
 have FZ:=aa.mk hsm
 have HE:=aa.mk hE
 have HW:=aa.mk hW
 have HR:=aa.mk hR
 have HR2:=aa.mk hR2
 have hwl:W_.length<=1000:=by rw[<- hW,List.length_map];exact h0
 have hrl:R.length<=1000:=by rw[<- hR,List.length_map];exact h1
 have hrl2:R2.length<=1000:=by rw[<- hR2,List.length_map];exact h2
 clear L WI hsm hE hW hR hR2
 obtain⟨u,hu⟩:∃u:Nat->Value,a={tmps:=DF (u 1) (.pointer (some ⟨w0.heap.size,0,none⟩)) (u 5) (.pointer (some ⟨b7,0,none⟩)) (.pointer (some ⟨b8,0,none⟩)) (u 11) (u 12) (u 13) (u 14) u,defers:=[]}:=⟨λi=>a.tmps.getD i undef,ha⟩
 clear ha
 subst hu
 unfold DF
 refine dR 5 (by kernel_rfl) (λK hK=>?_)
 unfold jK
 conv=>arg 2;whnf
 unfold lL
 refine dB (n:=9) (S:=λw'=>w'.cell? ⟨w0.heap.size,0,none⟩=some (.slice A0 l0.length c0)/\w'.cell? ⟨w0.heap.size,1,none⟩=some (.slice A1 l1.length c1)/\w'.cell? ⟨b7,0,none⟩=some (.slice A0 l0.length c0)/\w'.cell? ⟨b7,1,none⟩=some (.slice X1 xs.length x1)) (ds:=[7,8]) #[O,O,O,O,O,O,O,O,O] (by kernel_rfl) rfl rfl ⟨(by simpa using (HL.out).bx.cell 0),(by simpa using (HL.out).bx.cell 1),(by simpa using (HL.out).m7.cell 0),(by simpa using (HL.out).m7.cell 1)⟩ (λhHeld=>?_);refine bu lj.V5 lj.RQ (λak bN=>?_)
 have Ld:=aa.mk (HL.out.later (aM (Below.refl _ _)))
 clear HL
 generalize w.drew=wd at Ld hHeld ⊢
 refine aZ 0 162 #[I,O,O,O,O,O,O,O,O] ak (h:=?_)
 refine dG 1 163 #[I,I,O,O,O,O,O,O,O] ak bN hHeld (hy:=by(rintro w' ⟨s0,s1,s2,s3⟩;go_simp;with_reducible rfl)) (h:=?_)
 refine dG 3 165 #[I,I,O,I,O,O,O,O,O] ak bN hHeld (hy:=by(rintro w' ⟨s0,s1,s2,s3⟩;go_simp;with_reducible rfl)) (h:=?_)
 clear hHeld
 refine iI (σ:=Value×Value×Value×Value×Nat×Nat) 2 #[I,I,I,I,I,I,I,O,O] (λx=>[(164,.agg #[x.1,x.2.1]),(166,.agg #[x.2.2.1,x.2.2.2.1]),(11,.pointer (some ⟨x.2.2.2.2.1,0,none⟩)),(12,.pointer (some ⟨x.2.2.2.2.2,0,none⟩))]) (λx w'=>lq wd W_ R R2 x.1 x.2.1 x.2.2.1 x.2.2.2.1 x.2.2.2.2.1 x.2.2.2.2.2 true true true true w') ?h211 (λLC=>?_)
 rotate_left
 refine iI (σ:=Value×Value×Value×Value×Nat×Nat) 3 #[I,I,I,I,I,I,O,O,O] (λx=>[(164,.agg #[x.1,x.2.1]),(166,.agg #[x.2.2.1,x.2.2.2.1]),(11,.pointer (some ⟨x.2.2.2.2.1,0,none⟩))]) (λx w'=>lq wd W_ R R2 x.1 x.2.1 x.2.2.1 x.2.2.2.1 x.2.2.2.2.1 x.2.2.2.2.2 true true true false w') ?h210 (λSN=>?_)
 rotate_left
 refine iI (σ:=Value×Value×Value×Value×Nat×Nat) 3 #[I,I,I,I,I,O,I,O,O] (λx=>[(164,.agg #[x.1,x.2.1]),(166,.agg #[x.2.2.1,x.2.2.2.1]),(12,.pointer (some ⟨x.2.2.2.2.2,0,none⟩))]) (λx w'=>lq wd W_ R R2 x.1 x.2.1 x.2.2.1 x.2.2.2.1 x.2.2.2.2.1 x.2.2.2.2.2 true true false true w') ?h201 (λSQ=>?_)
 rotate_left
 refine iI (σ:=Value×Value×Value×Value×Nat×Nat) 3 #[I,I,I,I,O,I,I,O,O] (λx=>[(164,.agg #[x.1,x.2.1]),(11,.pointer (some ⟨x.2.2.2.2.1,0,none⟩)),(12,.pointer (some ⟨x.2.2.2.2.2,0,none⟩))]) (λx w'=>lq wd W_ R R2 x.1 x.2.1 x.2.2.1 x.2.2.2.1 x.2.2.2.2.1 x.2.2.2.2.2 true false true true w') ?h111 (λLF=>?_)
 rotate_left
 refine iI (σ:=Value×Value×Value×Value×Nat×Nat) 4 #[I,I,I,I,I,O,O,O,O] (λx=>[(164,.agg #[x.1,x.2.1]),(166,.agg #[x.2.2.1,x.2.2.2.1])]) (λx w'=>lq wd W_ R R2 x.1 x.2.1 x.2.2.1 x.2.2.2.1 x.2.2.2.2.1 x.2.2.2.2.2 true true false false w') ?h200 (λZ6=>?_)
 rotate_left
 refine iI (σ:=Value×Value×Value×Value×Nat×Nat) 4 #[I,I,I,I,O,I,O,O,O] (λx=>[(164,.agg #[x.1,x.2.1]),(11,.pointer (some ⟨x.2.2.2.2.1,0,none⟩))]) (λx w'=>lq wd W_ R R2 x.1 x.2.1 x.2.2.1 x.2.2.2.1 x.2.2.2.2.1 x.2.2.2.2.2 true false true false w') ?h110 (λSS=>?_)
 rotate_left
 refine iI (σ:=Value×Value×Value×Value×Nat×Nat) 4 #[I,I,I,I,O,O,I,O,O] (λx=>[(164,.agg #[x.1,x.2.1]),(12,.pointer (some ⟨x.2.2.2.2.2,0,none⟩))]) (λx w'=>lq wd W_ R R2 x.1 x.2.1 x.2.2.1 x.2.2.2.1 x.2.2.2.2.1 x.2.2.2.2.2 true false false true w') ?h101 (λLG=>?_)
 rotate_left
 refine iI (σ:=Value×Value×Value×Value×Nat×Nat) 4 #[I,I,O,I,O,I,I,O,O] (λx=>[(11,.pointer (some ⟨x.2.2.2.2.1,0,none⟩)),(12,.pointer (some ⟨x.2.2.2.2.2,0,none⟩))]) (λx w'=>lq wd W_ R R2 x.1 x.2.1 x.2.2.1 x.2.2.2.1 x.2.2.2.2.1 x.2.2.2.2.2 false false true true w') ?h011 (λSX=>?_)
 rotate_left
 refine iI (σ:=Value×Value×Value×Value×Nat×Nat) 5 #[I,I,I,I,O,O,O,O,O] (λx=>[(164,.agg #[x.1,x.2.1])]) (λx w'=>lq wd W_ R R2 x.1 x.2.1 x.2.2.1 x.2.2.2.1 x.2.2.2.2.1 x.2.2.2.2.2 true false false false w') ?h100 (λSV=>?_)
 rotate_left
 refine iI (σ:=Value×Value×Value×Value×Nat×Nat) 5 #[I,I,O,I,O,I,O,O,O] (λx=>[(11,.pointer (some ⟨x.2.2.2.2.1,0,none⟩))]) (λx w'=>lq wd W_ R R2 x.1 x.2.1 x.2.2.1 x.2.2.2.1 x.2.2.2.2.1 x.2.2.2.2.2 false false true false w') ?h010 (λZ7=>?_)
 rotate_left
 refine iI (σ:=Value×Value×Value×Value×Nat×Nat) 5 #[I,I,O,I,O,O,I,O,O] (λx=>[(12,.pointer (some ⟨x.2.2.2.2.2,0,none⟩))]) (λx w'=>lq wd W_ R R2 x.1 x.2.1 x.2.2.1 x.2.2.2.1 x.2.2.2.2.1 x.2.2.2.2.2 false false false true w') ?h001 (λZ8=>?_)
 rotate_left
 obtain⟨x,hx⟩:∃x:Value×Value×Value×Value×Nat×Nat,lq wd W_ R R2 x.1 x.2.1 x.2.2.1 x.2.2.2.1 x.2.2.2.2.1 x.2.2.2.2.2 false false false false wd:=⟨(undef,undef,undef,undef,0,0),lq.start _ _ _ _ _ _ _ _ _ _⟩
 refine EF (i:=2) (j:=5) (k:=6) (Ni:=some 164) (Nj:=some 11) (Nk:=some 12) #[I,I,I,I,O,O,O,O,O] #[I,I,O,I,O,I,O,O,O] #[I,I,O,I,O,O,I,O,O] rfl rfl rfl rfl rfl rfl (xg ak.out (by kernel_rfl)) (by decide) (by decide) (by decide) (λK hK=>?_) (λK hK=>?_) (λK hK=>?_)
 .refine bW Tryz.func21 (by kernel_rfl) rfl #[.agg #[.slice A0 l0.length c0,.slice A1 l1.length c1]] (by rfl) rfl rfl (by(try simp only[List.map_toArray,List.map_cons,List.map_nil]);rfl) ?_
  refine(kD l0 l1 _ (Ld.out.later hx.b).k0 hc0 (Ld.out.later hx.b).k1 hc1 h0 h1 HW.out HR.out).mono ?_
  rintro e_ wc ⟨⟨va,vb,rfl,hr0,hr1⟩,hbx⟩
  have hsn:=hx.c1 hbx hr0 hr1
  have e_:=Ld.out.later hsn.b
  refine⟨_,rfl,hK.out _ _ ⟨(by simpa using e_.bx.cell 0),(by simpa using e_.bx.cell 1),(by simpa using e_.m7.cell 0),(by simpa using e_.m7.cell 1)⟩ (λ_=>?_)⟩
  clear hK K
  have hfin:=SV (va,vb,x.2.2.1,x.2.2.2.1,x.2.2.2.2.1,x.2.2.2.2.2) wc hsn
  refine bH ?_ hfin
  simp only[bz,Act.put,sb0,sb1,dD]
 .refine bT (w1:=?_) (v:=?_) (by rfl) rfl ?_ ?_
  rotate_left 2
  .go_simp
   constructor<;>rfl
  have hsn:=hx.a4
  have e_:=Ld.out.later hsn.b
  refine hK.out _ _ ⟨(by simpa using e_.bx.cell 0),(by simpa using e_.bx.cell 1),(by simpa using e_.m7.cell 0),(by simpa using e_.m7.cell 1)⟩ (λ_=>?_)
  clear hK K
  have hfin:=Z7 (x.1,x.2.1,x.2.2.1,x.2.2.2.1,wd.heap.size,x.2.2.2.2.2) _ hsn
  refine bH ?_ hfin
  simp only[bz,Act.put,sb0,sb1,dD]
 .refine bT (w1:=?_) (v:=?_) (by rfl) rfl ?_ ?_
  rotate_left 2
  .go_simp
   constructor<;>rfl
  have hsn:=hx.a5
  have e_:=Ld.out.later hsn.b
  refine hK.out _ _ ⟨(by simpa using e_.bx.cell 0),(by simpa using e_.bx.cell 1),(by simpa using e_.m7.cell 0),(by simpa using e_.m7.cell 1)⟩ (λ_=>?_)
  clear hK K
  have hfin:=Z8 (x.1,x.2.1,x.2.2.1,x.2.2.2.1,x.2.2.2.2.1,wd.heap.size) _ hsn
  refine bH ?_ hfin
  simp only[bz,Act.put,sb0,sb1,dD]
 case h210=>
  intro x W hx
  refine bH (by simp only[bz,Act.put,sb0,sb1,dD];rfl) ?_
  refine dO (i:=6) (N:=some 12) #[I,I,I,I,I,I,I,O,O] rfl rfl (aI ak.out (by kernel_rfl)) (by decide) (λK hK=>?_)
  refine bT (w1:=?_) (v:=?_) (by rfl) rfl ?_ ?_
  rotate_left 2
  .go_simp
   constructor<;>rfl
  have hsn:=hx.a5
  have e_:=Ld.out.later hsn.b
  refine hK.out _ _ ⟨(by simpa using e_.bx.cell 0),(by simpa using e_.bx.cell 1),(by simpa using e_.m7.cell 0),(by simpa using e_.m7.cell 1)⟩ (λ_=>?_)
  clear hK K
  have hfin:=LC (x.1,x.2.1,x.2.2.1,x.2.2.2.1,x.2.2.2.2.1,W.heap.size) _ hsn
  refine bH ?_ hfin
  simp only[bz,Act.put,sb0,sb1,dD]
 case h201=>
  intro x W hx
  refine bH (by simp only[bz,Act.put,sb0,sb1,dD];rfl) ?_
  refine dO (i:=5) (N:=some 11) #[I,I,I,I,I,I,I,O,O] rfl rfl (aI ak.out (by kernel_rfl)) (by decide) (λK hK=>?_)
  refine bT (w1:=?_) (v:=?_) (by rfl) rfl ?_ ?_
  rotate_left 2
  .go_simp
   constructor<;>rfl
  have hsn:=hx.a4
  have e_:=Ld.out.later hsn.b
  refine hK.out _ _ ⟨(by simpa using e_.bx.cell 0),(by simpa using e_.bx.cell 1),(by simpa using e_.m7.cell 0),(by simpa using e_.m7.cell 1)⟩ (λ_=>?_)
  clear hK K
  have hfin:=LC (x.1,x.2.1,x.2.2.1,x.2.2.2.1,W.heap.size,x.2.2.2.2.2) _ hsn
  refine bH ?_ hfin
  simp only[bz,Act.put,sb0,sb1,dD]
 case h111=>
  intro x W hx
  refine bH (by simp only[bz,Act.put,sb0,sb1,dD];rfl) ?_
  refine dO (i:=4) (N:=some 166) #[I,I,I,I,I,I,I,O,O] rfl rfl (aI ak.out (by kernel_rfl)) (by decide) (λK hK=>?_)
  refine bW Tryz.func21 (by kernel_rfl) rfl #[.agg #[.slice A0 l0.length c0,.slice X1 xs.length x1]] (by rfl) rfl rfl (by(try simp only[List.map_toArray,List.map_cons,List.map_nil]);rfl) ?_
  refine(kD l0 xs _ (Ld.out.later hx.b).k0 hc0 (Ld.out.later hx.b).k2 hx1 h0 h2 HW.out HR2.out).mono ?_
  rintro e_ wc ⟨⟨va,vb,rfl,hr0,hr1⟩,hbx⟩
  have hsn:=hx.c2 hbx hr0 hr1
  have e_:=Ld.out.later hsn.b
  refine⟨_,rfl,hK.out _ _ ⟨(by simpa using e_.bx.cell 0),(by simpa using e_.bx.cell 1),(by simpa using e_.m7.cell 0),(by simpa using e_.m7.cell 1)⟩ (λ_=>?_)⟩
  clear hK K
  have hfin:=LC (x.1,x.2.1,va,vb,x.2.2.2.2.1,x.2.2.2.2.2) wc hsn
  refine bH ?_ hfin
  simp only[bz,Act.put,sb0,sb1,dD]
 case h200=>
  intro x W hx
  refine bH (by simp only[bz,Act.put,sb0,sb1,dD];rfl) ?_
  refine qO (i:=5) (j:=6) (Ni:=some 11) (Nj:=some 12) #[I,I,I,I,I,I,O,O,O] #[I,I,I,I,I,O,I,O,O] rfl rfl rfl rfl (jG ak.out (by kernel_rfl)) (by decide) (by decide) (λK hK=>?_) (λK hK=>?_)
  .refine bT (w1:=?_) (v:=?_) (by rfl) rfl ?_ ?_
   rotate_left 2
   .go_simp
    constructor<;>rfl
   have hsn:=hx.a4
   have e_:=Ld.out.later hsn.b
   refine hK.out _ _ ⟨(by simpa using e_.bx.cell 0),(by simpa using e_.bx.cell 1),(by simpa using e_.m7.cell 0),(by simpa using e_.m7.cell 1)⟩ (λ_=>?_)
   clear hK K
   have hfin:=SN (x.1,x.2.1,x.2.2.1,x.2.2.2.1,W.heap.size,x.2.2.2.2.2) _ hsn
   refine bH ?_ hfin
   simp only[bz,Act.put,sb0,sb1,dD]
  .refine bT (w1:=?_) (v:=?_) (by rfl) rfl ?_ ?_
   rotate_left 2
   .go_simp
    constructor<;>rfl
   have hsn:=hx.a5
   have e_:=Ld.out.later hsn.b
   refine hK.out _ _ ⟨(by simpa using e_.bx.cell 0),(by simpa using e_.bx.cell 1),(by simpa using e_.m7.cell 0),(by simpa using e_.m7.cell 1)⟩ (λ_=>?_)
   clear hK K
   have hfin:=SQ (x.1,x.2.1,x.2.2.1,x.2.2.2.1,x.2.2.2.2.1,W.heap.size) _ hsn
   refine bH ?_ hfin
   simp only[bz,Act.put,sb0,sb1,dD]
 case h110=>
  intro x W hx
  refine bH (by simp only[bz,Act.put,sb0,sb1,dD];rfl) ?_
  refine qO (i:=4) (j:=6) (Ni:=some 166) (Nj:=some 12) #[I,I,I,I,I,I,O,O,O] #[I,I,I,I,O,I,I,O,O] rfl rfl rfl rfl (jG ak.out (by kernel_rfl)) (by decide) (by decide) (λK hK=>?_) (λK hK=>?_)
  .refine bW Tryz.func21 (by kernel_rfl) rfl #[.agg #[.slice A0 l0.length c0,.slice X1 xs.length x1]] (by rfl) rfl rfl (by(try simp only[List.map_toArray,List.map_cons,List.map_nil]);rfl) ?_
   refine(kD l0 xs _ (Ld.out.later hx.b).k0 hc0 (Ld.out.later hx.b).k2 hx1 h0 h2 HW.out HR2.out).mono ?_
   rintro e_ wc ⟨⟨va,vb,rfl,hr0,hr1⟩,hbx⟩
   have hsn:=hx.c2 hbx hr0 hr1
   have e_:=Ld.out.later hsn.b
   refine⟨_,rfl,hK.out _ _ ⟨(by simpa using e_.bx.cell 0),(by simpa using e_.bx.cell 1),(by simpa using e_.m7.cell 0),(by simpa using e_.m7.cell 1)⟩ (λ_=>?_)⟩
   clear hK K
   have hfin:=SN (x.1,x.2.1,va,vb,x.2.2.2.2.1,x.2.2.2.2.2) wc hsn
   refine bH ?_ hfin
   simp only[bz,Act.put,sb0,sb1,dD]
  .refine bT (w1:=?_) (v:=?_) (by rfl) rfl ?_ ?_
   rotate_left 2
   .go_simp
    constructor<;>rfl
   have hsn:=hx.a5
   have e_:=Ld.out.later hsn.b
   refine hK.out _ _ ⟨(by simpa using e_.bx.cell 0),(by simpa using e_.bx.cell 1),(by simpa using e_.m7.cell 0),(by simpa using e_.m7.cell 1)⟩ (λ_=>?_)
   clear hK K
   have hfin:=LF (x.1,x.2.1,x.2.2.1,x.2.2.2.1,x.2.2.2.2.1,W.heap.size) _ hsn
   refine bH ?_ hfin
   simp only[bz,Act.put,sb0,sb1,dD]
 case h101=>
  intro x W hx
  refine bH (by simp only[bz,Act.put,sb0,sb1,dD];rfl) ?_
  refine qO (i:=4) (j:=5) (Ni:=some 166) (Nj:=some 11) #[I,I,I,I,I,O,I,O,O] #[I,I,I,I,O,I,I,O,O] rfl rfl rfl rfl (jG ak.out (by kernel_rfl)) (by decide) (by decide) (λK hK=>?_) (λK hK=>?_)
  .refine bW Tryz.func21 (by kernel_rfl) rfl #[.agg #[.slice A0 l0.length c0,.slice X1 xs.length x1]] (by rfl) rfl rfl (by(try simp only[List.map_toArray,List.map_cons,List.map_nil]);rfl) ?_
   refine(kD l0 xs _ (Ld.out.later hx.b).k0 hc0 (Ld.out.later hx.b).k2 hx1 h0 h2 HW.out HR2.out).mono ?_
   rintro e_ wc ⟨⟨va,vb,rfl,hr0,hr1⟩,hbx⟩
   have hsn:=hx.c2 hbx hr0 hr1
   have e_:=Ld.out.later hsn.b
   refine⟨_,rfl,hK.out _ _ ⟨(by simpa using e_.bx.cell 0),(by simpa using e_.bx.cell 1),(by simpa using e_.m7.cell 0),(by simpa using e_.m7.cell 1)⟩ (λ_=>?_)⟩
   clear hK K
   have hfin:=SQ (x.1,x.2.1,va,vb,x.2.2.2.2.1,x.2.2.2.2.2) wc hsn
   refine bH ?_ hfin
   simp only[bz,Act.put,sb0,sb1,dD]
  .refine bT (w1:=?_) (v:=?_) (by rfl) rfl ?_ ?_
   rotate_left 2
   .go_simp
    constructor<;>rfl
   have hsn:=hx.a4
   have e_:=Ld.out.later hsn.b
   refine hK.out _ _ ⟨(by simpa using e_.bx.cell 0),(by simpa using e_.bx.cell 1),(by simpa using e_.m7.cell 0),(by simpa using e_.m7.cell 1)⟩ (λ_=>?_)
   clear hK K
   have hfin:=LF (x.1,x.2.1,x.2.2.1,x.2.2.2.1,W.heap.size,x.2.2.2.2.2) _ hsn
   refine bH ?_ hfin
   simp only[bz,Act.put,sb0,sb1,dD]
 case h011=>
  intro x W hx
  refine bH (by simp only[bz,Act.put,sb0,sb1,dD];rfl) ?_
  refine dO (i:=2) (N:=some 164) #[I,I,I,I,O,I,I,O,O] rfl rfl (aI ak.out (by kernel_rfl)) (by decide) (λK hK=>?_)
  refine bW Tryz.func21 (by kernel_rfl) rfl #[.agg #[.slice A0 l0.length c0,.slice A1 l1.length c1]] (by rfl) rfl rfl (by(try simp only[List.map_toArray,List.map_cons,List.map_nil]);rfl) ?_
  refine(kD l0 l1 _ (Ld.out.later hx.b).k0 hc0 (Ld.out.later hx.b).k1 hc1 h0 h1 HW.out HR.out).mono ?_
  rintro e_ wc ⟨⟨va,vb,rfl,hr0,hr1⟩,hbx⟩
  have hsn:=hx.c1 hbx hr0 hr1
  have e_:=Ld.out.later hsn.b
  refine⟨_,rfl,hK.out _ _ ⟨(by simpa using e_.bx.cell 0),(by simpa using e_.bx.cell 1),(by simpa using e_.m7.cell 0),(by simpa using e_.m7.cell 1)⟩ (λ_=>?_)⟩
  clear hK K
  have hfin:=LF (va,vb,x.2.2.1,x.2.2.2.1,x.2.2.2.2.1,x.2.2.2.2.2) wc hsn
  refine bH ?_ hfin
  simp only[bz,Act.put,sb0,sb1,dD]
 case h100=>
  intro x W hx
  refine bH (by simp only[bz,Act.put,sb0,sb1,dD];rfl) ?_
  refine EF (i:=4) (j:=5) (k:=6) (Ni:=some 166) (Nj:=some 11) (Nk:=some 12) #[I,I,I,I,I,O,O,O,O] #[I,I,I,I,O,I,O,O,O] #[I,I,I,I,O,O,I,O,O] rfl rfl rfl rfl rfl rfl (xg ak.out (by kernel_rfl)) (by decide) (by decide) (by decide) (λK hK=>?_) (λK hK=>?_) (λK hK=>?_)
  .refine bW Tryz.func21 (by kernel_rfl) rfl #[.agg #[.slice A0 l0.length c0,.slice X1 xs.length x1]] (by rfl) rfl rfl (by(try simp only[List.map_toArray,List.map_cons,List.map_nil]);rfl) ?_
   refine(kD l0 xs _ (Ld.out.later hx.b).k0 hc0 (Ld.out.later hx.b).k2 hx1 h0 h2 HW.out HR2.out).mono ?_
   rintro e_ wc ⟨⟨va,vb,rfl,hr0,hr1⟩,hbx⟩
   have hsn:=hx.c2 hbx hr0 hr1
   have e_:=Ld.out.later hsn.b
   refine⟨_,rfl,hK.out _ _ ⟨(by simpa using e_.bx.cell 0),(by simpa using e_.bx.cell 1),(by simpa using e_.m7.cell 0),(by simpa using e_.m7.cell 1)⟩ (λ_=>?_)⟩
   clear hK K
   have hfin:=Z6 (x.1,x.2.1,va,vb,x.2.2.2.2.1,x.2.2.2.2.2) wc hsn
   refine bH ?_ hfin
   simp only[bz,Act.put,sb0,sb1,dD]
  .refine bT (w1:=?_) (v:=?_) (by rfl) rfl ?_ ?_
   rotate_left 2
   .go_simp
    constructor<;>rfl
   have hsn:=hx.a4
   have e_:=Ld.out.later hsn.b
   refine hK.out _ _ ⟨(by simpa using e_.bx.cell 0),(by simpa using e_.bx.cell 1),(by simpa using e_.m7.cell 0),(by simpa using e_.m7.cell 1)⟩ (λ_=>?_)
   clear hK K
   have hfin:=SS (x.1,x.2.1,x.2.2.1,x.2.2.2.1,W.heap.size,x.2.2.2.2.2) _ hsn
   refine bH ?_ hfin
   simp only[bz,Act.put,sb0,sb1,dD]
  .refine bT (w1:=?_) (v:=?_) (by rfl) rfl ?_ ?_
   rotate_left 2
   .go_simp
    constructor<;>rfl
   have hsn:=hx.a5
   have e_:=Ld.out.later hsn.b
   refine hK.out _ _ ⟨(by simpa using e_.bx.cell 0),(by simpa using e_.bx.cell 1),(by simpa using e_.m7.cell 0),(by simpa using e_.m7.cell 1)⟩ (λ_=>?_)
   clear hK K
   have hfin:=LG (x.1,x.2.1,x.2.2.1,x.2.2.2.1,x.2.2.2.2.1,W.heap.size) _ hsn
   refine bH ?_ hfin
   simp only[bz,Act.put,sb0,sb1,dD]
 case h010=>
  intro x W hx
  refine bH (by simp only[bz,Act.put,sb0,sb1,dD];rfl) ?_
  refine qO (i:=2) (j:=6) (Ni:=some 164) (Nj:=some 12) #[I,I,I,I,O,I,O,O,O] #[I,I,O,I,O,I,I,O,O] rfl rfl rfl rfl (jG ak.out (by kernel_rfl)) (by decide) (by decide) (λK hK=>?_) (λK hK=>?_)
  .refine bW Tryz.func21 (by kernel_rfl) rfl #[.agg #[.slice A0 l0.length c0,.slice A1 l1.length c1]] (by rfl) rfl rfl (by(try simp only[List.map_toArray,List.map_cons,List.map_nil]);rfl) ?_
   refine(kD l0 l1 _ (Ld.out.later hx.b).k0 hc0 (Ld.out.later hx.b).k1 hc1 h0 h1 HW.out HR.out).mono ?_
   rintro e_ wc ⟨⟨va,vb,rfl,hr0,hr1⟩,hbx⟩
   have hsn:=hx.c1 hbx hr0 hr1
   have e_:=Ld.out.later hsn.b
   refine⟨_,rfl,hK.out _ _ ⟨(by simpa using e_.bx.cell 0),(by simpa using e_.bx.cell 1),(by simpa using e_.m7.cell 0),(by simpa using e_.m7.cell 1)⟩ (λ_=>?_)⟩
   clear hK K
   have hfin:=SS (va,vb,x.2.2.1,x.2.2.2.1,x.2.2.2.2.1,x.2.2.2.2.2) wc hsn
   refine bH ?_ hfin
   simp only[bz,Act.put,sb0,sb1,dD]
  .refine bT (w1:=?_) (v:=?_) (by rfl) rfl ?_ ?_
   rotate_left 2
   .go_simp
    constructor<;>rfl
   have hsn:=hx.a5
   have e_:=Ld.out.later hsn.b
   refine hK.out _ _ ⟨(by simpa using e_.bx.cell 0),(by simpa using e_.bx.cell 1),(by simpa using e_.m7.cell 0),(by simpa using e_.m7.cell 1)⟩ (λ_=>?_)
   clear hK K
   have hfin:=SX (x.1,x.2.1,x.2.2.1,x.2.2.2.1,x.2.2.2.2.1,W.heap.size) _ hsn
   refine bH ?_ hfin
   simp only[bz,Act.put,sb0,sb1,dD]
 case h001=>
  intro x W hx
  refine bH (by simp only[bz,Act.put,sb0,sb1,dD];rfl) ?_
  refine qO (i:=2) (j:=5) (Ni:=some 164) (Nj:=some 11) #[I,I,I,I,O,O,I,O,O] #[I,I,O,I,O,I,I,O,O] rfl rfl rfl rfl (jG ak.out (by kernel_rfl)) (by decide) (by decide) (λK hK=>?_) (λK hK=>?_)
  .refine bW Tryz.func21 (by kernel_rfl) rfl #[.agg #[.slice A0 l0.length c0,.slice A1 l1.length c1]] (by rfl) rfl rfl (by(try simp only[List.map_toArray,List.map_cons,List.map_nil]);rfl) ?_
   refine(kD l0 l1 _ (Ld.out.later hx.b).k0 hc0 (Ld.out.later hx.b).k1 hc1 h0 h1 HW.out HR.out).mono ?_
   rintro e_ wc ⟨⟨va,vb,rfl,hr0,hr1⟩,hbx⟩
   have hsn:=hx.c1 hbx hr0 hr1
   have e_:=Ld.out.later hsn.b
   refine⟨_,rfl,hK.out _ _ ⟨(by simpa using e_.bx.cell 0),(by simpa using e_.bx.cell 1),(by simpa using e_.m7.cell 0),(by simpa using e_.m7.cell 1)⟩ (λ_=>?_)⟩
   clear hK K
   have hfin:=LG (va,vb,x.2.2.1,x.2.2.2.1,x.2.2.2.2.1,x.2.2.2.2.2) wc hsn
   refine bH ?_ hfin
   simp only[bz,Act.put,sb0,sb1,dD]
  .refine bT (w1:=?_) (v:=?_) (by rfl) rfl ?_ ?_
   rotate_left 2
   .go_simp
    constructor<;>rfl
   have hsn:=hx.a4
   have e_:=Ld.out.later hsn.b
   refine hK.out _ _ ⟨(by simpa using e_.bx.cell 0),(by simpa using e_.bx.cell 1),(by simpa using e_.m7.cell 0),(by simpa using e_.m7.cell 1)⟩ (λ_=>?_)
   clear hK K
   have hfin:=SX (x.1,x.2.1,x.2.2.1,x.2.2.2.1,W.heap.size,x.2.2.2.2.2) _ hsn
   refine bH ?_ hfin
   simp only[bz,Act.put,sb0,sb1,dD]
 case h211=>
  rintro⟨va,vb,vc,ve,g,h⟩ W hx
  refine bH (by simp only[bz,Act.put,sb0,sb1,dD];rfl) ?_
  obtain⟨hb,h1_,h2_,h3_,h4_,h5_⟩:=hx
  obtain⟨r0,r1⟩:=h1_ rfl
  obtain⟨r2,r3⟩:=h2_ rfl
  obtain⟨bg,hg⟩:=h3_ rfl
  obtain⟨bh,hh⟩:=h4_ rfl
  have hgh:=h5_ rfl rfl
  dsimp only at r0 r1 r2 r3 bg bh hg hh hgh ⊢
  clear h1_ h2_ h3_ h4_ h5_
  obtain⟨Y0,n0,y0,rfl⟩:=iy r0
  obtain⟨Y1,n1,y1,rfl⟩:=iy r1
  obtain⟨Z0,n2,z0,rfl⟩:=iy r2
  obtain⟨Z1,n3,z1,rfl⟩:=iy r3
  have R0_:=aa.mk r0
  have R1_:=aa.mk r1
  have R2_:=aa.mk r2
  have R3_:=aa.mk r3
  have BG_:=aa.mk bg
  have BH_:=aa.mk bh
  have HB_:=aa.mk hb
  clear r0 r1 r2 r3 bg bh hb
  refine dE (i:=7) (N:=none) #[I,I,I,I,I,I,I,I,O] rfl rfl (aI ak.out (by kernel_rfl)) (by decide) (λK hK=>?_)
  have hbb:=BG_.out
  have BV:W.cell? ⟨g,0,none⟩=some (.slice none 0 0):=by simpa using hbb.cell 0
  have BU:W.cell? ⟨g,1,none⟩=some (.slice none 0 0):=by simpa using hbb.cell 1
  have BS:W.frozen? ⟨g,0,none⟩=false:=hbb.frozen 0
  have BQ:W.frozen? ⟨g,1,none⟩=false:=hbb.frozen 1
  clear hbb
  refine gW (w1:=?_) (by rfl) rfl ?_ ?_
  rotate_left
  .go_simp
   rfl
  refine hK.out _ _ ?_
  clear hK K BV BU BS BQ
  refine dE (i:=8) (N:=none) #[I,I,I,I,I,I,I,I,I] rfl rfl (aI ak.out (by kernel_rfl)) (by decide) (λK hK=>?_)
  have hbb:=(show aR ((W.setCell ⟨g,0,none⟩ (.slice Y0 n0 y0)).setCell ⟨g,1,none⟩ (.slice Y1 n1 y1)) h _ _ from dw (dw BH_.out (p:=⟨g,0,none⟩) (Ne.symm hgh) (.slice Y0 n0 y0)) (p:=⟨g,1,none⟩) (Ne.symm hgh) (.slice Y1 n1 y1))
  have BV:((W.setCell ⟨g,0,none⟩ (.slice Y0 n0 y0)).setCell ⟨g,1,none⟩ (.slice Y1 n1 y1)).cell? ⟨h,0,none⟩=some (.slice none 0 0):=by simpa using hbb.cell 0
  have BU:((W.setCell ⟨g,0,none⟩ (.slice Y0 n0 y0)).setCell ⟨g,1,none⟩ (.slice Y1 n1 y1)).cell? ⟨h,1,none⟩=some (.slice none 0 0):=by simpa using hbb.cell 1
  have BS:((W.setCell ⟨g,0,none⟩ (.slice Y0 n0 y0)).setCell ⟨g,1,none⟩ (.slice Y1 n1 y1)).frozen? ⟨h,0,none⟩=false:=hbb.frozen 0
  have BQ:((W.setCell ⟨g,0,none⟩ (.slice Y0 n0 y0)).setCell ⟨g,1,none⟩ (.slice Y1 n1 y1)).frozen? ⟨h,1,none⟩=false:=hbb.frozen 1
  obtain⟨w2_,Kj⟩:∃x,((W.setCell ⟨g,0,none⟩ (.slice Y0 n0 y0)).setCell ⟨g,1,none⟩ (.slice Y1 n1 y1))=x:=⟨_,rfl⟩
  have HWN:=aa.mk Kj
  rw[Kj] at BV BU BS BQ hbb ⊢
  clear Kj
  clear hbb
  refine gW (w1:=?_) (by rfl) rfl ?_ ?_
  rotate_left
  .go_simp
   rfl
  refine hK.out _ _ ?_
  clear hK K BV BU BS BQ
  refine dK (bG ak.out (by kernel_rfl)) ?_
  have hwn:=HWN.out
  subst hwn
  have r0:=R0_.out
  have r1:=R1_.out
  have r2:=R2_.out
  have r3:=R3_.out
  have bg:=BG_.out
  have bh:=BH_.out
  have hb:=HB_.out
  refine hK _ _ ?_
  have s0:=U1 r0 (.slice Y0 n0 y0) (.slice Y1 n1 y1) (.slice Z0 n2 z0) (.slice Z1 n3 z1)
  have s1:=U1 r1 (.slice Y0 n0 y0) (.slice Y1 n1 y1) (.slice Z0 n2 z0) (.slice Z1 n3 z1)
  have s2:=U1 r2 (.slice Y0 n0 y0) (.slice Y1 n1 y1) (.slice Z0 n2 z0) (.slice Z1 n3 z1)
  have s3:=U1 r3 (.slice Y0 n0 y0) (.slice Y1 n1 y1) (.slice Z0 n2 z0) (.slice Z1 n3 z1)
  have hbW:=(((hb.setCell (p:=⟨g,0,none⟩) hg (.slice Y0 n0 y0)).setCell (p:=⟨g,1,none⟩) hg (.slice Y1 n1 y1)).setCell (p:=⟨h,0,none⟩) hh (.slice Z0 n2 z0)).setCell (p:=⟨h,1,none⟩) hh (.slice Z1 n3 z1)
  have BG:aR _ g [.slice Y0 n0 y0,.slice Y1 n1 y1] 78:=dw (dw (df (df bg 0 (.slice Y0 n0 y0)) 1 (.slice Y1 n1 y1)) (p:=⟨h,0,none⟩) hgh (.slice Z0 n2 z0)) (p:=⟨h,1,none⟩) hgh (.slice Z1 n3 z1)
  have BH:aR _ h [.slice Z0 n2 z0,.slice Z1 n3 z1] 78:=df (df (dw (dw bh (p:=⟨g,0,none⟩) (Ne.symm hgh) (.slice Y0 n0 y0)) (p:=⟨g,1,none⟩) (Ne.symm hgh) (.slice Y1 n1 y1)) 0 (.slice Z0 n2 z0)) 1 (.slice Z1 n3 z1)
  obtain⟨rfl,hd0,hC0⟩:=Kd.dL s0
  obtain⟨rfl,hd1,Ty⟩:=Kd.dL s1
  obtain⟨rfl,hd2,hC2⟩:=Kd.dL s2
  obtain⟨rfl,hd3,hC3⟩:=Kd.dL s3
  have L2:=aa.mk (Ld.out.later hbW)
  have I1:IsMap _ Y0 y0 W_ Y1 y1 R:=⟨hC0,hd0,Ty,hd1,by omega,by omega⟩
  have I2:IsMap _ Z0 z0 W_ Z1 z1 R2:=⟨hC2,hd2,hC3,hd3,by omega,by omega⟩
  refine agI _ ?_ L2.out BG BH I1 I2 HP.out FZ.out hpl hrt hcs ug htr OP Gg hps HE.out
  rfl
end Go.Proofs.YtkjoilgpmngndaaGreat.Wk
