import Derived.Test.YtkjoilgpmngndaaGreatQ37
set_option linter.all false
namespace Go.Proofs.YtkjoilgpmngndaaGreat.Wk
open Go.RowKit Go.Shelf au YtkjoilgpmngndaaGreatW.aj YtkjoilgpmngndaaGreatW.aJ YtkjoilgpmngndaaGreatW.ek
def li.T15:Bool×List (List Nat×List Nat):=(true,[([],[]),([0],[0]),([1],[1]),([],[]),([3],[3]),([4,2],[4]),([],[]),([6,2,5,0,1,2,6],[2,6]),([5,7,0,1,2,3,4,5,6,7],[5])])
def li.Tn:List Nat:=[0,1,3,0,8,31,0,127,255]
theorem li.aa3:dW .any (opsOf Tryz.f4 15)=li.T15:=by kernel_rfl
theorem li.Zv:bJ li.T15.2 li.Tn=true:=by kernel_rfl
structure LX(w0 w:World)(l0:List vC)(l1 xs:List pO)(rt cs tw tr kg ps:List Int)(pl:List S64)(fr jH limit many:Int)(b7 b8:Nat)(A0 A1 A2 A3 A4 A5 A6 A7 X1 T1:Option Addr)(c0 c1 c2 c3 c4 c5 c6 c7 x1 t1:Nat):Prop where
 below:Below w0.heap.size w0 w
 bx:aR w w0.heap.size [.slice A0 l0.length c0,.slice A1 l1.length c1,.slice A2 rt.length c2,.slice A3 cs.length c3,.slice A4 tw.length c4,.slice A5 tr.length c5,.slice A6 pl.length c6,.slice A7 ps.length c7,.int .i64 fr,.int .i64 jH,.int .i64 limit,.int .i64 many] 69
 m7:aR w b7 [.slice A0 l0.length c0,.slice X1 xs.length x1] 62
 m8:aR w b8 [.slice A4 tw.length c4,.slice T1 kg.length t1] 66
 k0:Kd.C Hw w A0 l0.length l0
 k1:Kd.C Dv w A1 l1.length l1
 k2:Kd.C Dv w X1 xs.length xs
 kr:Kd.C (Kd.int .i64) w A2 rt.length rt
 kc:Kd.C (Kd.int .i64) w A3 cs.length cs
 kw:Kd.C (Kd.int .i64) w A4 tw.length tw
 kt:Kd.C (Kd.int .i64) w A5 tr.length tr
 ku:Kd.C (Kd.int .i64) w T1 kg.length kg
 ks:Kd.C (Kd.int .i64) w A7 ps.length ps
 kp:Kd.C IX w A6 pl.length pl
theorem LX.later{w0 w w':World}{l0:List vC}{l1 xs:List pO}{rt cs tw tr kg ps:List Int}{pl:List S64}{fr jH limit many:Int}{b7 b8:Nat}{A0 A1 A2 A3 A4 A5 A6 A7 X1 T1:Option Addr}{c0 c1 c2 c3 c4 c5 c6 c7 x1 t1:Nat}(h:LX w0 w l0 l1 xs rt cs tw tr kg ps pl fr jH limit many b7 b8 A0 A1 A2 A3 A4 A5 A6 A7 X1 T1 c0 c1 c2 c3 c4 c5 c6 c7 x1 t1)(hb:Below w.heap.size w w'):LX w0 w' l0 l1 xs rt cs tw tr kg ps pl fr jH limit many b7 b8 A0 A1 A2 A3 A4 A5 A6 A7 X1 T1 c0 c1 c2 c3 c4 c5 c6 c7 x1 t1:=
 ⟨h.below.trans (hb.mono h.below.size),h.bx.below hb,h.m7.below hb,h.m8.below hb,Kd.av h.k0 hb,Kd.av h.k1 hb,Kd.av h.k2 hb,Kd.av h.kr hb,Kd.av h.kc hb,Kd.av h.kw hb,Kd.av h.kt hb,Kd.av h.ku hb,Kd.av h.ks hb,Kd.av h.kp hb⟩
structure Same(W:List dP)(R R2:List aV)(rt cs tw tr kg ps:List Int)(PL:List qI)(fr jH limit many:Int):Prop where
 pr:nT W R2 PL limit many=nT W R PL limit many
 fa:dX W R2 PL limit=dX W R PL limit
 re:j3 W R2 limit=j3 W R limit
 fe:tJ W R2 limit=tJ W R limit
 le:kU W R2 many=kU W R many
 ti:pR W R2 rt cs tw kg=pR W R rt cs tw tr
 bo:gz W R2 rt cs=gz W R rt cs
 wa:wY W R2 fr jH=wY W R fr jH
 tu:nW W R2 ps=nW W R ps
 ch:bD W R2=bD W R
theorem iy{α:Type}{d:Kd α}{e:Nat}{w:World}{base:Nat}{ok:Nat->Prop}{v:Value}{xs:List α}(h:d.R e w base ok v xs):∃A n c,v= .slice A n c:=by
 obtain⟨a_,b_,e_,_,_⟩:=Kd.cB h
 exact⟨_,_,_,e_⟩
structure pF(wd:World)(rt cs:List Int)(PL:List qI)(va vb vp:Value)(g:Nat)(c1 c2 p:Bool)(W:World):Prop where
 b:Below wd.heap.size wd W
 f1:c1=true->(Kd.int .i64).R 3 W wd.heap.size (λk=>p=true->k≠g) va rt/\(Kd.int .i64).R 3 W wd.heap.size (λk=>p=true->k≠g) vb cs
 f2:c2=true->PW.R 80 W wd.heap.size (λk=>p=true->k≠g) vp PL
 f3:p=true->aR W g [.slice none 0 0,.slice none 0 0] 80/\wd.heap.size<=g
section
variable {wd:World} {rt cs:List Int} {PL:List qI} {va vb vp:Value} {g:Nat} {b1 b2 p:Bool} {W W':World}
theorem pF.start(wd:World)(rt cs:List Int)(PL:List qI)(va vb vp:Value)(g:Nat):pF wd rt cs PL va vb vp g false false false wd:=
 ⟨Below.refl _ _,nofun,nofun,nofun⟩
theorem pF.later(H:pF wd rt cs PL va vb vp g b1 b2 p W)(hb:Below W.heap.size W W'):pF wd rt cs PL va vb vp g b1 b2 p W':=
 ⟨H.b.trans (hb.mono H.b.size),λe=>⟨Kd.bV (H.f1 e).1 hb,Kd.bV (H.f1 e).2 hb⟩,λe=>Kd.bV (H.f2 e) hb,λe=>⟨(H.f3 e).1.below hb,(H.f3 e).2⟩⟩
theorem pF.fresh(H:pF wd rt cs PL va vb vp g b1 b2 p W){α:Type}{d:Kd α}{e:Nat}{v:Value}{xs:List α}(h:d.R e W' W.heap.size (λ_=>True) v xs):d.R e W' wd.heap.size (λk=>p=true->k≠g) v xs:=
 Kd.bB (Kd.ed (Kd.bE h) H.b.size) (λk hk e1 e2=>by have:=(H.f3 e1).1.lt;have:=hk.2.1;omega)
theorem pF.c1{VX VW:Value}(H:pF wd rt cs PL va vb vp g false b2 p W)(hb:Below W.heap.size W W')(h0:(Kd.int .i64).R 3 W' W.heap.size (λ_=>True) VX rt)(h1:(Kd.int .i64).R 3 W' W.heap.size (λ_=>True) VW cs):pF wd rt cs PL VX VW vp g true b2 p W':=
 have H':=H.later hb
 ⟨H'.b,λ_=>⟨H.fresh h0,H.fresh h1⟩,H'.f2,H'.f3⟩
theorem pF.c2{vp':Value}(H:pF wd rt cs PL va vb vp g b1 false p W)(hb:Below W.heap.size W W')(h0:PW.R 80 W' W.heap.size (λ_=>True) vp' PL):pF wd rt cs PL va vb vp' g b1 true p W':=
 have H':=H.later hb
 ⟨H'.b,H'.f1,λ_=>H.fresh h0,H'.f3⟩
theorem pF.al(H:pF wd rt cs PL va vb vp g b1 b2 false W):pF wd rt cs PL va vb vp W.heap.size b1 b2 true (W.alloc (.cells #[.slice none 0 0,.slice none 0 0] 80)):=
 have H':=H.later (ae (Below.refl _ _) (.cells #[.slice none 0 0,.slice none 0 0] 80))
 have up:∀{α:Type} {d:Kd α} {e:Nat} {v:Value} {xs:List α} {ok:Nat->Prop},d.R e W wd.heap.size ok v xs->d.R e (W.alloc (.cells #[.slice none 0 0,.slice none 0 0] 80)) wd.heap.size (λk=>true=true->k≠W.heap.size) v xs:=
  λh=>Kd.bK (Kd.bB (Kd.bE h) (λk hk _=>by have:=hk.2.2.1;omega)) (.cells #[.slice none 0 0,.slice none 0 0] 80)
 ⟨H'.b,λe=>⟨up (H.f1 e).1,up (H.f1 e).2⟩,λe=>up (H.f2 e),λ_=>⟨aR.new W _ _,H.b.size⟩⟩
end
set_option maxRecDepth 100000 in
set_option maxHeartbeats 40000000 in
theorem agI{w0 w:World}{l0:List vC}{l1 xs:List pO}{rt cs tw tr kg ps:List Int}{pl:List S64}{fr jH limit many:Int}{b7 b8:Nat}{A0 A1 A2 A3 A4 A5 A6 A7 X1 T1:Option Addr}{c0 c1 c2 c3 c4 c5 c6 c7 x1 t1:Nat}{W_:List dP}{R R2:List aV}{b11 b12:Nat}{Y0 Y1 Z0 Z1:Option Addr}{y0 y1 z0 z1:Nat}{PL:List qI}(a:Act)(ha:a={tmps:=DF (a.tmps.getD 1 undef) (.pointer (some ⟨w0.heap.size,0,none⟩)) (a.tmps.getD 5 undef) (.pointer (some ⟨b7,0,none⟩)) (.pointer (some ⟨b8,0,none⟩)) (.pointer (some ⟨b11,0,none⟩)) (.pointer (some ⟨b12,0,none⟩)) (a.tmps.getD 13 undef) (a.tmps.getD 14 undef) (λi=>a.tmps.getD i undef),defers:=[]})(L:LX w0 w l0 l1 xs rt cs tw tr kg ps pl fr jH limit many b7 b8 A0 A1 A2 A3 A4 A5 A6 A7 X1 T1 c0 c1 c2 c3 c4 c5 c6 c7 x1 t1)
  (m11:aR w b11 [.slice Y0 W_.length y0,.slice Y1 R.length y1] 78) (m12:aR w b12 [.slice Z0 W_.length z0,.slice Z1 R2.length z1] 78) (i11:IsMap w Y0 y0 W_ Y1 y1 R) (i12:IsMap w Z0 z0 W_ Z1 z1 R2) (WI:pl.map M4=PL) (hsm:uw pl) (hpl:pl.length<=1000)
  (hrt:rt.length<=1000) (hcs:cs.length<=1000) (ug:tw.length<=1000) (htr:tr.length<=1000) (OP:kg.length<=1000) (Gg:ps.length<=c7) (hps:ps.length<=1000)
  (hE:Same W_ R R2 rt cs tw tr kg ps PL fr jH limit many):Code.wp Tryz.prog (jK 6) (lL w0) a w:=by
 have HL:=aa.mk L
 have M11:=aa.mk m11
 have M12:=aa.mk m12
 have I11:=aa.mk i11
 have I12:=aa.mk i12
 have HP:=aa.mk WI
 have FZ:=aa.mk hsm
 have HE:=aa.mk hE
 clear L m11 m12 i11 i12 WI hsm hE
 obtain⟨u,hu⟩:∃u:Nat->Value,a={tmps:=DF (u 1) (.pointer (some ⟨w0.heap.size,0,none⟩)) (u 5) (.pointer (some ⟨b7,0,none⟩)) (.pointer (some ⟨b8,0,none⟩)) (.pointer (some ⟨b11,0,none⟩)) (.pointer (some ⟨b12,0,none⟩)) (u 13) (u 14) u,defers:=[]}:=⟨λi=>a.tmps.getD i undef,ha⟩
 clear ha
 subst hu
 unfold DF
 refine dR 6 (by kernel_rfl) (λK hK=>?_)
 unfold jK
 conv=>arg 2;whnf
 unfold lL
 refine dB (n:=9) (S:=λw'=>w'.cell? ⟨w0.heap.size,2,none⟩=some (.slice A2 rt.length c2)/\w'.cell? ⟨w0.heap.size,3,none⟩=some (.slice A3 cs.length c3)/\w'.cell? ⟨w0.heap.size,6,none⟩=some (.slice A6 pl.length c6)) (ds:=[7]) #[O,O,O,O,O,O,O,O,O] (by kernel_rfl) rfl rfl ⟨(by simpa using (HL.out).bx.cell 2),(by simpa using (HL.out).bx.cell 3),(by simpa using (HL.out).bx.cell 6)⟩ (λhHeld=>?_);refine bu li.aa3 li.Zv (λak bN=>?_)
 have Ld:=aa.mk (HL.out.later (aM (Below.refl _ _)))
 replace M11:=aa.mk (M11.out.below (aM (Below.refl _ _)))
 replace M12:=aa.mk (M12.out.below (aM (Below.refl _ _)))
 replace I11:=aa.mk (I11.out.below (aM (Below.refl _ _)))
 replace I12:=aa.mk (I12.out.below (aM (Below.refl _ _)))
 clear HL
 generalize w.drew=wd at Ld M11 M12 I11 I12 hHeld ⊢
 refine aZ 0 167 #[I,O,O,O,O,O,O,O,O] ak (h:=?_)
 refine dG 1 168 #[I,I,O,O,O,O,O,O,O] ak bN hHeld (hy:=by(rintro w' ⟨s0,s1,s2⟩;go_simp;with_reducible rfl)) (h:=?_)
 refine aZ 3 170 #[I,I,O,I,O,O,O,O,O] ak (h:=?_)
 refine dG 4 171 #[I,I,O,I,I,O,O,O,O] ak bN hHeld (hy:=by(rintro w' ⟨s0,s1,s2⟩;go_simp;with_reducible rfl)) (h:=?_)
 clear hHeld
 refine iI (σ:=Value×Value×Value×Nat) 2 #[I,I,I,I,I,I,I,O,O] (λx=>[(169,.agg #[x.1,x.2.1]),(172,x.2.2.1),(13,.pointer (some ⟨x.2.2.2,0,none⟩))]) (λx w'=>pF wd rt cs PL x.1 x.2.1 x.2.2.1 x.2.2.2 true true true w') ?h21 (λH21=>?_)
 rotate_left
 refine iI (σ:=Value×Value×Value×Nat) 3 #[I,I,I,I,I,I,O,O,O] (λx=>[(169,.agg #[x.1,x.2.1]),(172,x.2.2.1)]) (λx w'=>pF wd rt cs PL x.1 x.2.1 x.2.2.1 x.2.2.2 true true false w') ?h20 (λH20=>?_)
 rotate_left
 refine iI (σ:=Value×Value×Value×Nat) 3 #[I,I,I,I,I,O,I,O,O] (λx=>[(169,.agg #[x.1,x.2.1]),(13,.pointer (some ⟨x.2.2.2,0,none⟩))]) (λx w'=>pF wd rt cs PL x.1 x.2.1 x.2.2.1 x.2.2.2 true false true w') ?h11 (λH11=>?_)
 rotate_left
 refine iI (σ:=Value×Value×Value×Nat) 4 #[I,I,I,I,I,O,O,O,O] (λx=>[(169,.agg #[x.1,x.2.1])]) (λx w'=>pF wd rt cs PL x.1 x.2.1 x.2.2.1 x.2.2.2 true false false w') ?h10 (λH10=>?_)
 rotate_left
 refine iI (σ:=Value×Value×Value×Nat) 4 #[I,I,O,I,I,O,I,O,O] (λx=>[(13,.pointer (some ⟨x.2.2.2,0,none⟩))]) (λx w'=>pF wd rt cs PL x.1 x.2.1 x.2.2.1 x.2.2.2 false false true w') ?h01 (λH01=>?_)
 rotate_left
 obtain⟨x,hx⟩:∃x:Value×Value×Value×Nat,pF wd rt cs PL x.1 x.2.1 x.2.2.1 x.2.2.2 false false false wd:=⟨(undef,undef,undef,0),pF.start _ _ _ _ _ _ _ _⟩
 refine qO (i:=2) (j:=6) (Ni:=some 169) (Nj:=some 13) #[I,I,I,I,I,O,O,O,O] #[I,I,O,I,I,O,I,O,O] rfl rfl rfl rfl (jG ak.out (by kernel_rfl)) (by decide) (by decide) (λK hK=>?_) (λK hK=>?_)
 .refine bW Tryz.func22 (by kernel_rfl) rfl #[.agg #[.slice A2 rt.length c2,.slice A3 cs.length c3]] (by rfl) rfl rfl (by(try simp only[List.map_toArray,List.map_cons,List.map_nil]);rfl) ?_
  refine(rO rt cs _ (Ld.out.later hx.b).kr (Ld.out.later hx.b).kc hrt hcs).mono ?_
  rintro e_ wc ⟨⟨va,vb,rfl,hr0,hr1⟩,hbx⟩
  have hsn:=hx.c1 hbx hr0 hr1
  refine⟨_,rfl,hK.out _ _ ⟨(by simpa using (Ld.out.later hsn.b).bx.cell 2),(by simpa using (Ld.out.later hsn.b).bx.cell 3),(by simpa using (Ld.out.later hsn.b).bx.cell 6)⟩ (λ_=>?_)⟩
  clear hK K
  have hfin:=H10 (va,vb,x.2.2.1,x.2.2.2) wc hsn
  refine bH ?_ hfin
  simp only[bz,Act.put,sb0,sb1,dD]
 .refine bT (w1:=?_) (v:=?_) (by rfl) rfl ?_ ?_
  rotate_left 2
  .go_simp
   constructor<;>rfl
  have hsn:=hx.al
  refine hK.out _ _ ⟨(by simpa using (Ld.out.later hsn.b).bx.cell 2),(by simpa using (Ld.out.later hsn.b).bx.cell 3),(by simpa using (Ld.out.later hsn.b).bx.cell 6)⟩ (λ_=>?_)
  clear hK K
  have hfin:=H01 (x.1,x.2.1,x.2.2.1,wd.heap.size) _ hsn
  refine bH ?_ hfin
  simp only[bz,Act.put,sb0,sb1,dD]
 case h20=>
  intro x W hx
  refine bH (by simp only[bz,Act.put,sb0,sb1,dD];rfl) ?_
  refine dO (i:=6) (N:=some 13) #[I,I,I,I,I,I,I,O,O] rfl rfl (aI ak.out (by kernel_rfl)) (by decide) (λK hK=>?_)
  refine bT (w1:=?_) (v:=?_) (by rfl) rfl ?_ ?_
  rotate_left 2
  .go_simp
   constructor<;>rfl
  have hsn:=hx.al
  refine hK.out _ _ ⟨(by simpa using (Ld.out.later hsn.b).bx.cell 2),(by simpa using (Ld.out.later hsn.b).bx.cell 3),(by simpa using (Ld.out.later hsn.b).bx.cell 6)⟩ (λ_=>?_)
  clear hK K
  have hfin:=H21 (x.1,x.2.1,x.2.2.1,W.heap.size) _ hsn
  refine bH ?_ hfin
  simp only[bz,Act.put,sb0,sb1,dD]
 case h11=>
  intro x W hx
  refine bH (by simp only[bz,Act.put,sb0,sb1,dD];rfl) ?_
  refine dO (i:=5) (N:=some 172) #[I,I,I,I,I,I,I,O,O] rfl rfl (aI ak.out (by kernel_rfl)) (by decide) (λK hK=>?_)
  refine bW Tryz.func23 (by kernel_rfl) rfl #[.slice A6 pl.length c6] (by rfl) rfl rfl (by(try simp only[List.map_toArray,List.map_cons,List.map_nil]);rfl) ?_
  refine(xx pl _ (Ld.out.later hx.b).kp hpl FZ.out).mono ?_
  rintro e_ wc ⟨⟨vp,rfl,hr0⟩,hbx⟩
  rw[HP.out] at hr0
  have hsn:=hx.c2 hbx hr0
  refine⟨_,rfl,hK.out _ _ ⟨(by simpa using (Ld.out.later hsn.b).bx.cell 2),(by simpa using (Ld.out.later hsn.b).bx.cell 3),(by simpa using (Ld.out.later hsn.b).bx.cell 6)⟩ (λ_=>?_)⟩
  clear hK K
  have hfin:=H21 (x.1,x.2.1,vp,x.2.2.2) wc hsn
  refine bH ?_ hfin
  simp only[bz,Act.put,sb0,sb1,dD]
 case h10=>
  intro x W hx
  refine bH (by simp only[bz,Act.put,sb0,sb1,dD];rfl) ?_
  refine qO (i:=5) (j:=6) (Ni:=some 172) (Nj:=some 13) #[I,I,I,I,I,I,O,O,O] #[I,I,I,I,I,O,I,O,O] rfl rfl rfl rfl (jG ak.out (by kernel_rfl)) (by decide) (by decide) (λK hK=>?_) (λK hK=>?_)
  .refine bW Tryz.func23 (by kernel_rfl) rfl #[.slice A6 pl.length c6] (by rfl) rfl rfl (by(try simp only[List.map_toArray,List.map_cons,List.map_nil]);rfl) ?_
   refine(xx pl _ (Ld.out.later hx.b).kp hpl FZ.out).mono ?_
   rintro e_ wc ⟨⟨vp,rfl,hr0⟩,hbx⟩
   rw[HP.out] at hr0
   have hsn:=hx.c2 hbx hr0
   refine⟨_,rfl,hK.out _ _ ⟨(by simpa using (Ld.out.later hsn.b).bx.cell 2),(by simpa using (Ld.out.later hsn.b).bx.cell 3),(by simpa using (Ld.out.later hsn.b).bx.cell 6)⟩ (λ_=>?_)⟩
   clear hK K
   have hfin:=H20 (x.1,x.2.1,vp,x.2.2.2) wc hsn
   refine bH ?_ hfin
   simp only[bz,Act.put,sb0,sb1,dD]
  .refine bT (w1:=?_) (v:=?_) (by rfl) rfl ?_ ?_
   rotate_left 2
   .go_simp
    constructor<;>rfl
   have hsn:=hx.al
   refine hK.out _ _ ⟨(by simpa using (Ld.out.later hsn.b).bx.cell 2),(by simpa using (Ld.out.later hsn.b).bx.cell 3),(by simpa using (Ld.out.later hsn.b).bx.cell 6)⟩ (λ_=>?_)
   clear hK K
   have hfin:=H11 (x.1,x.2.1,x.2.2.1,W.heap.size) _ hsn
   refine bH ?_ hfin
   simp only[bz,Act.put,sb0,sb1,dD]
 case h01=>
  intro x W hx
  refine bH (by simp only[bz,Act.put,sb0,sb1,dD];rfl) ?_
  refine dO (i:=2) (N:=some 169) #[I,I,I,I,I,O,I,O,O] rfl rfl (aI ak.out (by kernel_rfl)) (by decide) (λK hK=>?_)
  refine bW Tryz.func22 (by kernel_rfl) rfl #[.agg #[.slice A2 rt.length c2,.slice A3 cs.length c3]] (by rfl) rfl rfl (by(try simp only[List.map_toArray,List.map_cons,List.map_nil]);rfl) ?_
  refine(rO rt cs _ (Ld.out.later hx.b).kr (Ld.out.later hx.b).kc hrt hcs).mono ?_
  rintro e_ wc ⟨⟨va,vb,rfl,hr0,hr1⟩,hbx⟩
  have hsn:=hx.c1 hbx hr0 hr1
  refine⟨_,rfl,hK.out _ _ ⟨(by simpa using (Ld.out.later hsn.b).bx.cell 2),(by simpa using (Ld.out.later hsn.b).bx.cell 3),(by simpa using (Ld.out.later hsn.b).bx.cell 6)⟩ (λ_=>?_)⟩
  clear hK K
  have hfin:=H11 (va,vb,x.2.2.1,x.2.2.2) wc hsn
  refine bH ?_ hfin
  simp only[bz,Act.put,sb0,sb1,dD]
 case h21=>
  rintro⟨va,vb,vp,g⟩ W hx
  refine bH (by simp only[bz,Act.put,sb0,sb1,dD];rfl) ?_
  obtain⟨hb,h1,h2,h3⟩:=hx
  obtain⟨r0,r1⟩:=h1 rfl
  have r2:=h2 rfl
  obtain⟨bg,hg⟩:=h3 rfl
  dsimp only at r0 r1 r2 bg hg ⊢
  clear h1 h2 h3
  obtain⟨V0,n0,v0,rfl⟩:=iy r0
  obtain⟨V1,n1,v1,rfl⟩:=iy r1
  refine dE (i:=7) (N:=none) #[I,I,I,I,I,I,I,I,O] rfl rfl (aI ak.out (by kernel_rfl)) (by decide) (λK hK=>?_)
  have BV:W.cell? ⟨g,0,none⟩=some (.slice none 0 0):=by simpa using bg.cell 0
  have BU:W.cell? ⟨g,1,none⟩=some (.slice none 0 0):=by simpa using bg.cell 1
  have BS:=bg.frozen 0
  have BQ:=bg.frozen 1
  refine gW (w1:=?_) (by rfl) rfl ?_ ?_
  rotate_left
  .go_simp
   rfl
  refine hK.out _ _ ?_
  clear hK K BV BU BS BQ
  refine aZ 8 14 #[I,I,I,I,I,I,I,I,I] ak (h:=?_)
  refine dK (bG ak.out (by kernel_rfl)) ?_
  refine hK _ _ ?_
  obtain⟨Pp,np,pp,rfl⟩:=iy r2
  have hg2:wd.heap.size<=g:=hg
  have hbW:=(hb.setCell (p:=⟨g,0,none⟩) hg2 (.slice V0 n0 v0)).setCell (p:=⟨g,1,none⟩) hg2 (.slice V1 n1 v1)
  have BK:aR _ g [.slice V0 n0 v0,.slice V1 n1 v1] 80:=df (df bg 0 (.slice V0 n0 v0)) 1 (.slice V1 n1 v1)
  have s0:=Kd.dx (Kd.dx r0 (p:=⟨g,0,none⟩) (λk hk=>hk rfl) (.slice V0 n0 v0)) (p:=⟨g,1,none⟩) (λk hk=>hk rfl) (.slice V1 n1 v1)
  have s1:=Kd.dx (Kd.dx r1 (p:=⟨g,0,none⟩) (λk hk=>hk rfl) (.slice V0 n0 v0)) (p:=⟨g,1,none⟩) (λk hk=>hk rfl) (.slice V1 n1 v1)
  have s2:=Kd.dx (Kd.dx r2 (p:=⟨g,0,none⟩) (λk hk=>hk rfl) (.slice V0 n0 v0)) (p:=⟨g,1,none⟩) (λk hk=>hk rfl) (.slice V1 n1 v1)
  obtain⟨rfl,hd0,hC0⟩:=Kd.dL s0
  obtain⟨rfl,hd1,Ty⟩:=Kd.dL s1
  obtain⟨rfl,hd2,hC2⟩:=Kd.dL s2
  have L2:=Ld.out.later hbW
  have LZ:=aa.mk (show LQ w0 _ l0 l1 W_ R R2 rt cs tw tr kg ps pl PL fr jH limit many b8 b11 b12 g A0 A1 A2 A3 A4 A5 A6 A7 Y0 Y1 Z0 Z1 V0 V1 T1 Pp c0 c1 c2 c3 c4 c5 c6 c7 y0 y1 z0 z1 v0 v1 t1 pp from⟨L2.below,L2.bx,L2.m8,M11.out.below hbW,M12.out.below hbW,BK,I11.out.below hbW,I12.out.below hbW,hC0,Ty,L2.kw,L2.kt,L2.ku,L2.ks,hC2⟩)
  have hE:=HE.out
  have hPl:PL.length<1000000:=by rw[<- HP.out,List.length_map];omega
  have hSh:sO PL:=by rw[<- HP.out];exact FZ.out.short
  clear L2 hC0 Ty hC2 s0 s1 s2 BK hbW
  refine agH _ ?_ LZ.out hPl hSh hE.pr hE.fa hE.re hE.fe hE.le hd0 hd1 hrt hcs ug htr OP Gg hps hE.ti hE.bo hE.wa hE.tu hE.ch
  rfl
end Go.Proofs.YtkjoilgpmngndaaGreat.Wk
