import Derived.Test.YtkjoilgpmngndaaGreatQ40
set_option linter.all false
namespace Go.Proofs.YtkjoilgpmngndaaGreat.Wk
open Go.RowKit Go.Shelf au YtkjoilgpmngndaaGreatW.aj YtkjoilgpmngndaaGreatW.aJ YtkjoilgpmngndaaGreatW.ek
def Wi.T4:Bool×List (List Nat×List Nat):=(true,[([],[]),([0],[0]),([1],[1]),([2],[2]),([],[]),([4],[4]),([5],[5]),([],[]),([],[]),([8],[8]),([9],[9]),([7,10],[7,10]),([6,11],[6,11]),([],[]),([],[]),([13,3,11,0,1,2,3,13,14],[3,13]),([14,12,15,0,1,2,3,4,5,6,7,8,9,10,11,12,13,14,15],[12,14])])
def Wi.B4:List Nat:=[0,1,3,7,0,16,48,0,0,256,768,1920,4080,0,0,28559,65535]
theorem Wi.yI:dW .any (opsOf Tryz.f4 4)=Wi.T4:=by kernel_rfl
theorem Wi.rC:bJ Wi.T4.2 Wi.B4=true:=by kernel_rfl
theorem Vo{W:World}{base:Nat}(hb:base<=W.heap.size):(Kd.int .i64).R 3 (W.alloc (.cells #[] 3)) base (λk=>k=W.heap.size) (.slice (some ⟨W.heap.size,0,none⟩) 0 0) []:=by
 have h2:=World.ownsRow_lit (base:=base) (e:=3) (size:=1) W #[] 0 hb (by decide) (by simp)
 have h3:(W.alloc (.cells #[] 3)).ownsRow base 3 1 (.slice (some ⟨W.heap.size,0,none⟩) 0 0) 0 []:=by simpa using h2
 refine⟨λk hk=>?_,[],h3,?_⟩
 .have:W.heap.size=k:=by simpa[Value.ownBlock] using hk
  exact this.symm
 .exact⟨by simp,λj p hj=>by simp at hj⟩
structure wR(wd:World)(tr:List Int)(va vt:Value)(g h:Nat)(c1 c2 p q:Bool)(W:World):Prop where
 b:Below wd.heap.size wd W
 f1:c1=true->c2=false->(Kd.int .i64).R 3 W wd.heap.size (λk=>wd.heap.size<=k/\(p=true->k≠g)/\(q=true->k≠h)) va []
 f2:c2=true->(Kd.int .i64).R 3 W wd.heap.size (λk=>wd.heap.size<=k/\(p=true->k≠g)/\(q=true->k≠h)) vt tr
 f3:p=true->aR W g [.slice none 0 0,.slice none 0 0] 62/\wd.heap.size<=g
 f4:q=true->aR W h [.slice none 0 0,.slice none 0 0] 66/\wd.heap.size<=h
 f5:p=true->q=true->g≠h
section
variable {wd:World} {tr:List Int} {va vt:Value} {g h:Nat} {b1 b2 p q:Bool} {W W':World}
theorem wR.start(wd:World)(tr:List Int)(va vt:Value)(g h:Nat):wR wd tr va vt g h false false false false wd:=
 ⟨Below.refl _ _,nofun,nofun,nofun,nofun,nofun⟩
theorem wR.later(H:wR wd tr va vt g h b1 b2 p q W)(hb:Below W.heap.size W W'):wR wd tr va vt g h b1 b2 p q W':=
 ⟨H.b.trans (hb.mono H.b.size),λe e2=>Kd.bV (H.f1 e e2) hb,λe=>Kd.bV (H.f2 e) hb,λe=>⟨(H.f3 e).1.below hb,(H.f3 e).2⟩,λe=>⟨(H.f4 e).1.below hb,(H.f4 e).2⟩,H.f5⟩
theorem wR.c1(H:wR wd tr va vt g h false false p q W):wR wd tr (.slice (some ⟨W.heap.size,0,none⟩) 0 0) vt g h true false p q (W.alloc (.cells #[] 3)):=
 have H':=H.later (ae (Below.refl _ _) (.cells #[] 3))
 ⟨H'.b,λ_ _=>Kd.bB (Vo H.b.size) (λk hk=>⟨by rw[hk];exact H.b.size,λe e2=>by have:=(H.f3 e).1.lt;omega,λe e2=>by have:=(H.f4 e).1.lt;omega⟩),nofun,H'.f3,H'.f4,H'.f5⟩
theorem wR.c2{v:Value}(H:wR wd tr va vt g h true false p q W)(hr:(Kd.int .i64).R 3 W' wd.heap.size (λk=>wd.heap.size<=k/\(p=true->k≠g)/\(q=true->k≠h)) v tr)(hb:Below wd.heap.size W W')(hg:W.grownBy W' va.ownBlock):wR wd tr va v g h true true p q W':=
 ⟨H.b.trans hb,nofun,λ_=>hr,λe=>⟨(H.f3 e).1.move (hg.block g (H.f3 e).1.lt (Kd.Sl (H.f1 rfl rfl) (λk hk=>hk.2.1 e))),(H.f3 e).2⟩,λe=>⟨(H.f4 e).1.move (hg.block h (H.f4 e).1.lt (Kd.Sl (H.f1 rfl rfl) (λk hk=>hk.2.2 e))),(H.f4 e).2⟩,H.f5⟩
theorem wR.a4(H:wR wd tr va vt g h b1 b2 false q W):wR wd tr va vt W.heap.size h b1 b2 true q (W.alloc (.cells #[.slice none 0 0,.slice none 0 0] 62)):=
 have H':=H.later (ae (Below.refl _ _) (.cells #[.slice none 0 0,.slice none 0 0] 62))
 have up:∀{v:Value} {xs:List Int},(Kd.int .i64).R 3 W wd.heap.size (λk=>wd.heap.size<=k/\(false=true->k≠g)/\(q=true->k≠h)) v xs->(Kd.int .i64).R 3 (W.alloc (.cells #[.slice none 0 0,.slice none 0 0] 62)) wd.heap.size (λk=>wd.heap.size<=k/\(true=true->k≠W.heap.size)/\(q=true->k≠h)) v xs:=
  λhr=>Kd.bK (Kd.bB (Kd.bE hr) (λk hk=>⟨hk.1.1,λ_=>by have:=hk.2.2.1;omega,hk.1.2.2⟩)) (.cells #[.slice none 0 0,.slice none 0 0] 62)
 ⟨H'.b,λe e2=>up (H.f1 e e2),λe=>up (H.f2 e),λ_=>⟨aR.new W _ _,H.b.size⟩,H'.f4,λ_ e=>by have:=(H.f4 e).1.lt;omega⟩
theorem wR.a5(H:wR wd tr va vt g h b1 b2 p false W):wR wd tr va vt g W.heap.size b1 b2 p true (W.alloc (.cells #[.slice none 0 0,.slice none 0 0] 66)):=
 have H':=H.later (ae (Below.refl _ _) (.cells #[.slice none 0 0,.slice none 0 0] 66))
 have up:∀{v:Value} {xs:List Int},(Kd.int .i64).R 3 W wd.heap.size (λk=>wd.heap.size<=k/\(p=true->k≠g)/\(false=true->k≠h)) v xs->(Kd.int .i64).R 3 (W.alloc (.cells #[.slice none 0 0,.slice none 0 0] 66)) wd.heap.size (λk=>wd.heap.size<=k/\(p=true->k≠g)/\(true=true->k≠W.heap.size)) v xs:=
  λhr=>Kd.bK (Kd.bB (Kd.bE hr) (λk hk=>⟨hk.1.1,hk.1.2.1,λ_=>by have:=hk.2.2.1;omega⟩)) (.cells #[.slice none 0 0,.slice none 0 0] 66)
 ⟨H'.b,λe e2=>up (H.f1 e e2),λe=>up (H.f2 e),H'.f3,λ_=>⟨aR.new W _ _,H.b.size⟩,λe _=>by have:=(H.f3 e).1.lt;omega⟩
end
set_option maxRecDepth 100000 in
set_option maxHeartbeats 40000000 in
theorem agL{w0 w:World}{l0:List vC}{l1:List pO}{rt cs tw tr ps o7 ws:List Int}{pl:List S64}{fr jH limit many:Int}{bf:Nat}{A0 A1 A2 A3 A4 A5 A6 A7 Af Aw:Option Addr}{c0 c1 c2 c3 c4 c5 c6 c7 cf cw:Nat}(a:Act)(ha:a={tmps:=DF (.slice Aw ws.length cw) (.pointer (some ⟨w0.heap.size,0,none⟩)) (.slice Af o7.length cf) (a.tmps.getD 7 undef) (a.tmps.getD 8 undef) (a.tmps.getD 11 undef) (a.tmps.getD 12 undef) (a.tmps.getD 13 undef) (a.tmps.getD 14 undef) (λi=>a.tmps.getD i undef),defers:=[]})
  (hb:Below w0.heap.size w0 w) (bx:aR w w0.heap.size [.slice A0 l0.length c0,.slice A1 l1.length c1,.slice A2 rt.length c2,.slice A3 cs.length c3,.slice A4 tw.length c4,.slice A5 tr.length c5,.slice A6 pl.length c6,.slice A7 ps.length c7,.int .i64 fr,.int .i64 jH,.int .i64 limit,.int .i64 many] 69) (rf:(Kd.int .i64).R 3 w bf (λ_=>True) (.slice Af o7.length cf) o7)
  (k0:Hw.C w0 A0 l0.length l0) (hc0:l0.length<=c0) (k1:Dv.C w0 A1 l1.length l1) (hc1:l1.length<=c1) (kr:(Kd.int .i64).C w0 A2 rt.length rt) (kc:(Kd.int .i64).C w0 A3 cs.length cs) (kw:(Kd.int .i64).C w0 A4 tw.length tw) (kt:(Kd.int .i64).C w0 A5 tr.length tr) (ks:(Kd.int .i64).C w0 A7 ps.length ps) (kp:IX.C w0 A6 pl.length pl)
  (kW:(Kd.int .u16).C w0 Aw ws.length ws) (hcw:ws.length<=cw) (h0:l0.length<=11) (h1:l1.length<=24) (hrt:rt.length<=1000) (hcs:cs.length<=1000) (ug:tw.length<=1000) (htr:tr.length<=1000) (Gg:ps.length<=c7) (hps:ps.length<=1000) (hpl:pl.length<=1000) (hsm:uw pl)
  {s t:Nat->Nat} (hR:Ren l1.length s t) (hT:uu l1.length s o7):Code.wp Tryz.prog (jK 3) (lL w0) a w:=by
 have HB:=aa.mk hb
 have BX:=aa.mk bx
 have RF:=aa.mk rf
 have K0:=aa.mk k0
 have K1:=aa.mk k1
 have KR:=aa.mk kr
 have KC:=aa.mk kc
 have KW:=aa.mk kw
 have KT:=aa.mk kt
 have KS:=aa.mk ks
 have KP:=aa.mk kp
 have KU:=aa.mk kW
 have FZ:=aa.mk hsm
 have HR:=aa.mk hR
 have HT:=aa.mk hT
 clear hb bx rf k0 k1 kr kc kw kt ks kp kW hsm hR hT
 obtain⟨u,hu⟩:∃u:Nat->Value,a={tmps:=DF (.slice Aw ws.length cw) (.pointer (some ⟨w0.heap.size,0,none⟩)) (.slice Af o7.length cf) (u 7) (u 8) (u 11) (u 12) (u 13) (u 14) u,defers:=[]}:=⟨λi=>a.tmps.getD i undef,ha⟩
 clear ha
 subst hu
 unfold DF
 refine dR 3 (by kernel_rfl) (λK hK=>?_)
 unfold jK
 conv=>arg 2;whnf
 unfold lL
 refine dB (n:=17) (S:=λw'=>w'.cell? ⟨w0.heap.size,0,none⟩=some (.slice A0 l0.length c0)/\w'.cell? ⟨w0.heap.size,4,none⟩=some (.slice A4 tw.length c4)/\w'.cell? ⟨w0.heap.size,5,none⟩=some (.slice A5 tr.length c5)) (ds:=[16]) #[O,O,O,O,O,O,O,O,O,O,O,O,O,O,O,O,O] (by kernel_rfl) rfl rfl ⟨(by simpa using BX.out.cell 0),(by simpa using BX.out.cell 4),(by simpa using BX.out.cell 5)⟩ (λhHeld=>?_);refine bu Wi.yI Wi.rC (λak bN=>?_)
 have kV:=aa.mk (BX.out.below (aM (Below.refl _ _)))
 have Da:=aa.mk (aM HB.out)
 have RFd:=aa.mk (Kd.cO RF.out)
 have KTd:=aa.mk (Kd.av KT.out Da.out)
 clear HB BX RF
 generalize w.drew=wd at kV Da RFd KTd hHeld ⊢
 refine aZ 0 99 #[I,O,O,O,O,O,O,O,O,O,O,O,O,O,O,O,O] ak (h:=?_)
 refine aZ 1 100 #[I,I,O,O,O,O,O,O,O,O,O,O,O,O,O,O,O] ak (h:=?_)
 refine dG 2 101 #[I,I,I,O,O,O,O,O,O,O,O,O,O,O,O,O,O] ak bN hHeld (hy:=by(rintro w' ⟨s0,s1,s2⟩;go_simp;with_reducible rfl)) (h:=?_)
 refine aZ 3 102 #[I,I,I,I,O,O,O,O,O,O,O,O,O,O,O,O,O] ak (h:=?_)
 refine aZ 4 103 #[I,I,I,I,I,O,O,O,O,O,O,O,O,O,O,O,O] ak (h:=?_)
 refine aZ 5 104 #[I,I,I,I,I,I,O,O,O,O,O,O,O,O,O,O,O] ak (h:=?_)
 refine dG 6 105 #[I,I,I,I,I,I,I,O,O,O,O,O,O,O,O,O,O] ak bN hHeld (hy:=by(rintro w' ⟨s0,s1,s2⟩;go_simp;with_reducible rfl)) (h:=?_)
 refine aZ 8 107 #[I,I,I,I,I,I,I,O,I,O,O,O,O,O,O,O,O] ak (h:=?_)
 refine aZ 9 108 #[I,I,I,I,I,I,I,O,I,I,O,O,O,O,O,O,O] ak (h:=?_)
 refine dG 10 109 #[I,I,I,I,I,I,I,O,I,I,I,O,O,O,O,O,O] ak bN hHeld (hy:=by(rintro w' ⟨s0,s1,s2⟩;go_simp;with_reducible rfl)) (h:=?_)
 clear hHeld
 refine iI (σ:=Value×(Option Addr×Nat×Nat)×Nat×Nat) 2 #[I,I,I,I,I,I,I,I,I,I,I,I,I,I,I,O,O] (λx=>[(106,x.1),(110,.slice x.2.1.1 x.2.1.2.1 x.2.1.2.2),(111,.agg #[.slice A4 tw.length c4,.slice x.2.1.1 x.2.1.2.1 x.2.1.2.2]),(7,.pointer (some ⟨x.2.2.1,0,none⟩)),(8,.pointer (some ⟨x.2.2.2,0,none⟩))]) (λx w'=>wR wd tr x.1 (.slice x.2.1.1 x.2.1.2.1 x.2.1.2.2) x.2.2.1 x.2.2.2 true true true true w') ?h211 (λLC=>?_)
 rotate_left
 refine iI (σ:=Value×(Option Addr×Nat×Nat)×Nat×Nat) 3 #[I,I,I,I,I,I,I,I,I,I,I,I,I,I,O,O,O] (λx=>[(106,x.1),(110,.slice x.2.1.1 x.2.1.2.1 x.2.1.2.2),(111,.agg #[.slice A4 tw.length c4,.slice x.2.1.1 x.2.1.2.1 x.2.1.2.2]),(7,.pointer (some ⟨x.2.2.1,0,none⟩))]) (λx w'=>wR wd tr x.1 (.slice x.2.1.1 x.2.1.2.1 x.2.1.2.2) x.2.2.1 x.2.2.2 true true true false w') ?h210 (λSN=>?_)
 rotate_left
 refine iI (σ:=Value×(Option Addr×Nat×Nat)×Nat×Nat) 3 #[I,I,I,I,I,I,I,I,I,I,I,I,I,O,I,O,O] (λx=>[(106,x.1),(110,.slice x.2.1.1 x.2.1.2.1 x.2.1.2.2),(111,.agg #[.slice A4 tw.length c4,.slice x.2.1.1 x.2.1.2.1 x.2.1.2.2]),(8,.pointer (some ⟨x.2.2.2,0,none⟩))]) (λx w'=>wR wd tr x.1 (.slice x.2.1.1 x.2.1.2.1 x.2.1.2.2) x.2.2.1 x.2.2.2 true true false true w') ?h201 (λSQ=>?_)
 rotate_left
 refine iI (σ:=Value×(Option Addr×Nat×Nat)×Nat×Nat) 4 #[I,I,I,I,I,I,I,I,I,I,I,O,O,I,I,O,O] (λx=>[(106,x.1),(7,.pointer (some ⟨x.2.2.1,0,none⟩)),(8,.pointer (some ⟨x.2.2.2,0,none⟩))]) (λx w'=>wR wd tr x.1 (.slice x.2.1.1 x.2.1.2.1 x.2.1.2.2) x.2.2.1 x.2.2.2 true false true true w') ?h111 (λLF=>?_)
 rotate_left
 refine iI (σ:=Value×(Option Addr×Nat×Nat)×Nat×Nat) 4 #[I,I,I,I,I,I,I,I,I,I,I,I,I,O,O,O,O] (λx=>[(106,x.1),(110,.slice x.2.1.1 x.2.1.2.1 x.2.1.2.2),(111,.agg #[.slice A4 tw.length c4,.slice x.2.1.1 x.2.1.2.1 x.2.1.2.2])]) (λx w'=>wR wd tr x.1 (.slice x.2.1.1 x.2.1.2.1 x.2.1.2.2) x.2.2.1 x.2.2.2 true true false false w') ?h200 (λZ6=>?_)
 rotate_left
 refine iI (σ:=Value×(Option Addr×Nat×Nat)×Nat×Nat) 5 #[I,I,I,I,I,I,I,I,I,I,I,O,O,I,O,O,O] (λx=>[(106,x.1),(7,.pointer (some ⟨x.2.2.1,0,none⟩))]) (λx w'=>wR wd tr x.1 (.slice x.2.1.1 x.2.1.2.1 x.2.1.2.2) x.2.2.1 x.2.2.2 true false true false w') ?h110 (λSS=>?_)
 rotate_left
 refine iI (σ:=Value×(Option Addr×Nat×Nat)×Nat×Nat) 5 #[I,I,I,I,I,I,I,I,I,I,I,O,O,O,I,O,O] (λx=>[(106,x.1),(8,.pointer (some ⟨x.2.2.2,0,none⟩))]) (λx w'=>wR wd tr x.1 (.slice x.2.1.1 x.2.1.2.1 x.2.1.2.2) x.2.2.1 x.2.2.2 true false false true w') ?h101 (λLG=>?_)
 rotate_left
 refine iI (σ:=Value×(Option Addr×Nat×Nat)×Nat×Nat) 5 #[I,I,I,I,I,I,I,O,I,I,I,O,O,I,I,O,O] (λx=>[(7,.pointer (some ⟨x.2.2.1,0,none⟩)),(8,.pointer (some ⟨x.2.2.2,0,none⟩))]) (λx w'=>wR wd tr x.1 (.slice x.2.1.1 x.2.1.2.1 x.2.1.2.2) x.2.2.1 x.2.2.2 false false true true w') ?h011 (λSX=>?_)
 rotate_left
 refine iI (σ:=Value×(Option Addr×Nat×Nat)×Nat×Nat) 6 #[I,I,I,I,I,I,I,I,I,I,I,O,O,O,O,O,O] (λx=>[(106,x.1)]) (λx w'=>wR wd tr x.1 (.slice x.2.1.1 x.2.1.2.1 x.2.1.2.2) x.2.2.1 x.2.2.2 true false false false w') ?h100 (λSV=>?_)
 rotate_left
 refine iI (σ:=Value×(Option Addr×Nat×Nat)×Nat×Nat) 6 #[I,I,I,I,I,I,I,O,I,I,I,O,O,I,O,O,O] (λx=>[(7,.pointer (some ⟨x.2.2.1,0,none⟩))]) (λx w'=>wR wd tr x.1 (.slice x.2.1.1 x.2.1.2.1 x.2.1.2.2) x.2.2.1 x.2.2.2 false false true false w') ?h010 (λZ7=>?_)
 rotate_left
 refine iI (σ:=Value×(Option Addr×Nat×Nat)×Nat×Nat) 6 #[I,I,I,I,I,I,I,O,I,I,I,O,O,O,I,O,O] (λx=>[(8,.pointer (some ⟨x.2.2.2,0,none⟩))]) (λx w'=>wR wd tr x.1 (.slice x.2.1.1 x.2.1.2.1 x.2.1.2.2) x.2.2.1 x.2.2.2 false false false true w') ?h001 (λZ8=>?_)
 rotate_left
 obtain⟨x,hx⟩:∃x:Value×(Option Addr×Nat×Nat)×Nat×Nat,wR wd tr x.1 (.slice x.2.1.1 x.2.1.2.1 x.2.1.2.2) x.2.2.1 x.2.2.2 false false false false wd:=⟨(undef,(none,0,0),0,0),wR.start _ _ _ _ _ _⟩
 refine EF (i:=7) (j:=13) (k:=14) (Ni:=some 106) (Nj:=some 7) (Nk:=some 8) #[I,I,I,I,I,I,I,I,I,I,I,O,O,O,O,O,O] #[I,I,I,I,I,I,I,O,I,I,I,O,O,I,O,O,O] #[I,I,I,I,I,I,I,O,I,I,I,O,O,O,I,O,O] rfl rfl rfl rfl rfl rfl (xg ak.out (by kernel_rfl)) (by decide) (by decide) (by decide) (λK hK=>?_) (λK hK=>?_) (λK hK=>?_)
 .refine bT (w1:=?_) (v:=?_) (by rfl) rfl ?_ ?_
  rotate_left 2
  .go_simp
   constructor<;>rfl
  have hsn:=hx.c1
  refine hK.out _ _ ⟨(by simpa using (kV.out.below hsn.b).cell 0),(by simpa using (kV.out.below hsn.b).cell 4),(by simpa using (kV.out.below hsn.b).cell 5)⟩ (λ_=>?_)
  clear hK K
  have hfin:=SV (.slice (some ⟨wd.heap.size,0,none⟩) 0 0,x.2.1,x.2.2.1,x.2.2.2) _ hsn
  refine bH ?_ hfin
  simp only[bz,Act.put,sb0,sb1,dD]
 .refine bT (w1:=?_) (v:=?_) (by rfl) rfl ?_ ?_
  rotate_left 2
  .go_simp
   constructor<;>rfl
  have hsn:=hx.a4
  refine hK.out _ _ ⟨(by simpa using (kV.out.below hsn.b).cell 0),(by simpa using (kV.out.below hsn.b).cell 4),(by simpa using (kV.out.below hsn.b).cell 5)⟩ (λ_=>?_)
  clear hK K
  have hfin:=Z7 (x.1,x.2.1,wd.heap.size,x.2.2.2) _ hsn
  refine bH ?_ hfin
  simp only[bz,Act.put,sb0,sb1,dD]
 .refine bT (w1:=?_) (v:=?_) (by rfl) rfl ?_ ?_
  rotate_left 2
  .go_simp
   constructor<;>rfl
  have hsn:=hx.a5
  refine hK.out _ _ ⟨(by simpa using (kV.out.below hsn.b).cell 0),(by simpa using (kV.out.below hsn.b).cell 4),(by simpa using (kV.out.below hsn.b).cell 5)⟩ (λ_=>?_)
  clear hK K
  have hfin:=Z8 (x.1,x.2.1,x.2.2.1,wd.heap.size) _ hsn
  refine bH ?_ hfin
  simp only[bz,Act.put,sb0,sb1,dD]
 case h210=>
  intro x W hx
  refine bH (by simp only[bz,Act.put,sb0,sb1,dD];rfl) ?_
  refine dO (i:=14) (N:=some 8) #[I,I,I,I,I,I,I,I,I,I,I,I,I,I,I,O,O] rfl rfl (aI ak.out (by kernel_rfl)) (by decide) (λK hK=>?_)
  refine bT (w1:=?_) (v:=?_) (by rfl) rfl ?_ ?_
  rotate_left 2
  .go_simp
   constructor<;>rfl
  have hsn:=hx.a5
  refine hK.out _ _ ⟨(by simpa using (kV.out.below hsn.b).cell 0),(by simpa using (kV.out.below hsn.b).cell 4),(by simpa using (kV.out.below hsn.b).cell 5)⟩ (λ_=>?_)
  clear hK K
  have hfin:=LC (x.1,x.2.1,x.2.2.1,W.heap.size) _ hsn
  refine bH ?_ hfin
  simp only[bz,Act.put,sb0,sb1,dD]
 case h201=>
  intro x W hx
  refine bH (by simp only[bz,Act.put,sb0,sb1,dD];rfl) ?_
  refine dO (i:=13) (N:=some 7) #[I,I,I,I,I,I,I,I,I,I,I,I,I,I,I,O,O] rfl rfl (aI ak.out (by kernel_rfl)) (by decide) (λK hK=>?_)
  refine bT (w1:=?_) (v:=?_) (by rfl) rfl ?_ ?_
  rotate_left 2
  .go_simp
   constructor<;>rfl
  have hsn:=hx.a4
  refine hK.out _ _ ⟨(by simpa using (kV.out.below hsn.b).cell 0),(by simpa using (kV.out.below hsn.b).cell 4),(by simpa using (kV.out.below hsn.b).cell 5)⟩ (λ_=>?_)
  clear hK K
  have hfin:=LC (x.1,x.2.1,W.heap.size,x.2.2.2) _ hsn
  refine bH ?_ hfin
  simp only[bz,Act.put,sb0,sb1,dD]
 case h111=>
  intro x W hx
  refine bH (by simp only[bz,Act.put,sb0,sb1,dD];rfl) ?_
  refine dO (i:=11) (N:=some 110) #[I,I,I,I,I,I,I,I,I,I,I,I,O,I,I,O,O] rfl rfl (aI ak.out (by kernel_rfl)) (by decide) (λK hK=>?_)
  refine Kd.bO (Kd.int .i64) (w0:=W) wd.heap.size (by rfl) (.tmp 106) (.tmp 109) 22 3 (.int .i64 0) 8 rfl Tryz.underlying22 info3 rfl (by decide) (by decide) x.1 [] tr A5 tr.length c5 (λk=>wd.heap.size<=k/\(true=true->k≠x.2.2.1)/\(true=true->k≠x.2.2.2)) (λ_=>False) rfl rfl (hx.f1 rfl rfl) (Kd.av KTd.out hx.b) (λx cs h=>h) (λ_ hk=>hk.elim) (λk hk=>⟨Nat.le_trans hx.b.size hk,λe e2=>by have:=(hx.f3 e).1.lt;omega,λe e2=>by have:=(hx.f4 e).1.lt;omega⟩) (Below.refl _ _) hx.b.size (by simp only[List.length_nil];omega) ?_
  intro vn wn hon hbn hgn fP
  obtain⟨An,nn,cn,rfl⟩:=iy hon
  have hsn:=hx.c2 hon hbn hgn
  refine hK.out _ _ ⟨(by simpa using (kV.out.below hsn.b).cell 0),(by simpa using (kV.out.below hsn.b).cell 4),(by simpa using (kV.out.below hsn.b).cell 5)⟩ (λ_=>?_)
  clear hK K
  refine iY ?_
  refine aZ 12 111 #[I,I,I,I,I,I,I,I,I,I,I,I,I,I,I,O,O] ak (h:=?_)
  have hfin:=LC (x.1,(An,nn,cn),x.2.2.1,x.2.2.2) _ hsn
  refine bH ?_ hfin
  simp only[bz,Act.put,sb0,sb1,dD]
  rfl
 case h200=>
  intro x W hx
  refine bH (by simp only[bz,Act.put,sb0,sb1,dD];rfl) ?_
  refine qO (i:=13) (j:=14) (Ni:=some 7) (Nj:=some 8) #[I,I,I,I,I,I,I,I,I,I,I,I,I,I,O,O,O] #[I,I,I,I,I,I,I,I,I,I,I,I,I,O,I,O,O] rfl rfl rfl rfl (jG ak.out (by kernel_rfl)) (by decide) (by decide) (λK hK=>?_) (λK hK=>?_)
  .refine bT (w1:=?_) (v:=?_) (by rfl) rfl ?_ ?_
   rotate_left 2
   .go_simp
    constructor<;>rfl
   have hsn:=hx.a4
   refine hK.out _ _ ⟨(by simpa using (kV.out.below hsn.b).cell 0),(by simpa using (kV.out.below hsn.b).cell 4),(by simpa using (kV.out.below hsn.b).cell 5)⟩ (λ_=>?_)
   clear hK K
   have hfin:=SN (x.1,x.2.1,W.heap.size,x.2.2.2) _ hsn
   refine bH ?_ hfin
   simp only[bz,Act.put,sb0,sb1,dD]
  .refine bT (w1:=?_) (v:=?_) (by rfl) rfl ?_ ?_
   rotate_left 2
   .go_simp
    constructor<;>rfl
   have hsn:=hx.a5
   refine hK.out _ _ ⟨(by simpa using (kV.out.below hsn.b).cell 0),(by simpa using (kV.out.below hsn.b).cell 4),(by simpa using (kV.out.below hsn.b).cell 5)⟩ (λ_=>?_)
   clear hK K
   have hfin:=SQ (x.1,x.2.1,x.2.2.1,W.heap.size) _ hsn
   refine bH ?_ hfin
   simp only[bz,Act.put,sb0,sb1,dD]
 case h110=>
  intro x W hx
  refine bH (by simp only[bz,Act.put,sb0,sb1,dD];rfl) ?_
  refine qO (i:=11) (j:=14) (Ni:=some 110) (Nj:=some 8) #[I,I,I,I,I,I,I,I,I,I,I,I,O,I,O,O,O] #[I,I,I,I,I,I,I,I,I,I,I,O,O,I,I,O,O] rfl rfl rfl rfl (jG ak.out (by kernel_rfl)) (by decide) (by decide) (λK hK=>?_) (λK hK=>?_)
  .refine Kd.bO (Kd.int .i64) (w0:=W) wd.heap.size (by rfl) (.tmp 106) (.tmp 109) 22 3 (.int .i64 0) 8 rfl Tryz.underlying22 info3 rfl (by decide) (by decide) x.1 [] tr A5 tr.length c5 (λk=>wd.heap.size<=k/\(true=true->k≠x.2.2.1)/\(false=true->k≠x.2.2.2)) (λ_=>False) rfl rfl (hx.f1 rfl rfl) (Kd.av KTd.out hx.b) (λx cs h=>h) (λ_ hk=>hk.elim) (λk hk=>⟨Nat.le_trans hx.b.size hk,λe e2=>by have:=(hx.f3 e).1.lt;omega,λe e2=>by have:=(hx.f4 e).1.lt;omega⟩) (Below.refl _ _) hx.b.size (by simp only[List.length_nil];omega) ?_
   intro vn wn hon hbn hgn fP
   obtain⟨An,nn,cn,rfl⟩:=iy hon
   have hsn:=hx.c2 hon hbn hgn
   refine hK.out _ _ ⟨(by simpa using (kV.out.below hsn.b).cell 0),(by simpa using (kV.out.below hsn.b).cell 4),(by simpa using (kV.out.below hsn.b).cell 5)⟩ (λ_=>?_)
   clear hK K
   refine iY ?_
   refine aZ 12 111 #[I,I,I,I,I,I,I,I,I,I,I,I,I,I,O,O,O] ak (h:=?_)
   have hfin:=SN (x.1,(An,nn,cn),x.2.2.1,x.2.2.2) _ hsn
   refine bH ?_ hfin
   simp only[bz,Act.put,sb0,sb1,dD]
   rfl
  .refine bT (w1:=?_) (v:=?_) (by rfl) rfl ?_ ?_
   rotate_left 2
   .go_simp
    constructor<;>rfl
   have hsn:=hx.a5
   refine hK.out _ _ ⟨(by simpa using (kV.out.below hsn.b).cell 0),(by simpa using (kV.out.below hsn.b).cell 4),(by simpa using (kV.out.below hsn.b).cell 5)⟩ (λ_=>?_)
   clear hK K
   have hfin:=LF (x.1,x.2.1,x.2.2.1,W.heap.size) _ hsn
   refine bH ?_ hfin
   simp only[bz,Act.put,sb0,sb1,dD]
 case h101=>
  intro x W hx
  refine bH (by simp only[bz,Act.put,sb0,sb1,dD];rfl) ?_
  refine qO (i:=11) (j:=13) (Ni:=some 110) (Nj:=some 7) #[I,I,I,I,I,I,I,I,I,I,I,I,O,O,I,O,O] #[I,I,I,I,I,I,I,I,I,I,I,O,O,I,I,O,O] rfl rfl rfl rfl (jG ak.out (by kernel_rfl)) (by decide) (by decide) (λK hK=>?_) (λK hK=>?_)
  .refine Kd.bO (Kd.int .i64) (w0:=W) wd.heap.size (by rfl) (.tmp 106) (.tmp 109) 22 3 (.int .i64 0) 8 rfl Tryz.underlying22 info3 rfl (by decide) (by decide) x.1 [] tr A5 tr.length c5 (λk=>wd.heap.size<=k/\(false=true->k≠x.2.2.1)/\(true=true->k≠x.2.2.2)) (λ_=>False) rfl rfl (hx.f1 rfl rfl) (Kd.av KTd.out hx.b) (λx cs h=>h) (λ_ hk=>hk.elim) (λk hk=>⟨Nat.le_trans hx.b.size hk,λe e2=>by have:=(hx.f3 e).1.lt;omega,λe e2=>by have:=(hx.f4 e).1.lt;omega⟩) (Below.refl _ _) hx.b.size (by simp only[List.length_nil];omega) ?_
   intro vn wn hon hbn hgn fP
   obtain⟨An,nn,cn,rfl⟩:=iy hon
   have hsn:=hx.c2 hon hbn hgn
   refine hK.out _ _ ⟨(by simpa using (kV.out.below hsn.b).cell 0),(by simpa using (kV.out.below hsn.b).cell 4),(by simpa using (kV.out.below hsn.b).cell 5)⟩ (λ_=>?_)
   clear hK K
   refine iY ?_
   refine aZ 12 111 #[I,I,I,I,I,I,I,I,I,I,I,I,I,O,I,O,O] ak (h:=?_)
   have hfin:=SQ (x.1,(An,nn,cn),x.2.2.1,x.2.2.2) _ hsn
   refine bH ?_ hfin
   simp only[bz,Act.put,sb0,sb1,dD]
   rfl
  .refine bT (w1:=?_) (v:=?_) (by rfl) rfl ?_ ?_
   rotate_left 2
   .go_simp
    constructor<;>rfl
   have hsn:=hx.a4
   refine hK.out _ _ ⟨(by simpa using (kV.out.below hsn.b).cell 0),(by simpa using (kV.out.below hsn.b).cell 4),(by simpa using (kV.out.below hsn.b).cell 5)⟩ (λ_=>?_)
   clear hK K
   have hfin:=LF (x.1,x.2.1,W.heap.size,x.2.2.2) _ hsn
   refine bH ?_ hfin
   simp only[bz,Act.put,sb0,sb1,dD]
 case h011=>
  intro x W hx
  refine bH (by simp only[bz,Act.put,sb0,sb1,dD];rfl) ?_
  refine dO (i:=7) (N:=some 106) #[I,I,I,I,I,I,I,I,I,I,I,O,O,I,I,O,O] rfl rfl (aI ak.out (by kernel_rfl)) (by decide) (λK hK=>?_)
  refine bT (w1:=?_) (v:=?_) (by rfl) rfl ?_ ?_
  rotate_left 2
  .go_simp
   constructor<;>rfl
  have hsn:=hx.c1
  refine hK.out _ _ ⟨(by simpa using (kV.out.below hsn.b).cell 0),(by simpa using (kV.out.below hsn.b).cell 4),(by simpa using (kV.out.below hsn.b).cell 5)⟩ (λ_=>?_)
  clear hK K
  have hfin:=LF (.slice (some ⟨W.heap.size,0,none⟩) 0 0,x.2.1,x.2.2.1,x.2.2.2) _ hsn
  refine bH ?_ hfin
  simp only[bz,Act.put,sb0,sb1,dD]
 case h100=>
  intro x W hx
  refine bH (by simp only[bz,Act.put,sb0,sb1,dD];rfl) ?_
  refine EF (i:=11) (j:=13) (k:=14) (Ni:=some 110) (Nj:=some 7) (Nk:=some 8) #[I,I,I,I,I,I,I,I,I,I,I,I,O,O,O,O,O] #[I,I,I,I,I,I,I,I,I,I,I,O,O,I,O,O,O] #[I,I,I,I,I,I,I,I,I,I,I,O,O,O,I,O,O] rfl rfl rfl rfl rfl rfl (xg ak.out (by kernel_rfl)) (by decide) (by decide) (by decide) (λK hK=>?_) (λK hK=>?_) (λK hK=>?_)
  .refine Kd.bO (Kd.int .i64) (w0:=W) wd.heap.size (by rfl) (.tmp 106) (.tmp 109) 22 3 (.int .i64 0) 8 rfl Tryz.underlying22 info3 rfl (by decide) (by decide) x.1 [] tr A5 tr.length c5 (λk=>wd.heap.size<=k/\(false=true->k≠x.2.2.1)/\(false=true->k≠x.2.2.2)) (λ_=>False) rfl rfl (hx.f1 rfl rfl) (Kd.av KTd.out hx.b) (λx cs h=>h) (λ_ hk=>hk.elim) (λk hk=>⟨Nat.le_trans hx.b.size hk,λe e2=>by have:=(hx.f3 e).1.lt;omega,λe e2=>by have:=(hx.f4 e).1.lt;omega⟩) (Below.refl _ _) hx.b.size (by simp only[List.length_nil];omega) ?_
   intro vn wn hon hbn hgn fP
   obtain⟨An,nn,cn,rfl⟩:=iy hon
   have hsn:=hx.c2 hon hbn hgn
   refine hK.out _ _ ⟨(by simpa using (kV.out.below hsn.b).cell 0),(by simpa using (kV.out.below hsn.b).cell 4),(by simpa using (kV.out.below hsn.b).cell 5)⟩ (λ_=>?_)
   clear hK K
   refine iY ?_
   refine aZ 12 111 #[I,I,I,I,I,I,I,I,I,I,I,I,I,O,O,O,O] ak (h:=?_)
   have hfin:=Z6 (x.1,(An,nn,cn),x.2.2.1,x.2.2.2) _ hsn
   refine bH ?_ hfin
   simp only[bz,Act.put,sb0,sb1,dD]
   rfl
  .refine bT (w1:=?_) (v:=?_) (by rfl) rfl ?_ ?_
   rotate_left 2
   .go_simp
    constructor<;>rfl
   have hsn:=hx.a4
   refine hK.out _ _ ⟨(by simpa using (kV.out.below hsn.b).cell 0),(by simpa using (kV.out.below hsn.b).cell 4),(by simpa using (kV.out.below hsn.b).cell 5)⟩ (λ_=>?_)
   clear hK K
   have hfin:=SS (x.1,x.2.1,W.heap.size,x.2.2.2) _ hsn
   refine bH ?_ hfin
   simp only[bz,Act.put,sb0,sb1,dD]
  .refine bT (w1:=?_) (v:=?_) (by rfl) rfl ?_ ?_
   rotate_left 2
   .go_simp
    constructor<;>rfl
   have hsn:=hx.a5
   refine hK.out _ _ ⟨(by simpa using (kV.out.below hsn.b).cell 0),(by simpa using (kV.out.below hsn.b).cell 4),(by simpa using (kV.out.below hsn.b).cell 5)⟩ (λ_=>?_)
   clear hK K
   have hfin:=LG (x.1,x.2.1,x.2.2.1,W.heap.size) _ hsn
   refine bH ?_ hfin
   simp only[bz,Act.put,sb0,sb1,dD]
 case h010=>
  intro x W hx
  refine bH (by simp only[bz,Act.put,sb0,sb1,dD];rfl) ?_
  refine qO (i:=7) (j:=14) (Ni:=some 106) (Nj:=some 8) #[I,I,I,I,I,I,I,I,I,I,I,O,O,I,O,O,O] #[I,I,I,I,I,I,I,O,I,I,I,O,O,I,I,O,O] rfl rfl rfl rfl (jG ak.out (by kernel_rfl)) (by decide) (by decide) (λK hK=>?_) (λK hK=>?_)
  .refine bT (w1:=?_) (v:=?_) (by rfl) rfl ?_ ?_
   rotate_left 2
   .go_simp
    constructor<;>rfl
   have hsn:=hx.c1
   refine hK.out _ _ ⟨(by simpa using (kV.out.below hsn.b).cell 0),(by simpa using (kV.out.below hsn.b).cell 4),(by simpa using (kV.out.below hsn.b).cell 5)⟩ (λ_=>?_)
   clear hK K
   have hfin:=SS (.slice (some ⟨W.heap.size,0,none⟩) 0 0,x.2.1,x.2.2.1,x.2.2.2) _ hsn
   refine bH ?_ hfin
   simp only[bz,Act.put,sb0,sb1,dD]
  .refine bT (w1:=?_) (v:=?_) (by rfl) rfl ?_ ?_
   rotate_left 2
   .go_simp
    constructor<;>rfl
   have hsn:=hx.a5
   refine hK.out _ _ ⟨(by simpa using (kV.out.below hsn.b).cell 0),(by simpa using (kV.out.below hsn.b).cell 4),(by simpa using (kV.out.below hsn.b).cell 5)⟩ (λ_=>?_)
   clear hK K
   have hfin:=SX (x.1,x.2.1,x.2.2.1,W.heap.size) _ hsn
   refine bH ?_ hfin
   simp only[bz,Act.put,sb0,sb1,dD]
 case h001=>
  intro x W hx
  refine bH (by simp only[bz,Act.put,sb0,sb1,dD];rfl) ?_
  refine qO (i:=7) (j:=13) (Ni:=some 106) (Nj:=some 7) #[I,I,I,I,I,I,I,I,I,I,I,O,O,O,I,O,O] #[I,I,I,I,I,I,I,O,I,I,I,O,O,I,I,O,O] rfl rfl rfl rfl (jG ak.out (by kernel_rfl)) (by decide) (by decide) (λK hK=>?_) (λK hK=>?_)
  .refine bT (w1:=?_) (v:=?_) (by rfl) rfl ?_ ?_
   rotate_left 2
   .go_simp
    constructor<;>rfl
   have hsn:=hx.c1
   refine hK.out _ _ ⟨(by simpa using (kV.out.below hsn.b).cell 0),(by simpa using (kV.out.below hsn.b).cell 4),(by simpa using (kV.out.below hsn.b).cell 5)⟩ (λ_=>?_)
   clear hK K
   have hfin:=LG (.slice (some ⟨W.heap.size,0,none⟩) 0 0,x.2.1,x.2.2.1,x.2.2.2) _ hsn
   refine bH ?_ hfin
   simp only[bz,Act.put,sb0,sb1,dD]
  .refine bT (w1:=?_) (v:=?_) (by rfl) rfl ?_ ?_
   rotate_left 2
   .go_simp
    constructor<;>rfl
   have hsn:=hx.a4
   refine hK.out _ _ ⟨(by simpa using (kV.out.below hsn.b).cell 0),(by simpa using (kV.out.below hsn.b).cell 4),(by simpa using (kV.out.below hsn.b).cell 5)⟩ (λ_=>?_)
   clear hK K
   have hfin:=SX (x.1,x.2.1,W.heap.size,x.2.2.2) _ hsn
   refine bH ?_ hfin
   simp only[bz,Act.put,sb0,sb1,dD]
 case h211=>
  rintro⟨va,⟨T1,n1,t1⟩,g,h⟩ W hx
  refine bH (by simp only[bz,Act.put,sb0,sb1,dD];rfl) ?_
  obtain⟨hb,h1_,h2_,h3_,h4_,h5_⟩:=hx
  have r2:=h2_ rfl
  obtain⟨bg,hg⟩:=h3_ rfl
  obtain⟨bh,hh⟩:=h4_ rfl
  have hgh:=h5_ rfl rfl
  dsimp only at r2 bg bh hg hh hgh ⊢
  clear h1_ h2_ h3_ h4_ h5_
  have R2_:=aa.mk r2
  have BG_:=aa.mk bg
  have BH_:=aa.mk bh
  have HB_:=aa.mk hb
  clear r2 bg bh hb
  refine dO (i:=15) (N:=none) #[I,I,I,I,I,I,I,I,I,I,I,I,I,I,I,I,O] rfl rfl (aI ak.out (by kernel_rfl)) (by decide) (λK hK=>?_)
  have hbb:=BG_.out
  have BV:W.cell? ⟨g,0,none⟩=some (.slice none 0 0):=by simpa using hbb.cell 0
  have BU:W.cell? ⟨g,1,none⟩=some (.slice none 0 0):=by simpa using hbb.cell 1
  have BS:W.frozen? ⟨g,0,none⟩=false:=hbb.frozen 0
  have BQ:W.frozen? ⟨g,1,none⟩=false:=hbb.frozen 1
  clear hbb
  refine gW (w1:=?_) (by rfl) rfl ?_ ?_
  rotate_left
  .go_simp
   rfl
  have YS:=(HB_.out.setCell (p:=⟨g,0,none⟩) hg (.slice A0 l0.length c0)).setCell (p:=⟨g,1,none⟩) hg (.slice none 0 0)
  refine hK.out _ _ ⟨(by simpa using (kV.out.below YS).cell 0),(by simpa using (kV.out.below YS).cell 4),(by simpa using (kV.out.below YS).cell 5)⟩ (λ_=>?_)
  clear hK K BV BU BS BQ
  refine dE (i:=16) (N:=none) #[I,I,I,I,I,I,I,I,I,I,I,I,I,I,I,I,I] rfl rfl (aI ak.out (by kernel_rfl)) (by decide) (λK hK=>?_)
  have hbb:=(show aR ((W.setCell ⟨g,0,none⟩ (.slice A0 l0.length c0)).setCell ⟨g,1,none⟩ (.slice none 0 0)) h _ _ from dw (dw BH_.out (p:=⟨g,0,none⟩) (Ne.symm hgh) (.slice A0 l0.length c0)) (p:=⟨g,1,none⟩) (Ne.symm hgh) (.slice none 0 0))
  have BV:((W.setCell ⟨g,0,none⟩ (.slice A0 l0.length c0)).setCell ⟨g,1,none⟩ (.slice none 0 0)).cell? ⟨h,0,none⟩=some (.slice none 0 0):=by simpa using hbb.cell 0
  have BU:((W.setCell ⟨g,0,none⟩ (.slice A0 l0.length c0)).setCell ⟨g,1,none⟩ (.slice none 0 0)).cell? ⟨h,1,none⟩=some (.slice none 0 0):=by simpa using hbb.cell 1
  have BS:((W.setCell ⟨g,0,none⟩ (.slice A0 l0.length c0)).setCell ⟨g,1,none⟩ (.slice none 0 0)).frozen? ⟨h,0,none⟩=false:=hbb.frozen 0
  have BQ:((W.setCell ⟨g,0,none⟩ (.slice A0 l0.length c0)).setCell ⟨g,1,none⟩ (.slice none 0 0)).frozen? ⟨h,1,none⟩=false:=hbb.frozen 1
  obtain⟨w2_,Kj⟩:∃x,((W.setCell ⟨g,0,none⟩ (.slice A0 l0.length c0)).setCell ⟨g,1,none⟩ (.slice none 0 0))=x:=⟨_,rfl⟩
  have HWN:=aa.mk Kj
  rw[Kj] at BV BU BS BQ hbb ⊢
  clear Kj
  clear hbb
  refine gW (w1:=?_) (by rfl) rfl ?_ ?_
  rotate_left
  .go_simp
   rfl
  refine hK.out _ _ ?_
  clear hK K BV BU BS BQ
  refine dK (bG ak.out (by kernel_rfl)) ?_
  have hwn:=HWN.out
  subst hwn
  have r2:=R2_.out
  have bg:=BG_.out
  have bh:=BH_.out
  have hb:=HB_.out
  refine hK _ _ ?_
  obtain⟨rfl,hd,hC⟩:=Kd.dL r2
  have hbN:=(((hb.setCell (p:=⟨g,0,none⟩) hg (.slice A0 l0.length c0)).setCell (p:=⟨g,1,none⟩) hg (.slice none 0 0)).setCell (p:=⟨h,0,none⟩) hh (.slice A4 tw.length c4)).setCell (p:=⟨h,1,none⟩) hh (.slice T1 tr.length t1)
  have m7:aR _ g [.slice A0 l0.length c0,.slice none 0 0] 62:=dw (dw (df (df bg 0 (.slice A0 l0.length c0)) 1 (.slice none 0 0)) (p:=⟨h,0,none⟩) hgh (.slice A4 tw.length c4)) (p:=⟨h,1,none⟩) hgh (.slice T1 tr.length t1)
  have m8:aR _ h [.slice A4 tw.length c4,.slice T1 tr.length t1] 66:=df (df (dw (dw bh (p:=⟨g,0,none⟩) (Ne.symm hgh) (.slice A0 l0.length c0)) (p:=⟨g,1,none⟩) (Ne.symm hgh) (.slice none 0 0)) 0 (.slice A4 tw.length c4)) 1 (.slice T1 tr.length t1)
  have rT:=Kd.dx (Kd.dx (Kd.dx (Kd.dx r2 (p:=⟨g,0,none⟩) (λk hk=>hk.2.1 rfl) (.slice A0 l0.length c0)) (p:=⟨g,1,none⟩) (λk hk=>hk.2.1 rfl) (.slice none 0 0)) (p:=⟨h,0,none⟩) (λk hk=>hk.2.2 rfl) (.slice A4 tw.length c4)) (p:=⟨h,1,none⟩) (λk hk=>hk.2.2 rfl) (.slice T1 tr.length t1)
  generalize(((W.setCell ⟨g,0,none⟩ (.slice A0 l0.length c0)).setCell ⟨g,1,none⟩ (.slice none 0 0)).setCell ⟨h,0,none⟩ (.slice A4 tw.length c4)).setCell ⟨h,1,none⟩ (.slice T1 tr.length t1)=wn at hbN m7 m8 rT ⊢
  have hxd:=kV.out.lt
  have hsz:=hbN.size
  have hgl:=m7.lt
  have hhl:=m8.lt
  have hown:∀k,(Value.slice T1 tr.length t1).ownBlock=some k->wd.heap.size<=k/\k≠g/\k≠h/\k<wn.heap.size:=λk hk=>by
   have h1:=rT.1 k hk
   have h2:=(Kd.bE rT).1 k hk
   exact⟨h1.1,h1.2.1 rfl,h1.2.2 rfl,h2.2.2.1⟩
  have LPn:=aa.mk (show LP w0 wn wn.heap.size g h bf wd.heap.size (.slice A0 l0.length c0) (.slice A4 tw.length c4) (.slice Af o7.length cf) (.slice none 0 0) (.slice T1 tr.length t1) o7 tr (λk=>wn.heap.size<=k) [] [.slice A0 l0.length c0,.slice A1 l1.length c1,.slice A2 rt.length c2,.slice A3 cs.length c3,.slice A4 tw.length c4,.slice A5 tr.length c5,.slice A6 pl.length c6,.slice A7 ps.length c7,.int .i64 fr,.int .i64 jH,.int .i64 limit,.int .i64 many] from
   ⟨Da.out.trans (hbN.mono Da.out.size),m7,m8,Kd.bB (Kd.bV (Kd.bE RFd.out) hbN) (λk hk=>⟨by have:=hk.2.2.1;omega,by have:=hk.2.2.1;omega,λe=>by have:=(hown k e.symm).1;have:=hk.2.2.1;omega⟩),Kd.iK _ _ _ _ _,Kd.ym rfl rT,λ_ hk=>hk,Nat.le_refl _,by omega,kV.out.below hbN,⟨by omega,hgl⟩,⟨hhl,hgh,by omega⟩,λk hk=>by have:=hown k hk;exact⟨by omega,this.2.2.2,this.2.1,this.2.2.1⟩⟩)
  clear hbN m7 m8 rT hown hC hd hxd hsz hgl hhl
  refine agK _ ?_ LPn.out K0.out hc0 K1.out hc1 KR.out KC.out KW.out KT.out KS.out KP.out KU.out hcw h0 h1 hrt hcs ug htr Gg hps hpl FZ.out HR.out HT.out
  rfl
end Go.Proofs.YtkjoilgpmngndaaGreat.Wk
