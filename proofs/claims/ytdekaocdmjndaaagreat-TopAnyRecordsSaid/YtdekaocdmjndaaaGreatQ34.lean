import Derived.Test.YtdekaocdmjndaaaGreatQ33
set_option linter.all false
namespace Go.Proofs.YtdekaocdmjndaaaGreat
open Go.RowKit Go.Shelf ah YtdekaocdmjndaaaGreatW.aj YtdekaocdmjndaaaGreatW.aH YtdekaocdmjndaaaGreatW.eu Ag
namespace Ag
def lb.Wo:Bool×List (List Nat×List Nat):=(true,[([],[]),([0],[0]),([],[]),([2,1],[2]),([],[]),([4,3],[4]),([],[]),([],[]),([],[]),([6,1,5,0,1,6,7,8],[1,6]),([7,3,9,0,1,2,3,6,7,8,9],[3,7]),([8,5,10,0,1,2,3,4,5,6,7,8,9,10],[5,8])])
def lb.B10:List Nat:=[0,1,0,7,0,31,0,0,0,511,1023,2047]
theorem lb.MF:eB .any (opsOf Tryz.f4 10)=lb.Wo:=by kernel_rfl
theorem lb.Du:bI lb.Wo.2 lb.B10=true:=by kernel_rfl
section
variable {P:Program} {md:Region.Mode} {ops:Array Oper} {Q:Exit->Act->World->Prop} {S:World->Prop} {ds:List Nat}
theorem Jb{i j k m:Nat}{Ni Nj Nk Nm:Option Tmp}{oi oj ok om:Oper}{fuel:Nat}{l:Array Bool}{a:Act}{w:World}(li lj lk lm:Array Bool)(hi:ops[i]?=some oi)(hj:ops[j]?=some oj)(hk:ops[k]?=some ok)(hm:ops[m]?=some om)(Vu:oi.dst=Ni)(Vt:oj.dst=Nj)(YR:ok.dst=Nk)(hNm:om.dst=Nm)
  (hc:(Region.ready md ops l==[i,j,k,m]&&l.setIfInBounds i true==li&&l.setIfInBounds j true==lj&&l.setIfInBounds k true==lk&&l.setIfInBounds m true==lm)=true) (hdi:i ∉ ds) (hdj:j ∉ ds) (hdk:k ∉ ds) (Xg:m ∉ ds)
  (h1:∀K:Act->World->Prop,Shut (∀a' w',S w'->(S w'->aQ P md ops Q S ds fuel li a' w')->K a' w')->if Region.wanted oi (yielded ops a.tmps)=true then Oper.wp P oi a w K Q else K (a.put Ni undef) w)
  (h2:∀K:Act->World->Prop,Shut (∀a' w',S w'->(S w'->aQ P md ops Q S ds fuel lj a' w')->K a' w')->if Region.wanted oj (yielded ops a.tmps)=true then Oper.wp P oj a w K Q else K (a.put Nj undef) w)
  (h3:∀K:Act->World->Prop,Shut (∀a' w',S w'->(S w'->aQ P md ops Q S ds fuel lk a' w')->K a' w')->if Region.wanted ok (yielded ops a.tmps)=true then Oper.wp P ok a w K Q else K (a.put Nk undef) w)
  (h4:∀K:Act->World->Prop,Shut (∀a' w',S w'->(S w'->aQ P md ops Q S ds fuel lm a' w')->K a' w')->if Region.wanted om (yielded ops a.tmps)=true then Oper.wp P om a w K Q else K (a.put Nm undef) w):
  aQ P md ops Q S ds (fuel+1) l a w:=by
 subst Vu Vt YR hNm
 simp only[Bool.and_eq_true,beq_iff_eq] at hc
 obtain⟨⟨⟨⟨h5,h6⟩,h7⟩,h8⟩,h9⟩:=hc
 subst h6 h7 h8 h9
 exact iq h5 (by simp) (bN.cons hi hdi (λK hK=>h1 K hK) (bN.cons hj hdj (λK hK=>h2 K hK) (bN.cons hk hdk (λK hK=>h3 K hK) (bN.cons hm Xg (λK hK=>h4 K hK) bN.nil))))
theorem yE{T:Bool×List (List Nat×List Nat)}{i j k m:Nat}{l li lj lk lm:Array Bool}(hT:eB md ops=T)(h:(qh T.2 l.toList==[i,j,k,m]&&l.toList.set i true==li.toList&&l.toList.set j true==lj.toList&&l.toList.set k true==lk.toList&&l.toList.set m true==lm.toList)=true):
  (Region.ready md ops l==[i,j,k,m]&&l.setIfInBounds i true==li&&l.setIfInBounds j true==lj&&l.setIfInBounds k true==lk&&l.setIfInBounds m true==lm)=true:=by
 simp only[Bool.and_eq_true] at h ⊢
 obtain⟨⟨⟨⟨h1,h2⟩,h3⟩,h4⟩,h5⟩:=h
 subst hT
 exact⟨⟨⟨⟨by rw[ready_eq];exact h1,jM h2⟩,jM h3⟩,jM h4⟩,jM h5⟩
end
structure R4 where
 A0:Option Addr
 n0:Nat
 A1:Option Addr
 n1:Nat
structure PR(wd W:World)(ru:List Ru)(re:List Re)(x:R4):Prop where
 r:wY.R 188 W wd.heap.size (λ_=>True) (.slice x.A0 ru.length x.n0) ru
 e:yf.R 191 W wd.heap.size (λ_=>True) (.slice x.A1 re.length x.n1) re
theorem PR.below{wd W W':World}{ru:List Ru}{re:List Re}{x:R4}(h:PR wd W ru re x)(hb:Below W.heap.size W W'):PR wd W' ru re x:=⟨Kd.dm h.r hb,Kd.dm h.e hb⟩
structure fD(wd:World)(ru su:List Ru)(re gU se:List Re)(x1 x2 x3:R4)(g1 g2 g3:Nat)(c1 c2 c3 p q r:Bool)(W:World):Prop where
 b:Below wd.heap.size wd W
 f1:c1=true->PR wd W ru re x1
 f2:c2=true->PR wd W ru gU x2
 f3:c3=true->PR wd W su se x3
 h1:p=true->aV W g1 [.int .i64 0,.int .i64 0,.slice none 0 0,.slice none 0 0] 67/\wd.heap.size<=g1
 h2:q=true->aV W g2 [.int .i64 0,.int .i64 0,.slice none 0 0,.slice none 0 0] 67/\wd.heap.size<=g2
 h3:r=true->aV W g3 [.int .i64 0,.int .i64 0,.slice none 0 0,.slice none 0 0] 67/\wd.heap.size<=g3
 d12:p=true->q=true->g1≠g2
 d13:p=true->r=true->g1≠g3
 d23:q=true->r=true->g2≠g3
section
variable {wd:World} {ru su:List Ru} {re gU se:List Re} {x1 x2 x3:R4} {g1 g2 g3:Nat} {c1 c2 c3 p q r:Bool} {W W':World}
theorem fD.start(wd:World)(ru su:List Ru)(re gU se:List Re)(x1 x2 x3:R4)(g1 g2 g3:Nat):fD wd ru su re gU se x1 x2 x3 g1 g2 g3 false false false false false false wd:=
 ⟨Below.refl _ _,nofun,nofun,nofun,nofun,nofun,nofun,nofun,nofun,nofun⟩
theorem fD.later(H:fD wd ru su re gU se x1 x2 x3 g1 g2 g3 c1 c2 c3 p q r W)(hb:Below W.heap.size W W'):fD wd ru su re gU se x1 x2 x3 g1 g2 g3 c1 c2 c3 p q r W':=
 ⟨H.b.trans (hb.mono H.b.size),λe=>(H.f1 e).below hb,λe=>(H.f2 e).below hb,λe=>(H.f3 e).below hb,λe=>⟨(H.h1 e).1.below hb,(H.h1 e).2⟩,λe=>⟨(H.h2 e).1.below hb,(H.h2 e).2⟩,λe=>⟨(H.h3 e).1.below hb,(H.h3 e).2⟩,H.d12,H.d13,H.d23⟩
theorem fD.k1(y:R4)(H:fD wd ru su re gU se x1 x2 x3 g1 g2 g3 false c2 c3 p q r W)(hb:Below W.heap.size W W')(hr:PR W W' ru re y):fD wd ru su re gU se y x2 x3 g1 g2 g3 true c2 c3 p q r W':=
 have H':=H.later hb
 ⟨H'.b,λ_=>⟨Kd.dG hr.r H.b.size,Kd.dG hr.e H.b.size⟩,H'.f2,H'.f3,H'.h1,H'.h2,H'.h3,H.d12,H.d13,H.d23⟩
theorem fD.k2(y:R4)(H:fD wd ru su re gU se x1 x2 x3 g1 g2 g3 c1 false c3 p q r W)(hb:Below W.heap.size W W')(hr:PR W W' ru gU y):fD wd ru su re gU se x1 y x3 g1 g2 g3 c1 true c3 p q r W':=
 have H':=H.later hb
 ⟨H'.b,H'.f1,λ_=>⟨Kd.dG hr.r H.b.size,Kd.dG hr.e H.b.size⟩,H'.f3,H'.h1,H'.h2,H'.h3,H.d12,H.d13,H.d23⟩
theorem fD.k3(y:R4)(H:fD wd ru su re gU se x1 x2 x3 g1 g2 g3 c1 c2 false p q r W)(hb:Below W.heap.size W W')(hr:PR W W' su se y):fD wd ru su re gU se x1 x2 y g1 g2 g3 c1 c2 true p q r W':=
 have H':=H.later hb
 ⟨H'.b,H'.f1,H'.f2,λ_=>⟨Kd.dG hr.r H.b.size,Kd.dG hr.e H.b.size⟩,H'.h1,H'.h2,H'.h3,H.d12,H.d13,H.d23⟩
theorem fD.a1(H:fD wd ru su re gU se x1 x2 x3 g1 g2 g3 c1 c2 c3 false q r W):fD wd ru su re gU se x1 x2 x3 W.heap.size g2 g3 c1 c2 c3 true q r (W.alloc (.cells #[.int .i64 0,.int .i64 0,.slice none 0 0,.slice none 0 0] 67)):=
 have H':=H.later (ae (Below.refl _ _) (.cells #[.int .i64 0,.int .i64 0,.slice none 0 0,.slice none 0 0] 67))
 ⟨H'.b,H'.f1,H'.f2,H'.f3,λ_=>⟨aV.new W _ _,H.b.size⟩,H'.h2,H'.h3,λ_ e=>by have:=(H.h2 e).1.lt;omega,λ_ e=>by have:=(H.h3 e).1.lt;omega,H.d23⟩
theorem fD.a2(H:fD wd ru su re gU se x1 x2 x3 g1 g2 g3 c1 c2 c3 p false r W):fD wd ru su re gU se x1 x2 x3 g1 W.heap.size g3 c1 c2 c3 p true r (W.alloc (.cells #[.int .i64 0,.int .i64 0,.slice none 0 0,.slice none 0 0] 67)):=
 have H':=H.later (ae (Below.refl _ _) (.cells #[.int .i64 0,.int .i64 0,.slice none 0 0,.slice none 0 0] 67))
 ⟨H'.b,H'.f1,H'.f2,H'.f3,H'.h1,λ_=>⟨aV.new W _ _,H.b.size⟩,H'.h3,λe _=>by have:=(H.h1 e).1.lt;omega,H.d13,λ_ e=>by have:=(H.h3 e).1.lt;omega⟩
theorem fD.a3(H:fD wd ru su re gU se x1 x2 x3 g1 g2 g3 c1 c2 c3 p q false W):fD wd ru su re gU se x1 x2 x3 g1 g2 W.heap.size c1 c2 c3 p q true (W.alloc (.cells #[.int .i64 0,.int .i64 0,.slice none 0 0,.slice none 0 0] 67)):=
 have H':=H.later (ae (Below.refl _ _) (.cells #[.int .i64 0,.int .i64 0,.slice none 0 0,.slice none 0 0] 67))
 ⟨H'.b,H'.f1,H'.f2,H'.f3,H'.h1,H'.h2,λ_=>⟨aV.new W _ _,H.b.size⟩,H.d12,λe _=>by have:=(H.h1 e).1.lt;omega,λe _=>by have:=(H.h2 e).1.lt;omega⟩
end
def y8(W:World)(g:Nat)(a b c d:Value):World:=(((W.setCell ⟨g,0,none⟩ a).setCell ⟨g,1,none⟩ b).setCell ⟨g,2,none⟩ c).setCell ⟨g,3,none⟩ d
theorem zP{W:World}{g:Nat}{z0 z1 z2 z3:Value}{t:TypeId}(h:aV W g [z0,z1,z2,z3] t)(a b c d:Value):aV (y8 W g a b c d) g [a,b,c,d] t:=fV (fV (fV (fV h 0 a) 1 b) 2 c) 3 d
theorem pM{W:World}{g h:Nat}{cs:List Value}{t:TypeId}(hb:aV W h cs t)(hne:h≠g)(a b c d:Value):aV (y8 W g a b c d) h cs t:=dO (dO (dO (dO hb (p:=⟨g,0,none⟩) hne a) (p:=⟨g,1,none⟩) hne b) (p:=⟨g,2,none⟩) hne c) (p:=⟨g,3,none⟩) hne d
theorem uN{w W:World}{g B:Nat}(h:Below B w W)(hg:B<=g)(a b c d:Value):Below B w (y8 W g a b c d):=(((h.setCell (p:=⟨g,0,none⟩) hg a).setCell (p:=⟨g,1,none⟩) hg b).setCell (p:=⟨g,2,none⟩) hg c).setCell (p:=⟨g,3,none⟩) hg d
theorem O9{α:Type}{k:Kd α}{e:TypeId}{W:World}{base g:Nat}{S:Nat->Prop}{v:Value}{xs:List α}(h:k.R e W base S v xs)(hS:∀b,S b->b≠g)(a b c d:Value):k.R e (y8 W g a b c d) base S v xs:=
 Kd.gP (Kd.gP (Kd.gP (Kd.gP h (p:=⟨g,0,none⟩) hS a) (p:=⟨g,1,none⟩) hS b) (p:=⟨g,2,none⟩) hS c) (p:=⟨g,3,none⟩) hS d
structure PS(W:World)(base g1 g2 g3:Nat)(ru:List Ru)(re:List Re)(x:R4):Prop where
 r:wY.R 188 W base (λb=>b≠g1/\b≠g2/\b≠g3) (.slice x.A0 ru.length x.n0) ru
 e:yf.R 191 W base (λb=>b≠g1/\b≠g2/\b≠g3) (.slice x.A1 re.length x.n1) re
theorem PR.ps{wd W:World}{ru:List Ru}{re:List Re}{x:R4}(h:PR wd W ru re x){g1 g2 g3:Nat}(h1:aV W g1 [.int .i64 0,.int .i64 0,.slice none 0 0,.slice none 0 0] 67)(h2:aV W g2 [.int .i64 0,.int .i64 0,.slice none 0 0,.slice none 0 0] 67)(h3:aV W g3 [.int .i64 0,.int .i64 0,.slice none 0 0,.slice none 0 0] 67):PS W wd.heap.size g1 g2 g3 ru re x:=
 ⟨Kd.bM (Kd.iG (Kd.iG (Kd.iG h.r h1 (by decide)) h2 (by decide)) h3 (by decide)) (λb hb=>⟨hb.1.1.2,hb.1.2,hb.2⟩),Kd.bM (Kd.iG (Kd.iG (Kd.iG h.e h1 (by decide)) h2 (by decide)) h3 (by decide)) (λb hb=>⟨hb.1.1.2,hb.1.2,hb.2⟩)⟩
theorem PS.set{W:World}{base g1 g2 g3 g:Nat}{ru:List Ru}{re:List Re}{x:R4}(h:PS W base g1 g2 g3 ru re x)(hg:g=g1\/g=g2\/g=g3)(a b c d:Value):PS (y8 W g a b c d) base g1 g2 g3 ru re x:=
 ⟨O9 h.r (λb hb=>by rcases hg with rfl|rfl|rfl;exact hb.1;exact hb.2.1;exact hb.2.2) a b c d,O9 h.e (λb hb=>by rcases hg with rfl|rfl|rfl;exact hb.1;exact hb.2.1;exact hb.2.2) a b c d⟩
theorem PS.isP{W:World}{base g1 g2 g3:Nat}{ru:List Ru}{re:List Re}{x:R4}(h:PS W base g1 g2 g3 ru re x):Ao W x.A0 x.n0 ru x.A1 x.n1 re:=by
 obtain⟨_,_,e1,h1,h2⟩:=Kd.dB h.r
 obtain⟨_,_,e2,h3,h4⟩:=Kd.dB h.e
 cases e1
 cases e2
 exact⟨h2,h1,h4,h3⟩
structure LX(w0 w:World)(lo hi lo2 hi2:Int)(rr sr:List Qu)(rc xs sc:List Qe)(b11:Nat)(Ar Ac Xc Br Bc:Option Addr)(cr cc xc dr dc:Nat):Prop where
 below:Below w0.heap.size w0 w
 b4:aV w w0.heap.size [.int .i64 lo,.int .i64 hi,.slice Ar rr.length cr,.slice Ac rc.length cc] 59
 b5:aV w (w0.heap.size+1) [.int .i64 lo2,.int .i64 hi2,.slice Br sr.length dr,.slice Bc sc.length dc] 59
 b11:aV w b11 [.int .i64 lo,.int .i64 hi,.slice Ar rr.length cr,.slice Xc xs.length xc] 59
 kr:rD.C w Ar rr.length rr
 kc:AX.C w Ac rc.length rc
 kx:AX.C w Xc xs.length xs
 ks:rD.C w Br sr.length sr
 kq:AX.C w Bc sc.length sc
theorem LX.later{w0 w:World}{lo hi lo2 hi2:Int}{rr sr:List Qu}{rc xs sc:List Qe}{b11:Nat}{Ar Ac Xc Br Bc:Option Addr}{cr cc xc dr dc:Nat}{w':World}(h:LX w0 w lo hi lo2 hi2 rr sr rc xs sc b11 Ar Ac Xc Br Bc cr cc xc dr dc)(hb:Below w.heap.size w w'):LX w0 w' lo hi lo2 hi2 rr sr rc xs sc b11 Ar Ac Xc Br Bc cr cc xc dr dc:=
 ⟨h.below.trans (hb.mono h.below.size),h.b4.below hb,h.b5.below hb,h.b11.below hb,Kd.aC h.kr hb,Kd.aC h.kc hb,Kd.aC h.kx hb,Kd.aC h.ks hb,Kd.aC h.kq hb⟩
theorem uL(lo hi:Int){Ar Ac:Option Addr}{cr cc:Nat}{rr:List Qu}{rc:List Qe}{ru:List Ru}{re:List Re}(W:World)(kr:rD.C W Ar rr.length rr)(hcr:rr.length<=cr)(kc:AX.C W Ac rc.length rc)(hcc:rc.length<=cc)(h0:rr.length<=1000)(h1:rc.length<=1000)(SE:rr.map Mv=ru)(hre:rc.map F9=re):
  Calls Tryz.prog 21 #[.agg #[.int .i64 lo,.int .i64 hi,.slice Ar rr.length cr,.slice Ac rc.length cc]] W λe w'=>∃x:R4,e= .returned (.agg #[.int .i64 lo,.int .i64 hi,.slice x.A0 ru.length x.n0,.slice x.A1 re.length x.n1])/\PR W w' ru re x/\Below W.heap.size W w':=by
 subst SE hre
 refine(aD.calls _ lo hi Ar cr rr Ac cc rc lo hi _ _ W kr hcr kc hcc (M3 lo hi rr rc h0 h1)).mono ?_
 rintro e w' ⟨v2,v3,rfl,h2,h3,hb⟩
 obtain⟨A0,n0,rfl⟩:=Kd.di h2
 obtain⟨A1,n1,rfl⟩:=Kd.di h3
 exact⟨⟨A0,n0,A1,n1⟩,rfl,⟨h2,h3⟩,hb⟩
set_option maxRecDepth 100000 in
set_option maxHeartbeats 80000000 in
theorem adY{w0 w:World}{lo hi lo2 hi2:Int}{rr sr:List Qu}{rc xs sc:List Qe}{b11:Nat}{Ar Ac Xc Br Bc:Option Addr}{cr cc xc dr dc:Nat}(day:Int)(a:Act)(ha:a={tmps:=Rn (.int .i64 day) (a.tmps.getD 3 undef) (.pointer (some ⟨w0.heap.size,0,none⟩)) (.pointer (some ⟨w0.heap.size+1,0,none⟩)) (a.tmps.getD 9 undef) (.pointer (some ⟨b11,0,none⟩)) (a.tmps.getD 13 undef) (a.tmps.getD 14 undef) (a.tmps.getD 15 undef) (λi=>a.tmps.getD i undef),defers:=[]})(L:LX w0 w lo hi lo2 hi2 rr sr rc xs sc b11 Ar Ac Xc Br Bc cr cc xc dr dc)(hcr:rr.length<=cr)(hcc:rc.length<=cc)(hxc:xs.length<=xc)(hdr:sr.length<=dr)(Q9:sc.length<=dc)
  (s1:rr.length<=1000) (s2:rc.length<=1000) (s3:xs.length<=1000) (s4:sr.length<=1000) (s5:sc.length<=1000) (hp:xs.Perm rc):Code.wp Tryz.prog (kI 6) (rC w0) a w:=by
 have HL:=aa.mk L
 clear L
 obtain⟨ru,SE⟩:∃x,rr.map Mv=x:=⟨_,rfl⟩
 obtain⟨su,hsu⟩:∃x,sr.map Mv=x:=⟨_,rfl⟩
 obtain⟨re,hre⟩:∃x,rc.map F9=x:=⟨_,rfl⟩
 obtain⟨gU,U4⟩:∃x,xs.map F9=x:=⟨_,rfl⟩
 obtain⟨se,hse⟩:∃x,sc.map F9=x:=⟨_,rfl⟩
 have HT:=aa.mk (show wD (⟨⟨lo,hi⟩,ru,re⟩:fe) (⟨⟨lo,hi⟩,ru,gU⟩:fe) from⟨rfl,rfl,by rw[<- hre,<- U4];exact(hp.map _).symm⟩)
 have wL:=aa.mk (λ(W:World) (L:LX w0 W lo hi lo2 hi2 rr sr rc xs sc b11 Ar Ac Xc Br Bc cr cc xc dr dc)=>uL lo hi W L.kr hcr L.kc hcc s1 s2 SE hre)
 have FZ:=aa.mk (λ(W:World) (L:LX w0 W lo hi lo2 hi2 rr sr rc xs sc b11 Ar Ac Xc Br Bc cr cc xc dr dc)=>uL lo hi W L.kr hcr L.kx hxc s1 s3 SE U4)
 have FO:=aa.mk (λ(W:World) (L:LX w0 W lo hi lo2 hi2 rr sr rc xs sc b11 Ar Ac Xc Br Bc cr cc xc dr dc)=>uL lo2 hi2 W L.ks hdr L.kq Q9 s4 s5 hsu hse)
 clear hp hcr hcc hxc hdr Q9 s1 s2 s3 s4 s5 SE hsu hre U4 hse
 obtain⟨u,hu⟩:∃u:Nat->Value,a={tmps:=Rn (.int .i64 day) (u 3) (.pointer (some ⟨w0.heap.size,0,none⟩)) (.pointer (some ⟨w0.heap.size+1,0,none⟩)) (u 9) (.pointer (some ⟨b11,0,none⟩)) (u 13) (u 14) (u 15) u,defers:=[]}:=⟨λi=>a.tmps.getD i undef,ha⟩
 clear ha
 subst hu
 unfold Rn
 refine fw 6 (by kernel_rfl) (λK hK=>?_)
 unfold kI
 conv=>arg 2;whnf
 unfold rC
 refine fF (n:=12) (S:=λw'=>w'.cell? ⟨w0.heap.size,0,none⟩=some (.int .i64 lo)/\w'.cell? ⟨w0.heap.size,1,none⟩=some (.int .i64 hi)/\w'.cell? ⟨w0.heap.size,2,none⟩=some (.slice Ar rr.length cr)/\w'.cell? ⟨w0.heap.size,3,none⟩=some (.slice Ac rc.length cc)/\w'.cell? ⟨b11,0,none⟩=some (.int .i64 lo)/\w'.cell? ⟨b11,1,none⟩=some (.int .i64 hi)/\w'.cell? ⟨b11,2,none⟩=some (.slice Ar rr.length cr)/\w'.cell? ⟨b11,3,none⟩=some (.slice Xc xs.length xc)/\w'.cell? ⟨w0.heap.size+1,0,none⟩=some (.int .i64 lo2)/\w'.cell? ⟨w0.heap.size+1,1,none⟩=some (.int .i64 hi2)/\w'.cell? ⟨w0.heap.size+1,2,none⟩=some (.slice Br sr.length dr)/\w'.cell? ⟨w0.heap.size+1,3,none⟩=some (.slice Bc sc.length dc)) (ds:=[9,10,11]) #[O,O,O,O,O,O,O,O,O,O,O,O] (by kernel_rfl) rfl rfl ⟨(by simpa using (HL.out).b4.cell 0),(by simpa using (HL.out).b4.cell 1),(by simpa using (HL.out).b4.cell 2),(by simpa using (HL.out).b4.cell 3),(by simpa using (HL.out).b11.cell 0),(by simpa using (HL.out).b11.cell 1),(by simpa using (HL.out).b11.cell 2),(by simpa using (HL.out).b11.cell 3),(by simpa using (HL.out).b5.cell 0),(by simpa using (HL.out).b5.cell 1),(by simpa using (HL.out).b5.cell 2),(by simpa using (HL.out).b5.cell 3)⟩ (λhHeld=>?_);refine bG lb.MF lb.Du (λau cz=>?_)
 have Ld:=aa.mk (HL.out.later (aN (Below.refl _ _)))
 clear HL
 generalize w.drew=wd at Ld hHeld ⊢
 refine fJ 0 74 #[I,O,O,O,O,O,O,O,O,O,O,O] au cz hHeld (hy:=by(rintro w' ⟨s0,s1,s2,s3,s4,s5,s6,s7,s8,s9,s10,s11⟩;go_simp;with_reducible rfl)) (h:=?_)
 refine fJ 2 76 #[I,O,I,O,O,O,O,O,O,O,O,O] au cz hHeld (hy:=by(rintro w' ⟨s0,s1,s2,s3,s4,s5,s6,s7,s8,s9,s10,s11⟩;go_simp;with_reducible rfl)) (h:=?_)
 refine fJ 4 78 #[I,O,I,O,I,O,O,O,O,O,O,O] au cz hHeld (hy:=by(rintro w' ⟨s0,s1,s2,s3,s4,s5,s6,s7,s8,s9,s10,s11⟩;go_simp;with_reducible rfl)) (h:=?_)
 clear hHeld
 refine gD (σ:=R4×R4×R4×Nat×Nat×Nat) 3 #[I,I,I,I,I,I,I,I,I,O,O,O] (λx=>[(75,.agg #[.int .i64 lo,.int .i64 hi,.slice x.1.A0 ru.length x.1.n0,.slice x.1.A1 re.length x.1.n1]),(77,.agg #[.int .i64 lo,.int .i64 hi,.slice x.2.1.A0 ru.length x.2.1.n0,.slice x.2.1.A1 gU.length x.2.1.n1]),(79,.agg #[.int .i64 lo2,.int .i64 hi2,.slice x.2.2.1.A0 su.length x.2.2.1.n0,.slice x.2.2.1.A1 se.length x.2.2.1.n1]),(13,.pointer (some ⟨x.2.2.2.1,0,none⟩)),(14,.pointer (some ⟨x.2.2.2.2.1,0,none⟩)),(15,.pointer (some ⟨x.2.2.2.2.2,0,none⟩))]) (λx w'=>fD wd ru su re gU se x.1 x.2.1 x.2.2.1 x.2.2.2.1 x.2.2.2.2.1 x.2.2.2.2.2 true true true true true true w') ?h3111 (λJH=>?_)
 rotate_left
 refine gD (σ:=R4×R4×R4×Nat×Nat×Nat) 4 #[I,I,I,I,I,O,I,I,I,O,O,O] (λx=>[(75,.agg #[.int .i64 lo,.int .i64 hi,.slice x.1.A0 ru.length x.1.n0,.slice x.1.A1 re.length x.1.n1]),(77,.agg #[.int .i64 lo,.int .i64 hi,.slice x.2.1.A0 ru.length x.2.1.n0,.slice x.2.1.A1 gU.length x.2.1.n1]),(13,.pointer (some ⟨x.2.2.2.1,0,none⟩)),(14,.pointer (some ⟨x.2.2.2.2.1,0,none⟩)),(15,.pointer (some ⟨x.2.2.2.2.2,0,none⟩))]) (λx w'=>fD wd ru su re gU se x.1 x.2.1 x.2.2.1 x.2.2.2.1 x.2.2.2.2.1 x.2.2.2.2.2 true true false true true true w') ?h2111 (λJI=>?_)
 rotate_left
 refine gD (σ:=R4×R4×R4×Nat×Nat×Nat) 4 #[I,I,I,I,I,I,O,I,I,O,O,O] (λx=>[(75,.agg #[.int .i64 lo,.int .i64 hi,.slice x.1.A0 ru.length x.1.n0,.slice x.1.A1 re.length x.1.n1]),(77,.agg #[.int .i64 lo,.int .i64 hi,.slice x.2.1.A0 ru.length x.2.1.n0,.slice x.2.1.A1 gU.length x.2.1.n1]),(79,.agg #[.int .i64 lo2,.int .i64 hi2,.slice x.2.2.1.A0 su.length x.2.2.1.n0,.slice x.2.2.1.A1 se.length x.2.2.1.n1]),(14,.pointer (some ⟨x.2.2.2.2.1,0,none⟩)),(15,.pointer (some ⟨x.2.2.2.2.2,0,none⟩))]) (λx w'=>fD wd ru su re gU se x.1 x.2.1 x.2.2.1 x.2.2.2.1 x.2.2.2.2.1 x.2.2.2.2.2 true true true false true true w') ?h3011 (λPw=>?_)
 rotate_left
 refine gD (σ:=R4×R4×R4×Nat×Nat×Nat) 4 #[I,I,I,I,I,I,I,O,I,O,O,O] (λx=>[(75,.agg #[.int .i64 lo,.int .i64 hi,.slice x.1.A0 ru.length x.1.n0,.slice x.1.A1 re.length x.1.n1]),(77,.agg #[.int .i64 lo,.int .i64 hi,.slice x.2.1.A0 ru.length x.2.1.n0,.slice x.2.1.A1 gU.length x.2.1.n1]),(79,.agg #[.int .i64 lo2,.int .i64 hi2,.slice x.2.2.1.A0 su.length x.2.2.1.n0,.slice x.2.2.1.A1 se.length x.2.2.1.n1]),(13,.pointer (some ⟨x.2.2.2.1,0,none⟩)),(15,.pointer (some ⟨x.2.2.2.2.2,0,none⟩))]) (λx w'=>fD wd ru su re gU se x.1 x.2.1 x.2.2.1 x.2.2.2.1 x.2.2.2.2.1 x.2.2.2.2.2 true true true true false true w') ?h3101 (λPv=>?_)
 rotate_left
 refine gD (σ:=R4×R4×R4×Nat×Nat×Nat) 4 #[I,I,I,I,I,I,I,I,O,O,O,O] (λx=>[(75,.agg #[.int .i64 lo,.int .i64 hi,.slice x.1.A0 ru.length x.1.n0,.slice x.1.A1 re.length x.1.n1]),(77,.agg #[.int .i64 lo,.int .i64 hi,.slice x.2.1.A0 ru.length x.2.1.n0,.slice x.2.1.A1 gU.length x.2.1.n1]),(79,.agg #[.int .i64 lo2,.int .i64 hi2,.slice x.2.2.1.A0 su.length x.2.2.1.n0,.slice x.2.2.1.A1 se.length x.2.2.1.n1]),(13,.pointer (some ⟨x.2.2.2.1,0,none⟩)),(14,.pointer (some ⟨x.2.2.2.2.1,0,none⟩))]) (λx w'=>fD wd ru su re gU se x.1 x.2.1 x.2.2.1 x.2.2.2.1 x.2.2.2.2.1 x.2.2.2.2.2 true true true true true false w') ?h3110 (λPt=>?_)
 rotate_left
 refine gD (σ:=R4×R4×R4×Nat×Nat×Nat) 5 #[I,I,I,O,I,O,I,I,I,O,O,O] (λx=>[(75,.agg #[.int .i64 lo,.int .i64 hi,.slice x.1.A0 ru.length x.1.n0,.slice x.1.A1 re.length x.1.n1]),(13,.pointer (some ⟨x.2.2.2.1,0,none⟩)),(14,.pointer (some ⟨x.2.2.2.2.1,0,none⟩)),(15,.pointer (some ⟨x.2.2.2.2.2,0,none⟩))]) (λx w'=>fD wd ru su re gU se x.1 x.2.1 x.2.2.1 x.2.2.2.1 x.2.2.2.2.1 x.2.2.2.2.2 true false false true true true w') ?h1111 (λJJ=>?_)
 rotate_left
 refine gD (σ:=R4×R4×R4×Nat×Nat×Nat) 5 #[I,I,I,I,I,O,O,I,I,O,O,O] (λx=>[(75,.agg #[.int .i64 lo,.int .i64 hi,.slice x.1.A0 ru.length x.1.n0,.slice x.1.A1 re.length x.1.n1]),(77,.agg #[.int .i64 lo,.int .i64 hi,.slice x.2.1.A0 ru.length x.2.1.n0,.slice x.2.1.A1 gU.length x.2.1.n1]),(14,.pointer (some ⟨x.2.2.2.2.1,0,none⟩)),(15,.pointer (some ⟨x.2.2.2.2.2,0,none⟩))]) (λx w'=>fD wd ru su re gU se x.1 x.2.1 x.2.2.1 x.2.2.2.1 x.2.2.2.2.1 x.2.2.2.2.2 true true false false true true w') ?h2011 (λPz=>?_)
 rotate_left
 refine gD (σ:=R4×R4×R4×Nat×Nat×Nat) 5 #[I,I,I,I,I,O,I,O,I,O,O,O] (λx=>[(75,.agg #[.int .i64 lo,.int .i64 hi,.slice x.1.A0 ru.length x.1.n0,.slice x.1.A1 re.length x.1.n1]),(77,.agg #[.int .i64 lo,.int .i64 hi,.slice x.2.1.A0 ru.length x.2.1.n0,.slice x.2.1.A1 gU.length x.2.1.n1]),(13,.pointer (some ⟨x.2.2.2.1,0,none⟩)),(15,.pointer (some ⟨x.2.2.2.2.2,0,none⟩))]) (λx w'=>fD wd ru su re gU se x.1 x.2.1 x.2.2.1 x.2.2.2.1 x.2.2.2.2.1 x.2.2.2.2.2 true true false true false true w') ?h2101 (λPy=>?_)
 rotate_left
 refine gD (σ:=R4×R4×R4×Nat×Nat×Nat) 5 #[I,I,I,I,I,O,I,I,O,O,O,O] (λx=>[(75,.agg #[.int .i64 lo,.int .i64 hi,.slice x.1.A0 ru.length x.1.n0,.slice x.1.A1 re.length x.1.n1]),(77,.agg #[.int .i64 lo,.int .i64 hi,.slice x.2.1.A0 ru.length x.2.1.n0,.slice x.2.1.A1 gU.length x.2.1.n1]),(13,.pointer (some ⟨x.2.2.2.1,0,none⟩)),(14,.pointer (some ⟨x.2.2.2.2.1,0,none⟩))]) (λx w'=>fD wd ru su re gU se x.1 x.2.1 x.2.2.1 x.2.2.2.1 x.2.2.2.2.1 x.2.2.2.2.2 true true false true true false w') ?h2110 (λPx=>?_)
 rotate_left
 refine gD (σ:=R4×R4×R4×Nat×Nat×Nat) 5 #[I,I,I,I,I,I,O,O,I,O,O,O] (λx=>[(75,.agg #[.int .i64 lo,.int .i64 hi,.slice x.1.A0 ru.length x.1.n0,.slice x.1.A1 re.length x.1.n1]),(77,.agg #[.int .i64 lo,.int .i64 hi,.slice x.2.1.A0 ru.length x.2.1.n0,.slice x.2.1.A1 gU.length x.2.1.n1]),(79,.agg #[.int .i64 lo2,.int .i64 hi2,.slice x.2.2.1.A0 su.length x.2.2.1.n0,.slice x.2.2.1.A1 se.length x.2.2.1.n1]),(15,.pointer (some ⟨x.2.2.2.2.2,0,none⟩))]) (λx w'=>fD wd ru su re gU se x.1 x.2.1 x.2.2.1 x.2.2.2.1 x.2.2.2.2.1 x.2.2.2.2.2 true true true false false true w') ?h3001 (λTU=>?_)
 rotate_left
 refine gD (σ:=R4×R4×R4×Nat×Nat×Nat) 5 #[I,I,I,I,I,I,O,I,O,O,O,O] (λx=>[(75,.agg #[.int .i64 lo,.int .i64 hi,.slice x.1.A0 ru.length x.1.n0,.slice x.1.A1 re.length x.1.n1]),(77,.agg #[.int .i64 lo,.int .i64 hi,.slice x.2.1.A0 ru.length x.2.1.n0,.slice x.2.1.A1 gU.length x.2.1.n1]),(79,.agg #[.int .i64 lo2,.int .i64 hi2,.slice x.2.2.1.A0 su.length x.2.2.1.n0,.slice x.2.2.1.A1 se.length x.2.2.1.n1]),(14,.pointer (some ⟨x.2.2.2.2.1,0,none⟩))]) (λx w'=>fD wd ru su re gU se x.1 x.2.1 x.2.2.1 x.2.2.2.1 x.2.2.2.2.1 x.2.2.2.2.2 true true true false true false w') ?h3010 (λTS=>?_)
 rotate_left
 refine gD (σ:=R4×R4×R4×Nat×Nat×Nat) 5 #[I,I,I,I,I,I,I,O,O,O,O,O] (λx=>[(75,.agg #[.int .i64 lo,.int .i64 hi,.slice x.1.A0 ru.length x.1.n0,.slice x.1.A1 re.length x.1.n1]),(77,.agg #[.int .i64 lo,.int .i64 hi,.slice x.2.1.A0 ru.length x.2.1.n0,.slice x.2.1.A1 gU.length x.2.1.n1]),(79,.agg #[.int .i64 lo2,.int .i64 hi2,.slice x.2.2.1.A0 su.length x.2.2.1.n0,.slice x.2.2.1.A1 se.length x.2.2.1.n1]),(13,.pointer (some ⟨x.2.2.2.1,0,none⟩))]) (λx w'=>fD wd ru su re gU se x.1 x.2.1 x.2.2.1 x.2.2.2.1 x.2.2.2.2.1 x.2.2.2.2.2 true true true true false false w') ?h3100 (λTR=>?_)
 rotate_left
 refine gD (σ:=R4×R4×R4×Nat×Nat×Nat) 6 #[I,O,I,O,I,O,I,I,I,O,O,O] (λx=>[(13,.pointer (some ⟨x.2.2.2.1,0,none⟩)),(14,.pointer (some ⟨x.2.2.2.2.1,0,none⟩)),(15,.pointer (some ⟨x.2.2.2.2.2,0,none⟩))]) (λx w'=>fD wd ru su re gU se x.1 x.2.1 x.2.2.1 x.2.2.2.1 x.2.2.2.2.1 x.2.2.2.2.2 false false false true true true w') ?h0111 (λPG=>?_)
 rotate_left
 refine gD (σ:=R4×R4×R4×Nat×Nat×Nat) 6 #[I,I,I,O,I,O,O,I,I,O,O,O] (λx=>[(75,.agg #[.int .i64 lo,.int .i64 hi,.slice x.1.A0 ru.length x.1.n0,.slice x.1.A1 re.length x.1.n1]),(14,.pointer (some ⟨x.2.2.2.2.1,0,none⟩)),(15,.pointer (some ⟨x.2.2.2.2.2,0,none⟩))]) (λx w'=>fD wd ru su re gU se x.1 x.2.1 x.2.2.1 x.2.2.2.1 x.2.2.2.2.1 x.2.2.2.2.2 true false false false true true w') ?h1011 (λPE=>?_)
 rotate_left
 refine gD (σ:=R4×R4×R4×Nat×Nat×Nat) 6 #[I,I,I,O,I,O,I,O,I,O,O,O] (λx=>[(75,.agg #[.int .i64 lo,.int .i64 hi,.slice x.1.A0 ru.length x.1.n0,.slice x.1.A1 re.length x.1.n1]),(13,.pointer (some ⟨x.2.2.2.1,0,none⟩)),(15,.pointer (some ⟨x.2.2.2.2.2,0,none⟩))]) (λx w'=>fD wd ru su re gU se x.1 x.2.1 x.2.2.1 x.2.2.2.1 x.2.2.2.2.1 x.2.2.2.2.2 true false false true false true w') ?h1101 (λPD=>?_)
 rotate_left
 refine gD (σ:=R4×R4×R4×Nat×Nat×Nat) 6 #[I,I,I,O,I,O,I,I,O,O,O,O] (λx=>[(75,.agg #[.int .i64 lo,.int .i64 hi,.slice x.1.A0 ru.length x.1.n0,.slice x.1.A1 re.length x.1.n1]),(13,.pointer (some ⟨x.2.2.2.1,0,none⟩)),(14,.pointer (some ⟨x.2.2.2.2.1,0,none⟩))]) (λx w'=>fD wd ru su re gU se x.1 x.2.1 x.2.2.1 x.2.2.2.1 x.2.2.2.2.1 x.2.2.2.2.2 true false false true true false w') ?h1110 (λPC=>?_)
 rotate_left
 refine gD (σ:=R4×R4×R4×Nat×Nat×Nat) 6 #[I,I,I,I,I,O,O,O,I,O,O,O] (λx=>[(75,.agg #[.int .i64 lo,.int .i64 hi,.slice x.1.A0 ru.length x.1.n0,.slice x.1.A1 re.length x.1.n1]),(77,.agg #[.int .i64 lo,.int .i64 hi,.slice x.2.1.A0 ru.length x.2.1.n0,.slice x.2.1.A1 gU.length x.2.1.n1]),(15,.pointer (some ⟨x.2.2.2.2.2,0,none⟩))]) (λx w'=>fD wd ru su re gU se x.1 x.2.1 x.2.2.1 x.2.2.2.1 x.2.2.2.2.1 x.2.2.2.2.2 true true false false false true w') ?h2001 (λTY=>?_)
 rotate_left
 refine gD (σ:=R4×R4×R4×Nat×Nat×Nat) 6 #[I,I,I,I,I,O,O,I,O,O,O,O] (λx=>[(75,.agg #[.int .i64 lo,.int .i64 hi,.slice x.1.A0 ru.length x.1.n0,.slice x.1.A1 re.length x.1.n1]),(77,.agg #[.int .i64 lo,.int .i64 hi,.slice x.2.1.A0 ru.length x.2.1.n0,.slice x.2.1.A1 gU.length x.2.1.n1]),(14,.pointer (some ⟨x.2.2.2.2.1,0,none⟩))]) (λx w'=>fD wd ru su re gU se x.1 x.2.1 x.2.2.1 x.2.2.2.1 x.2.2.2.2.1 x.2.2.2.2.2 true true false false true false w') ?h2010 (λTW=>?_)
 rotate_left
 refine gD (σ:=R4×R4×R4×Nat×Nat×Nat) 6 #[I,I,I,I,I,O,I,O,O,O,O,O] (λx=>[(75,.agg #[.int .i64 lo,.int .i64 hi,.slice x.1.A0 ru.length x.1.n0,.slice x.1.A1 re.length x.1.n1]),(77,.agg #[.int .i64 lo,.int .i64 hi,.slice x.2.1.A0 ru.length x.2.1.n0,.slice x.2.1.A1 gU.length x.2.1.n1]),(13,.pointer (some ⟨x.2.2.2.1,0,none⟩))]) (λx w'=>fD wd ru su re gU se x.1 x.2.1 x.2.2.1 x.2.2.2.1 x.2.2.2.2.1 x.2.2.2.2.2 true true false true false false w') ?h2100 (λTV=>?_)
 rotate_left
 refine gD (σ:=R4×R4×R4×Nat×Nat×Nat) 6 #[I,I,I,I,I,I,O,O,O,O,O,O] (λx=>[(75,.agg #[.int .i64 lo,.int .i64 hi,.slice x.1.A0 ru.length x.1.n0,.slice x.1.A1 re.length x.1.n1]),(77,.agg #[.int .i64 lo,.int .i64 hi,.slice x.2.1.A0 ru.length x.2.1.n0,.slice x.2.1.A1 gU.length x.2.1.n1]),(79,.agg #[.int .i64 lo2,.int .i64 hi2,.slice x.2.2.1.A0 su.length x.2.2.1.n0,.slice x.2.2.1.A1 se.length x.2.2.1.n1])]) (λx w'=>fD wd ru su re gU se x.1 x.2.1 x.2.2.1 x.2.2.2.1 x.2.2.2.2.1 x.2.2.2.2.2 true true true false false false w') ?h3000 (λaaY=>?_)
 rotate_left
 refine gD (σ:=R4×R4×R4×Nat×Nat×Nat) 7 #[I,O,I,O,I,O,O,I,I,O,O,O] (λx=>[(14,.pointer (some ⟨x.2.2.2.2.1,0,none⟩)),(15,.pointer (some ⟨x.2.2.2.2.2,0,none⟩))]) (λx w'=>fD wd ru su re gU se x.1 x.2.1 x.2.2.1 x.2.2.2.1 x.2.2.2.2.1 x.2.2.2.2.2 false false false false true true w') ?h0011 (λUe=>?_)
 rotate_left
 refine gD (σ:=R4×R4×R4×Nat×Nat×Nat) 7 #[I,O,I,O,I,O,I,O,I,O,O,O] (λx=>[(13,.pointer (some ⟨x.2.2.2.1,0,none⟩)),(15,.pointer (some ⟨x.2.2.2.2.2,0,none⟩))]) (λx w'=>fD wd ru su re gU se x.1 x.2.1 x.2.2.1 x.2.2.2.1 x.2.2.2.2.1 x.2.2.2.2.2 false false false true false true w') ?h0101 (λUd=>?_)
 rotate_left
 refine gD (σ:=R4×R4×R4×Nat×Nat×Nat) 7 #[I,O,I,O,I,O,I,I,O,O,O,O] (λx=>[(13,.pointer (some ⟨x.2.2.2.1,0,none⟩)),(14,.pointer (some ⟨x.2.2.2.2.1,0,none⟩))]) (λx w'=>fD wd ru su re gU se x.1 x.2.1 x.2.2.1 x.2.2.2.1 x.2.2.2.2.1 x.2.2.2.2.2 false false false true true false w') ?h0110 (λUc=>?_)
 rotate_left
 refine gD (σ:=R4×R4×R4×Nat×Nat×Nat) 7 #[I,I,I,O,I,O,O,O,I,O,O,O] (λx=>[(75,.agg #[.int .i64 lo,.int .i64 hi,.slice x.1.A0 ru.length x.1.n0,.slice x.1.A1 re.length x.1.n1]),(15,.pointer (some ⟨x.2.2.2.2.2,0,none⟩))]) (λx w'=>fD wd ru su re gU se x.1 x.2.1 x.2.2.1 x.2.2.2.1 x.2.2.2.2.1 x.2.2.2.2.2 true false false false false true w') ?h1001 (λUb=>?_)
 rotate_left
 refine gD (σ:=R4×R4×R4×Nat×Nat×Nat) 7 #[I,I,I,O,I,O,O,I,O,O,O,O] (λx=>[(75,.agg #[.int .i64 lo,.int .i64 hi,.slice x.1.A0 ru.length x.1.n0,.slice x.1.A1 re.length x.1.n1]),(14,.pointer (some ⟨x.2.2.2.2.1,0,none⟩))]) (λx w'=>fD wd ru su re gU se x.1 x.2.1 x.2.2.1 x.2.2.2.1 x.2.2.2.2.1 x.2.2.2.2.2 true false false false true false w') ?h1010 (λUa=>?_)
 rotate_left
 refine gD (σ:=R4×R4×R4×Nat×Nat×Nat) 7 #[I,I,I,O,I,O,I,O,O,O,O,O] (λx=>[(75,.agg #[.int .i64 lo,.int .i64 hi,.slice x.1.A0 ru.length x.1.n0,.slice x.1.A1 re.length x.1.n1]),(13,.pointer (some ⟨x.2.2.2.1,0,none⟩))]) (λx w'=>fD wd ru su re gU se x.1 x.2.1 x.2.2.1 x.2.2.2.1 x.2.2.2.2.1 x.2.2.2.2.2 true false false true false false w') ?h1100 (λTZ=>?_)
 rotate_left
 refine gD (σ:=R4×R4×R4×Nat×Nat×Nat) 7 #[I,I,I,I,I,O,O,O,O,O,O,O] (λx=>[(75,.agg #[.int .i64 lo,.int .i64 hi,.slice x.1.A0 ru.length x.1.n0,.slice x.1.A1 re.length x.1.n1]),(77,.agg #[.int .i64 lo,.int .i64 hi,.slice x.2.1.A0 ru.length x.2.1.n0,.slice x.2.1.A1 gU.length x.2.1.n1])]) (λx w'=>fD wd ru su re gU se x.1 x.2.1 x.2.2.1 x.2.2.2.1 x.2.2.2.2.1 x.2.2.2.2.2 true true false false false false w') ?h2000 (λaaZ=>?_)
 rotate_left
 refine gD (σ:=R4×R4×R4×Nat×Nat×Nat) 8 #[I,O,I,O,I,O,O,O,I,O,O,O] (λx=>[(15,.pointer (some ⟨x.2.2.2.2.2,0,none⟩))]) (λx w'=>fD wd ru su re gU se x.1 x.2.1 x.2.2.1 x.2.2.2.1 x.2.2.2.2.1 x.2.2.2.2.2 false false false false false true w') ?h0001 (λaa3=>?_)
 rotate_left
 refine gD (σ:=R4×R4×R4×Nat×Nat×Nat) 8 #[I,O,I,O,I,O,O,I,O,O,O,O] (λx=>[(14,.pointer (some ⟨x.2.2.2.2.1,0,none⟩))]) (λx w'=>fD wd ru su re gU se x.1 x.2.1 x.2.2.1 x.2.2.2.1 x.2.2.2.2.1 x.2.2.2.2.2 false false false false true false w') ?h0010 (λaa2=>?_)
 rotate_left
 refine gD (σ:=R4×R4×R4×Nat×Nat×Nat) 8 #[I,O,I,O,I,O,I,O,O,O,O,O] (λx=>[(13,.pointer (some ⟨x.2.2.2.1,0,none⟩))]) (λx w'=>fD wd ru su re gU se x.1 x.2.1 x.2.2.1 x.2.2.2.1 x.2.2.2.2.1 x.2.2.2.2.2 false false false true false false w') ?h0100 (λaa1=>?_)
 rotate_left
 refine gD (σ:=R4×R4×R4×Nat×Nat×Nat) 8 #[I,I,I,O,I,O,O,O,O,O,O,O] (λx=>[(75,.agg #[.int .i64 lo,.int .i64 hi,.slice x.1.A0 ru.length x.1.n0,.slice x.1.A1 re.length x.1.n1])]) (λx w'=>fD wd ru su re gU se x.1 x.2.1 x.2.2.1 x.2.2.2.1 x.2.2.2.2.1 x.2.2.2.2.2 true false false false false false w') ?h1000 (λaa0=>?_)
 rotate_left
 obtain⟨x,hx⟩:∃x:R4×R4×R4×Nat×Nat×Nat,fD wd ru su re gU se x.1 x.2.1 x.2.2.1 x.2.2.2.1 x.2.2.2.2.1 x.2.2.2.2.2 false false false false false false wd:=⟨(⟨none,0,none,0⟩,⟨none,0,none,0⟩,⟨none,0,none,0⟩,0,0,0),fD.start _ _ _ _ _ _ _ _ _ _ _ _⟩
 refine Jb (i:=1) (j:=6) (k:=7) (m:=8) (Ni:=some 75) (Nj:=some 13) (Nk:=some 14) (Nm:=some 15) #[I,I,I,O,I,O,O,O,O,O,O,O] #[I,O,I,O,I,O,I,O,O,O,O,O] #[I,O,I,O,I,O,O,I,O,O,O,O] #[I,O,I,O,I,O,O,O,I,O,O,O] rfl rfl rfl rfl rfl rfl rfl rfl (yE au.out (by kernel_rfl)) (by decide) (by decide) (by decide) (by decide) (λK hK=>?_) (λK hK=>?_) (λK hK=>?_) (λK hK=>?_)
 .refine bT Tryz.func21 (by kernel_rfl) rfl #[.agg #[.int .i64 lo,.int .i64 hi,.slice Ar rr.length cr,.slice Ac rc.length cc]] (by rfl) rfl rfl (by(try simp only[List.map_toArray,List.map_cons,List.map_nil]);rfl) ?_
  refine(wL.out _ (Ld.out.later hx.b)).mono ?_
  rintro e_ wc ⟨y,rfl,hR,hbx⟩
  have hsn:=hx.k1 y hbx hR
  have e_:=Ld.out.later hsn.b
  refine⟨_,rfl,hK.out _ _ ⟨(by simpa using e_.b4.cell 0),(by simpa using e_.b4.cell 1),(by simpa using e_.b4.cell 2),(by simpa using e_.b4.cell 3),(by simpa using e_.b11.cell 0),(by simpa using e_.b11.cell 1),(by simpa using e_.b11.cell 2),(by simpa using e_.b11.cell 3),(by simpa using e_.b5.cell 0),(by simpa using e_.b5.cell 1),(by simpa using e_.b5.cell 2),(by simpa using e_.b5.cell 3)⟩ (λ_=>?_)⟩
  clear hK K
  have hfin:=aa0 (y,x.2.1,x.2.2.1,x.2.2.2.1,x.2.2.2.2.1,x.2.2.2.2.2) wc hsn
  refine aW ?_ hfin
  simp only[aK,Act.put,sb0,sb1,bR]
 .refine bD (w1:=?_) (v:=?_) (by rfl) rfl ?_ ?_
  rotate_left 2
  .go_simp
   constructor<;>rfl
  have hsn:=hx.a1
  have e_:=Ld.out.later hsn.b
  refine hK.out _ _ ⟨(by simpa using e_.b4.cell 0),(by simpa using e_.b4.cell 1),(by simpa using e_.b4.cell 2),(by simpa using e_.b4.cell 3),(by simpa using e_.b11.cell 0),(by simpa using e_.b11.cell 1),(by simpa using e_.b11.cell 2),(by simpa using e_.b11.cell 3),(by simpa using e_.b5.cell 0),(by simpa using e_.b5.cell 1),(by simpa using e_.b5.cell 2),(by simpa using e_.b5.cell 3)⟩ (λ_=>?_)
  clear hK K
  have hfin:=aa1 (x.1,x.2.1,x.2.2.1,wd.heap.size,x.2.2.2.2.1,x.2.2.2.2.2) _ hsn
  refine aW ?_ hfin
  simp only[aK,Act.put,sb0,sb1,bR]
 .refine bD (w1:=?_) (v:=?_) (by rfl) rfl ?_ ?_
  rotate_left 2
  .go_simp
   constructor<;>rfl
  have hsn:=hx.a2
  have e_:=Ld.out.later hsn.b
  refine hK.out _ _ ⟨(by simpa using e_.b4.cell 0),(by simpa using e_.b4.cell 1),(by simpa using e_.b4.cell 2),(by simpa using e_.b4.cell 3),(by simpa using e_.b11.cell 0),(by simpa using e_.b11.cell 1),(by simpa using e_.b11.cell 2),(by simpa using e_.b11.cell 3),(by simpa using e_.b5.cell 0),(by simpa using e_.b5.cell 1),(by simpa using e_.b5.cell 2),(by simpa using e_.b5.cell 3)⟩ (λ_=>?_)
  clear hK K
  have hfin:=aa2 (x.1,x.2.1,x.2.2.1,x.2.2.2.1,wd.heap.size,x.2.2.2.2.2) _ hsn
  refine aW ?_ hfin
  simp only[aK,Act.put,sb0,sb1,bR]
 .refine bD (w1:=?_) (v:=?_) (by rfl) rfl ?_ ?_
  rotate_left 2
  .go_simp
   constructor<;>rfl
  have hsn:=hx.a3
  have e_:=Ld.out.later hsn.b
  refine hK.out _ _ ⟨(by simpa using e_.b4.cell 0),(by simpa using e_.b4.cell 1),(by simpa using e_.b4.cell 2),(by simpa using e_.b4.cell 3),(by simpa using e_.b11.cell 0),(by simpa using e_.b11.cell 1),(by simpa using e_.b11.cell 2),(by simpa using e_.b11.cell 3),(by simpa using e_.b5.cell 0),(by simpa using e_.b5.cell 1),(by simpa using e_.b5.cell 2),(by simpa using e_.b5.cell 3)⟩ (λ_=>?_)
  clear hK K
  have hfin:=aa3 (x.1,x.2.1,x.2.2.1,x.2.2.2.1,x.2.2.2.2.1,wd.heap.size) _ hsn
  refine aW ?_ hfin
  simp only[aK,Act.put,sb0,sb1,bR]
 case h2111=>
  intro x W hx
  refine aW (by simp only[aK,Act.put,sb0,sb1,bR];rfl) ?_
  refine gB (i:=5) (N:=some 79) #[I,I,I,I,I,I,I,I,I,O,O,O] rfl rfl (aM au.out (by kernel_rfl)) (by decide) (λK hK=>?_)
  refine bT Tryz.func21 (by kernel_rfl) rfl #[.agg #[.int .i64 lo2,.int .i64 hi2,.slice Br sr.length dr,.slice Bc sc.length dc]] (by rfl) rfl rfl (by(try simp only[List.map_toArray,List.map_cons,List.map_nil]);rfl) ?_
  refine(FO.out _ (Ld.out.later hx.b)).mono ?_
  rintro e_ wc ⟨y,rfl,hR,hbx⟩
  have hsn:=hx.k3 y hbx hR
  have e_:=Ld.out.later hsn.b
  refine⟨_,rfl,hK.out _ _ ⟨(by simpa using e_.b4.cell 0),(by simpa using e_.b4.cell 1),(by simpa using e_.b4.cell 2),(by simpa using e_.b4.cell 3),(by simpa using e_.b11.cell 0),(by simpa using e_.b11.cell 1),(by simpa using e_.b11.cell 2),(by simpa using e_.b11.cell 3),(by simpa using e_.b5.cell 0),(by simpa using e_.b5.cell 1),(by simpa using e_.b5.cell 2),(by simpa using e_.b5.cell 3)⟩ (λ_=>?_)⟩
  clear hK K
  have hfin:=JH (x.1,x.2.1,y,x.2.2.2.1,x.2.2.2.2.1,x.2.2.2.2.2) wc hsn
  refine aW ?_ hfin
  simp only[aK,Act.put,sb0,sb1,bR]
 case h3011=>
  intro x W hx
  refine aW (by simp only[aK,Act.put,sb0,sb1,bR];rfl) ?_
  refine gB (i:=6) (N:=some 13) #[I,I,I,I,I,I,I,I,I,O,O,O] rfl rfl (aM au.out (by kernel_rfl)) (by decide) (λK hK=>?_)
  refine bD (w1:=?_) (v:=?_) (by rfl) rfl ?_ ?_
  rotate_left 2
  .go_simp
   constructor<;>rfl
  have hsn:=hx.a1
  have e_:=Ld.out.later hsn.b
  refine hK.out _ _ ⟨(by simpa using e_.b4.cell 0),(by simpa using e_.b4.cell 1),(by simpa using e_.b4.cell 2),(by simpa using e_.b4.cell 3),(by simpa using e_.b11.cell 0),(by simpa using e_.b11.cell 1),(by simpa using e_.b11.cell 2),(by simpa using e_.b11.cell 3),(by simpa using e_.b5.cell 0),(by simpa using e_.b5.cell 1),(by simpa using e_.b5.cell 2),(by simpa using e_.b5.cell 3)⟩ (λ_=>?_)
  clear hK K
  have hfin:=JH (x.1,x.2.1,x.2.2.1,W.heap.size,x.2.2.2.2.1,x.2.2.2.2.2) _ hsn
  refine aW ?_ hfin
  simp only[aK,Act.put,sb0,sb1,bR]
 case h3101=>
  intro x W hx
  refine aW (by simp only[aK,Act.put,sb0,sb1,bR];rfl) ?_
  refine gB (i:=7) (N:=some 14) #[I,I,I,I,I,I,I,I,I,O,O,O] rfl rfl (aM au.out (by kernel_rfl)) (by decide) (λK hK=>?_)
  refine bD (w1:=?_) (v:=?_) (by rfl) rfl ?_ ?_
  rotate_left 2
  .go_simp
   constructor<;>rfl
  have hsn:=hx.a2
  have e_:=Ld.out.later hsn.b
  refine hK.out _ _ ⟨(by simpa using e_.b4.cell 0),(by simpa using e_.b4.cell 1),(by simpa using e_.b4.cell 2),(by simpa using e_.b4.cell 3),(by simpa using e_.b11.cell 0),(by simpa using e_.b11.cell 1),(by simpa using e_.b11.cell 2),(by simpa using e_.b11.cell 3),(by simpa using e_.b5.cell 0),(by simpa using e_.b5.cell 1),(by simpa using e_.b5.cell 2),(by simpa using e_.b5.cell 3)⟩ (λ_=>?_)
  clear hK K
  have hfin:=JH (x.1,x.2.1,x.2.2.1,x.2.2.2.1,W.heap.size,x.2.2.2.2.2) _ hsn
  refine aW ?_ hfin
  simp only[aK,Act.put,sb0,sb1,bR]
 case h3110=>
  intro x W hx
  refine aW (by simp only[aK,Act.put,sb0,sb1,bR];rfl) ?_
  refine gB (i:=8) (N:=some 15) #[I,I,I,I,I,I,I,I,I,O,O,O] rfl rfl (aM au.out (by kernel_rfl)) (by decide) (λK hK=>?_)
  refine bD (w1:=?_) (v:=?_) (by rfl) rfl ?_ ?_
  rotate_left 2
  .go_simp
   constructor<;>rfl
  have hsn:=hx.a3
  have e_:=Ld.out.later hsn.b
  refine hK.out _ _ ⟨(by simpa using e_.b4.cell 0),(by simpa using e_.b4.cell 1),(by simpa using e_.b4.cell 2),(by simpa using e_.b4.cell 3),(by simpa using e_.b11.cell 0),(by simpa using e_.b11.cell 1),(by simpa using e_.b11.cell 2),(by simpa using e_.b11.cell 3),(by simpa using e_.b5.cell 0),(by simpa using e_.b5.cell 1),(by simpa using e_.b5.cell 2),(by simpa using e_.b5.cell 3)⟩ (λ_=>?_)
  clear hK K
  have hfin:=JH (x.1,x.2.1,x.2.2.1,x.2.2.2.1,x.2.2.2.2.1,W.heap.size) _ hsn
  refine aW ?_ hfin
  simp only[aK,Act.put,sb0,sb1,bR]
 case h1111=>
  intro x W hx
  refine aW (by simp only[aK,Act.put,sb0,sb1,bR];rfl) ?_
  refine gB (i:=3) (N:=some 77) #[I,I,I,I,I,O,I,I,I,O,O,O] rfl rfl (aM au.out (by kernel_rfl)) (by decide) (λK hK=>?_)
  refine bT Tryz.func21 (by kernel_rfl) rfl #[.agg #[.int .i64 lo,.int .i64 hi,.slice Ar rr.length cr,.slice Xc xs.length xc]] (by rfl) rfl rfl (by(try simp only[List.map_toArray,List.map_cons,List.map_nil]);rfl) ?_
  refine(FZ.out _ (Ld.out.later hx.b)).mono ?_
  rintro e_ wc ⟨y,rfl,hR,hbx⟩
  have hsn:=hx.k2 y hbx hR
  have e_:=Ld.out.later hsn.b
  refine⟨_,rfl,hK.out _ _ ⟨(by simpa using e_.b4.cell 0),(by simpa using e_.b4.cell 1),(by simpa using e_.b4.cell 2),(by simpa using e_.b4.cell 3),(by simpa using e_.b11.cell 0),(by simpa using e_.b11.cell 1),(by simpa using e_.b11.cell 2),(by simpa using e_.b11.cell 3),(by simpa using e_.b5.cell 0),(by simpa using e_.b5.cell 1),(by simpa using e_.b5.cell 2),(by simpa using e_.b5.cell 3)⟩ (λ_=>?_)⟩
  clear hK K
  have hfin:=JI (x.1,y,x.2.2.1,x.2.2.2.1,x.2.2.2.2.1,x.2.2.2.2.2) wc hsn
  refine aW ?_ hfin
  simp only[aK,Act.put,sb0,sb1,bR]
 case h2011=>
  intro x W hx
  refine aW (by simp only[aK,Act.put,sb0,sb1,bR];rfl) ?_
  refine tF (i:=5) (j:=6) (Ni:=some 79) (Nj:=some 13) #[I,I,I,I,I,I,O,I,I,O,O,O] #[I,I,I,I,I,O,I,I,I,O,O,O] rfl rfl rfl rfl (jL au.out (by kernel_rfl)) (by decide) (by decide) (λK hK=>?_) (λK hK=>?_)
  .refine bT Tryz.func21 (by kernel_rfl) rfl #[.agg #[.int .i64 lo2,.int .i64 hi2,.slice Br sr.length dr,.slice Bc sc.length dc]] (by rfl) rfl rfl (by(try simp only[List.map_toArray,List.map_cons,List.map_nil]);rfl) ?_
   refine(FO.out _ (Ld.out.later hx.b)).mono ?_
   rintro e_ wc ⟨y,rfl,hR,hbx⟩
   have hsn:=hx.k3 y hbx hR
   have e_:=Ld.out.later hsn.b
   refine⟨_,rfl,hK.out _ _ ⟨(by simpa using e_.b4.cell 0),(by simpa using e_.b4.cell 1),(by simpa using e_.b4.cell 2),(by simpa using e_.b4.cell 3),(by simpa using e_.b11.cell 0),(by simpa using e_.b11.cell 1),(by simpa using e_.b11.cell 2),(by simpa using e_.b11.cell 3),(by simpa using e_.b5.cell 0),(by simpa using e_.b5.cell 1),(by simpa using e_.b5.cell 2),(by simpa using e_.b5.cell 3)⟩ (λ_=>?_)⟩
   clear hK K
   have hfin:=Pw (x.1,x.2.1,y,x.2.2.2.1,x.2.2.2.2.1,x.2.2.2.2.2) wc hsn
   refine aW ?_ hfin
   simp only[aK,Act.put,sb0,sb1,bR]
  .refine bD (w1:=?_) (v:=?_) (by rfl) rfl ?_ ?_
   rotate_left 2
   .go_simp
    constructor<;>rfl
   have hsn:=hx.a1
   have e_:=Ld.out.later hsn.b
   refine hK.out _ _ ⟨(by simpa using e_.b4.cell 0),(by simpa using e_.b4.cell 1),(by simpa using e_.b4.cell 2),(by simpa using e_.b4.cell 3),(by simpa using e_.b11.cell 0),(by simpa using e_.b11.cell 1),(by simpa using e_.b11.cell 2),(by simpa using e_.b11.cell 3),(by simpa using e_.b5.cell 0),(by simpa using e_.b5.cell 1),(by simpa using e_.b5.cell 2),(by simpa using e_.b5.cell 3)⟩ (λ_=>?_)
   clear hK K
   have hfin:=JI (x.1,x.2.1,x.2.2.1,W.heap.size,x.2.2.2.2.1,x.2.2.2.2.2) _ hsn
   refine aW ?_ hfin
   simp only[aK,Act.put,sb0,sb1,bR]
 case h2101=>
  intro x W hx
  refine aW (by simp only[aK,Act.put,sb0,sb1,bR];rfl) ?_
  refine tF (i:=5) (j:=7) (Ni:=some 79) (Nj:=some 14) #[I,I,I,I,I,I,I,O,I,O,O,O] #[I,I,I,I,I,O,I,I,I,O,O,O] rfl rfl rfl rfl (jL au.out (by kernel_rfl)) (by decide) (by decide) (λK hK=>?_) (λK hK=>?_)
  .refine bT Tryz.func21 (by kernel_rfl) rfl #[.agg #[.int .i64 lo2,.int .i64 hi2,.slice Br sr.length dr,.slice Bc sc.length dc]] (by rfl) rfl rfl (by(try simp only[List.map_toArray,List.map_cons,List.map_nil]);rfl) ?_
   refine(FO.out _ (Ld.out.later hx.b)).mono ?_
   rintro e_ wc ⟨y,rfl,hR,hbx⟩
   have hsn:=hx.k3 y hbx hR
   have e_:=Ld.out.later hsn.b
   refine⟨_,rfl,hK.out _ _ ⟨(by simpa using e_.b4.cell 0),(by simpa using e_.b4.cell 1),(by simpa using e_.b4.cell 2),(by simpa using e_.b4.cell 3),(by simpa using e_.b11.cell 0),(by simpa using e_.b11.cell 1),(by simpa using e_.b11.cell 2),(by simpa using e_.b11.cell 3),(by simpa using e_.b5.cell 0),(by simpa using e_.b5.cell 1),(by simpa using e_.b5.cell 2),(by simpa using e_.b5.cell 3)⟩ (λ_=>?_)⟩
   clear hK K
   have hfin:=Pv (x.1,x.2.1,y,x.2.2.2.1,x.2.2.2.2.1,x.2.2.2.2.2) wc hsn
   refine aW ?_ hfin
   simp only[aK,Act.put,sb0,sb1,bR]
  .refine bD (w1:=?_) (v:=?_) (by rfl) rfl ?_ ?_
   rotate_left 2
   .go_simp
    constructor<;>rfl
   have hsn:=hx.a2
   have e_:=Ld.out.later hsn.b
   refine hK.out _ _ ⟨(by simpa using e_.b4.cell 0),(by simpa using e_.b4.cell 1),(by simpa using e_.b4.cell 2),(by simpa using e_.b4.cell 3),(by simpa using e_.b11.cell 0),(by simpa using e_.b11.cell 1),(by simpa using e_.b11.cell 2),(by simpa using e_.b11.cell 3),(by simpa using e_.b5.cell 0),(by simpa using e_.b5.cell 1),(by simpa using e_.b5.cell 2),(by simpa using e_.b5.cell 3)⟩ (λ_=>?_)
   clear hK K
   have hfin:=JI (x.1,x.2.1,x.2.2.1,x.2.2.2.1,W.heap.size,x.2.2.2.2.2) _ hsn
   refine aW ?_ hfin
   simp only[aK,Act.put,sb0,sb1,bR]
 case h2110=>
  intro x W hx
  refine aW (by simp only[aK,Act.put,sb0,sb1,bR];rfl) ?_
  refine tF (i:=5) (j:=8) (Ni:=some 79) (Nj:=some 15) #[I,I,I,I,I,I,I,I,O,O,O,O] #[I,I,I,I,I,O,I,I,I,O,O,O] rfl rfl rfl rfl (jL au.out (by kernel_rfl)) (by decide) (by decide) (λK hK=>?_) (λK hK=>?_)
  .refine bT Tryz.func21 (by kernel_rfl) rfl #[.agg #[.int .i64 lo2,.int .i64 hi2,.slice Br sr.length dr,.slice Bc sc.length dc]] (by rfl) rfl rfl (by(try simp only[List.map_toArray,List.map_cons,List.map_nil]);rfl) ?_
   refine(FO.out _ (Ld.out.later hx.b)).mono ?_
   rintro e_ wc ⟨y,rfl,hR,hbx⟩
   have hsn:=hx.k3 y hbx hR
   have e_:=Ld.out.later hsn.b
   refine⟨_,rfl,hK.out _ _ ⟨(by simpa using e_.b4.cell 0),(by simpa using e_.b4.cell 1),(by simpa using e_.b4.cell 2),(by simpa using e_.b4.cell 3),(by simpa using e_.b11.cell 0),(by simpa using e_.b11.cell 1),(by simpa using e_.b11.cell 2),(by simpa using e_.b11.cell 3),(by simpa using e_.b5.cell 0),(by simpa using e_.b5.cell 1),(by simpa using e_.b5.cell 2),(by simpa using e_.b5.cell 3)⟩ (λ_=>?_)⟩
   clear hK K
   have hfin:=Pt (x.1,x.2.1,y,x.2.2.2.1,x.2.2.2.2.1,x.2.2.2.2.2) wc hsn
   refine aW ?_ hfin
   simp only[aK,Act.put,sb0,sb1,bR]
  .refine bD (w1:=?_) (v:=?_) (by rfl) rfl ?_ ?_
   rotate_left 2
   .go_simp
    constructor<;>rfl
   have hsn:=hx.a3
   have e_:=Ld.out.later hsn.b
   refine hK.out _ _ ⟨(by simpa using e_.b4.cell 0),(by simpa using e_.b4.cell 1),(by simpa using e_.b4.cell 2),(by simpa using e_.b4.cell 3),(by simpa using e_.b11.cell 0),(by simpa using e_.b11.cell 1),(by simpa using e_.b11.cell 2),(by simpa using e_.b11.cell 3),(by simpa using e_.b5.cell 0),(by simpa using e_.b5.cell 1),(by simpa using e_.b5.cell 2),(by simpa using e_.b5.cell 3)⟩ (λ_=>?_)
   clear hK K
   have hfin:=JI (x.1,x.2.1,x.2.2.1,x.2.2.2.1,x.2.2.2.2.1,W.heap.size) _ hsn
   refine aW ?_ hfin
   simp only[aK,Act.put,sb0,sb1,bR]
 case h3001=>
  intro x W hx
  refine aW (by simp only[aK,Act.put,sb0,sb1,bR];rfl) ?_
  refine tF (i:=6) (j:=7) (Ni:=some 13) (Nj:=some 14) #[I,I,I,I,I,I,I,O,I,O,O,O] #[I,I,I,I,I,I,O,I,I,O,O,O] rfl rfl rfl rfl (jL au.out (by kernel_rfl)) (by decide) (by decide) (λK hK=>?_) (λK hK=>?_)
  .refine bD (w1:=?_) (v:=?_) (by rfl) rfl ?_ ?_
   rotate_left 2
   .go_simp
    constructor<;>rfl
   have hsn:=hx.a1
   have e_:=Ld.out.later hsn.b
   refine hK.out _ _ ⟨(by simpa using e_.b4.cell 0),(by simpa using e_.b4.cell 1),(by simpa using e_.b4.cell 2),(by simpa using e_.b4.cell 3),(by simpa using e_.b11.cell 0),(by simpa using e_.b11.cell 1),(by simpa using e_.b11.cell 2),(by simpa using e_.b11.cell 3),(by simpa using e_.b5.cell 0),(by simpa using e_.b5.cell 1),(by simpa using e_.b5.cell 2),(by simpa using e_.b5.cell 3)⟩ (λ_=>?_)
   clear hK K
   have hfin:=Pv (x.1,x.2.1,x.2.2.1,W.heap.size,x.2.2.2.2.1,x.2.2.2.2.2) _ hsn
   refine aW ?_ hfin
   simp only[aK,Act.put,sb0,sb1,bR]
  .refine bD (w1:=?_) (v:=?_) (by rfl) rfl ?_ ?_
   rotate_left 2
   .go_simp
    constructor<;>rfl
   have hsn:=hx.a2
   have e_:=Ld.out.later hsn.b
   refine hK.out _ _ ⟨(by simpa using e_.b4.cell 0),(by simpa using e_.b4.cell 1),(by simpa using e_.b4.cell 2),(by simpa using e_.b4.cell 3),(by simpa using e_.b11.cell 0),(by simpa using e_.b11.cell 1),(by simpa using e_.b11.cell 2),(by simpa using e_.b11.cell 3),(by simpa using e_.b5.cell 0),(by simpa using e_.b5.cell 1),(by simpa using e_.b5.cell 2),(by simpa using e_.b5.cell 3)⟩ (λ_=>?_)
   clear hK K
   have hfin:=Pw (x.1,x.2.1,x.2.2.1,x.2.2.2.1,W.heap.size,x.2.2.2.2.2) _ hsn
   refine aW ?_ hfin
   simp only[aK,Act.put,sb0,sb1,bR]
 case h3010=>
  intro x W hx
  refine aW (by simp only[aK,Act.put,sb0,sb1,bR];rfl) ?_
  refine tF (i:=6) (j:=8) (Ni:=some 13) (Nj:=some 15) #[I,I,I,I,I,I,I,I,O,O,O,O] #[I,I,I,I,I,I,O,I,I,O,O,O] rfl rfl rfl rfl (jL au.out (by kernel_rfl)) (by decide) (by decide) (λK hK=>?_) (λK hK=>?_)
  .refine bD (w1:=?_) (v:=?_) (by rfl) rfl ?_ ?_
   rotate_left 2
   .go_simp
    constructor<;>rfl
   have hsn:=hx.a1
   have e_:=Ld.out.later hsn.b
   refine hK.out _ _ ⟨(by simpa using e_.b4.cell 0),(by simpa using e_.b4.cell 1),(by simpa using e_.b4.cell 2),(by simpa using e_.b4.cell 3),(by simpa using e_.b11.cell 0),(by simpa using e_.b11.cell 1),(by simpa using e_.b11.cell 2),(by simpa using e_.b11.cell 3),(by simpa using e_.b5.cell 0),(by simpa using e_.b5.cell 1),(by simpa using e_.b5.cell 2),(by simpa using e_.b5.cell 3)⟩ (λ_=>?_)
   clear hK K
   have hfin:=Pt (x.1,x.2.1,x.2.2.1,W.heap.size,x.2.2.2.2.1,x.2.2.2.2.2) _ hsn
   refine aW ?_ hfin
   simp only[aK,Act.put,sb0,sb1,bR]
  .refine bD (w1:=?_) (v:=?_) (by rfl) rfl ?_ ?_
   rotate_left 2
   .go_simp
    constructor<;>rfl
   have hsn:=hx.a3
   have e_:=Ld.out.later hsn.b
   refine hK.out _ _ ⟨(by simpa using e_.b4.cell 0),(by simpa using e_.b4.cell 1),(by simpa using e_.b4.cell 2),(by simpa using e_.b4.cell 3),(by simpa using e_.b11.cell 0),(by simpa using e_.b11.cell 1),(by simpa using e_.b11.cell 2),(by simpa using e_.b11.cell 3),(by simpa using e_.b5.cell 0),(by simpa using e_.b5.cell 1),(by simpa using e_.b5.cell 2),(by simpa using e_.b5.cell 3)⟩ (λ_=>?_)
   clear hK K
   have hfin:=Pw (x.1,x.2.1,x.2.2.1,x.2.2.2.1,x.2.2.2.2.1,W.heap.size) _ hsn
   refine aW ?_ hfin
   simp only[aK,Act.put,sb0,sb1,bR]
 case h3100=>
  intro x W hx
  refine aW (by simp only[aK,Act.put,sb0,sb1,bR];rfl) ?_
  refine tF (i:=7) (j:=8) (Ni:=some 14) (Nj:=some 15) #[I,I,I,I,I,I,I,I,O,O,O,O] #[I,I,I,I,I,I,I,O,I,O,O,O] rfl rfl rfl rfl (jL au.out (by kernel_rfl)) (by decide) (by decide) (λK hK=>?_) (λK hK=>?_)
  .refine bD (w1:=?_) (v:=?_) (by rfl) rfl ?_ ?_
   rotate_left 2
   .go_simp
    constructor<;>rfl
   have hsn:=hx.a2
   have e_:=Ld.out.later hsn.b
   refine hK.out _ _ ⟨(by simpa using e_.b4.cell 0),(by simpa using e_.b4.cell 1),(by simpa using e_.b4.cell 2),(by simpa using e_.b4.cell 3),(by simpa using e_.b11.cell 0),(by simpa using e_.b11.cell 1),(by simpa using e_.b11.cell 2),(by simpa using e_.b11.cell 3),(by simpa using e_.b5.cell 0),(by simpa using e_.b5.cell 1),(by simpa using e_.b5.cell 2),(by simpa using e_.b5.cell 3)⟩ (λ_=>?_)
   clear hK K
   have hfin:=Pt (x.1,x.2.1,x.2.2.1,x.2.2.2.1,W.heap.size,x.2.2.2.2.2) _ hsn
   refine aW ?_ hfin
   simp only[aK,Act.put,sb0,sb1,bR]
  .refine bD (w1:=?_) (v:=?_) (by rfl) rfl ?_ ?_
   rotate_left 2
   .go_simp
    constructor<;>rfl
   have hsn:=hx.a3
   have e_:=Ld.out.later hsn.b
   refine hK.out _ _ ⟨(by simpa using e_.b4.cell 0),(by simpa using e_.b4.cell 1),(by simpa using e_.b4.cell 2),(by simpa using e_.b4.cell 3),(by simpa using e_.b11.cell 0),(by simpa using e_.b11.cell 1),(by simpa using e_.b11.cell 2),(by simpa using e_.b11.cell 3),(by simpa using e_.b5.cell 0),(by simpa using e_.b5.cell 1),(by simpa using e_.b5.cell 2),(by simpa using e_.b5.cell 3)⟩ (λ_=>?_)
   clear hK K
   have hfin:=Pv (x.1,x.2.1,x.2.2.1,x.2.2.2.1,x.2.2.2.2.1,W.heap.size) _ hsn
   refine aW ?_ hfin
   simp only[aK,Act.put,sb0,sb1,bR]
 case h0111=>
  intro x W hx
  refine aW (by simp only[aK,Act.put,sb0,sb1,bR];rfl) ?_
  refine gB (i:=1) (N:=some 75) #[I,I,I,O,I,O,I,I,I,O,O,O] rfl rfl (aM au.out (by kernel_rfl)) (by decide) (λK hK=>?_)
  refine bT Tryz.func21 (by kernel_rfl) rfl #[.agg #[.int .i64 lo,.int .i64 hi,.slice Ar rr.length cr,.slice Ac rc.length cc]] (by rfl) rfl rfl (by(try simp only[List.map_toArray,List.map_cons,List.map_nil]);rfl) ?_
  refine(wL.out _ (Ld.out.later hx.b)).mono ?_
  rintro e_ wc ⟨y,rfl,hR,hbx⟩
  have hsn:=hx.k1 y hbx hR
  have e_:=Ld.out.later hsn.b
  refine⟨_,rfl,hK.out _ _ ⟨(by simpa using e_.b4.cell 0),(by simpa using e_.b4.cell 1),(by simpa using e_.b4.cell 2),(by simpa using e_.b4.cell 3),(by simpa using e_.b11.cell 0),(by simpa using e_.b11.cell 1),(by simpa using e_.b11.cell 2),(by simpa using e_.b11.cell 3),(by simpa using e_.b5.cell 0),(by simpa using e_.b5.cell 1),(by simpa using e_.b5.cell 2),(by simpa using e_.b5.cell 3)⟩ (λ_=>?_)⟩
  clear hK K
  have hfin:=JJ (y,x.2.1,x.2.2.1,x.2.2.2.1,x.2.2.2.2.1,x.2.2.2.2.2) wc hsn
  refine aW ?_ hfin
  simp only[aK,Act.put,sb0,sb1,bR]
 case h1011=>
  intro x W hx
  refine aW (by simp only[aK,Act.put,sb0,sb1,bR];rfl) ?_
  refine tF (i:=3) (j:=6) (Ni:=some 77) (Nj:=some 13) #[I,I,I,I,I,O,O,I,I,O,O,O] #[I,I,I,O,I,O,I,I,I,O,O,O] rfl rfl rfl rfl (jL au.out (by kernel_rfl)) (by decide) (by decide) (λK hK=>?_) (λK hK=>?_)
  .refine bT Tryz.func21 (by kernel_rfl) rfl #[.agg #[.int .i64 lo,.int .i64 hi,.slice Ar rr.length cr,.slice Xc xs.length xc]] (by rfl) rfl rfl (by(try simp only[List.map_toArray,List.map_cons,List.map_nil]);rfl) ?_
   refine(FZ.out _ (Ld.out.later hx.b)).mono ?_
   rintro e_ wc ⟨y,rfl,hR,hbx⟩
   have hsn:=hx.k2 y hbx hR
   have e_:=Ld.out.later hsn.b
   refine⟨_,rfl,hK.out _ _ ⟨(by simpa using e_.b4.cell 0),(by simpa using e_.b4.cell 1),(by simpa using e_.b4.cell 2),(by simpa using e_.b4.cell 3),(by simpa using e_.b11.cell 0),(by simpa using e_.b11.cell 1),(by simpa using e_.b11.cell 2),(by simpa using e_.b11.cell 3),(by simpa using e_.b5.cell 0),(by simpa using e_.b5.cell 1),(by simpa using e_.b5.cell 2),(by simpa using e_.b5.cell 3)⟩ (λ_=>?_)⟩
   clear hK K
   have hfin:=Pz (x.1,y,x.2.2.1,x.2.2.2.1,x.2.2.2.2.1,x.2.2.2.2.2) wc hsn
   refine aW ?_ hfin
   simp only[aK,Act.put,sb0,sb1,bR]
  .refine bD (w1:=?_) (v:=?_) (by rfl) rfl ?_ ?_
   rotate_left 2
   .go_simp
    constructor<;>rfl
   have hsn:=hx.a1
   have e_:=Ld.out.later hsn.b
   refine hK.out _ _ ⟨(by simpa using e_.b4.cell 0),(by simpa using e_.b4.cell 1),(by simpa using e_.b4.cell 2),(by simpa using e_.b4.cell 3),(by simpa using e_.b11.cell 0),(by simpa using e_.b11.cell 1),(by simpa using e_.b11.cell 2),(by simpa using e_.b11.cell 3),(by simpa using e_.b5.cell 0),(by simpa using e_.b5.cell 1),(by simpa using e_.b5.cell 2),(by simpa using e_.b5.cell 3)⟩ (λ_=>?_)
   clear hK K
   have hfin:=JJ (x.1,x.2.1,x.2.2.1,W.heap.size,x.2.2.2.2.1,x.2.2.2.2.2) _ hsn
   refine aW ?_ hfin
   simp only[aK,Act.put,sb0,sb1,bR]
 case h1101=>
  intro x W hx
  refine aW (by simp only[aK,Act.put,sb0,sb1,bR];rfl) ?_
  refine tF (i:=3) (j:=7) (Ni:=some 77) (Nj:=some 14) #[I,I,I,I,I,O,I,O,I,O,O,O] #[I,I,I,O,I,O,I,I,I,O,O,O] rfl rfl rfl rfl (jL au.out (by kernel_rfl)) (by decide) (by decide) (λK hK=>?_) (λK hK=>?_)
  .refine bT Tryz.func21 (by kernel_rfl) rfl #[.agg #[.int .i64 lo,.int .i64 hi,.slice Ar rr.length cr,.slice Xc xs.length xc]] (by rfl) rfl rfl (by(try simp only[List.map_toArray,List.map_cons,List.map_nil]);rfl) ?_
   refine(FZ.out _ (Ld.out.later hx.b)).mono ?_
   rintro e_ wc ⟨y,rfl,hR,hbx⟩
   have hsn:=hx.k2 y hbx hR
   have e_:=Ld.out.later hsn.b
   refine⟨_,rfl,hK.out _ _ ⟨(by simpa using e_.b4.cell 0),(by simpa using e_.b4.cell 1),(by simpa using e_.b4.cell 2),(by simpa using e_.b4.cell 3),(by simpa using e_.b11.cell 0),(by simpa using e_.b11.cell 1),(by simpa using e_.b11.cell 2),(by simpa using e_.b11.cell 3),(by simpa using e_.b5.cell 0),(by simpa using e_.b5.cell 1),(by simpa using e_.b5.cell 2),(by simpa using e_.b5.cell 3)⟩ (λ_=>?_)⟩
   clear hK K
   have hfin:=Py (x.1,y,x.2.2.1,x.2.2.2.1,x.2.2.2.2.1,x.2.2.2.2.2) wc hsn
   refine aW ?_ hfin
   simp only[aK,Act.put,sb0,sb1,bR]
  .refine bD (w1:=?_) (v:=?_) (by rfl) rfl ?_ ?_
   rotate_left 2
   .go_simp
    constructor<;>rfl
   have hsn:=hx.a2
   have e_:=Ld.out.later hsn.b
   refine hK.out _ _ ⟨(by simpa using e_.b4.cell 0),(by simpa using e_.b4.cell 1),(by simpa using e_.b4.cell 2),(by simpa using e_.b4.cell 3),(by simpa using e_.b11.cell 0),(by simpa using e_.b11.cell 1),(by simpa using e_.b11.cell 2),(by simpa using e_.b11.cell 3),(by simpa using e_.b5.cell 0),(by simpa using e_.b5.cell 1),(by simpa using e_.b5.cell 2),(by simpa using e_.b5.cell 3)⟩ (λ_=>?_)
   clear hK K
   have hfin:=JJ (x.1,x.2.1,x.2.2.1,x.2.2.2.1,W.heap.size,x.2.2.2.2.2) _ hsn
   refine aW ?_ hfin
   simp only[aK,Act.put,sb0,sb1,bR]
 case h1110=>
  intro x W hx
  refine aW (by simp only[aK,Act.put,sb0,sb1,bR];rfl) ?_
  refine tF (i:=3) (j:=8) (Ni:=some 77) (Nj:=some 15) #[I,I,I,I,I,O,I,I,O,O,O,O] #[I,I,I,O,I,O,I,I,I,O,O,O] rfl rfl rfl rfl (jL au.out (by kernel_rfl)) (by decide) (by decide) (λK hK=>?_) (λK hK=>?_)
  .refine bT Tryz.func21 (by kernel_rfl) rfl #[.agg #[.int .i64 lo,.int .i64 hi,.slice Ar rr.length cr,.slice Xc xs.length xc]] (by rfl) rfl rfl (by(try simp only[List.map_toArray,List.map_cons,List.map_nil]);rfl) ?_
   refine(FZ.out _ (Ld.out.later hx.b)).mono ?_
   rintro e_ wc ⟨y,rfl,hR,hbx⟩
   have hsn:=hx.k2 y hbx hR
   have e_:=Ld.out.later hsn.b
   refine⟨_,rfl,hK.out _ _ ⟨(by simpa using e_.b4.cell 0),(by simpa using e_.b4.cell 1),(by simpa using e_.b4.cell 2),(by simpa using e_.b4.cell 3),(by simpa using e_.b11.cell 0),(by simpa using e_.b11.cell 1),(by simpa using e_.b11.cell 2),(by simpa using e_.b11.cell 3),(by simpa using e_.b5.cell 0),(by simpa using e_.b5.cell 1),(by simpa using e_.b5.cell 2),(by simpa using e_.b5.cell 3)⟩ (λ_=>?_)⟩
   clear hK K
   have hfin:=Px (x.1,y,x.2.2.1,x.2.2.2.1,x.2.2.2.2.1,x.2.2.2.2.2) wc hsn
   refine aW ?_ hfin
   simp only[aK,Act.put,sb0,sb1,bR]
  .refine bD (w1:=?_) (v:=?_) (by rfl) rfl ?_ ?_
   rotate_left 2
   .go_simp
    constructor<;>rfl
   have hsn:=hx.a3
   have e_:=Ld.out.later hsn.b
   refine hK.out _ _ ⟨(by simpa using e_.b4.cell 0),(by simpa using e_.b4.cell 1),(by simpa using e_.b4.cell 2),(by simpa using e_.b4.cell 3),(by simpa using e_.b11.cell 0),(by simpa using e_.b11.cell 1),(by simpa using e_.b11.cell 2),(by simpa using e_.b11.cell 3),(by simpa using e_.b5.cell 0),(by simpa using e_.b5.cell 1),(by simpa using e_.b5.cell 2),(by simpa using e_.b5.cell 3)⟩ (λ_=>?_)
   clear hK K
   have hfin:=JJ (x.1,x.2.1,x.2.2.1,x.2.2.2.1,x.2.2.2.2.1,W.heap.size) _ hsn
   refine aW ?_ hfin
   simp only[aK,Act.put,sb0,sb1,bR]
 case h2001=>
  intro x W hx
  refine aW (by simp only[aK,Act.put,sb0,sb1,bR];rfl) ?_
  refine oM (i:=5) (j:=6) (k:=7) (Ni:=some 79) (Nj:=some 13) (Nk:=some 14) #[I,I,I,I,I,I,O,O,I,O,O,O] #[I,I,I,I,I,O,I,O,I,O,O,O] #[I,I,I,I,I,O,O,I,I,O,O,O] rfl rfl rfl rfl rfl rfl (jQ au.out (by kernel_rfl)) (by decide) (by decide) (by decide) (λK hK=>?_) (λK hK=>?_) (λK hK=>?_)
  .refine bT Tryz.func21 (by kernel_rfl) rfl #[.agg #[.int .i64 lo2,.int .i64 hi2,.slice Br sr.length dr,.slice Bc sc.length dc]] (by rfl) rfl rfl (by(try simp only[List.map_toArray,List.map_cons,List.map_nil]);rfl) ?_
   refine(FO.out _ (Ld.out.later hx.b)).mono ?_
   rintro e_ wc ⟨y,rfl,hR,hbx⟩
   have hsn:=hx.k3 y hbx hR
   have e_:=Ld.out.later hsn.b
   refine⟨_,rfl,hK.out _ _ ⟨(by simpa using e_.b4.cell 0),(by simpa using e_.b4.cell 1),(by simpa using e_.b4.cell 2),(by simpa using e_.b4.cell 3),(by simpa using e_.b11.cell 0),(by simpa using e_.b11.cell 1),(by simpa using e_.b11.cell 2),(by simpa using e_.b11.cell 3),(by simpa using e_.b5.cell 0),(by simpa using e_.b5.cell 1),(by simpa using e_.b5.cell 2),(by simpa using e_.b5.cell 3)⟩ (λ_=>?_)⟩
   clear hK K
   have hfin:=TU (x.1,x.2.1,y,x.2.2.2.1,x.2.2.2.2.1,x.2.2.2.2.2) wc hsn
   refine aW ?_ hfin
   simp only[aK,Act.put,sb0,sb1,bR]
  .refine bD (w1:=?_) (v:=?_) (by rfl) rfl ?_ ?_
   rotate_left 2
   .go_simp
    constructor<;>rfl
   have hsn:=hx.a1
   have e_:=Ld.out.later hsn.b
   refine hK.out _ _ ⟨(by simpa using e_.b4.cell 0),(by simpa using e_.b4.cell 1),(by simpa using e_.b4.cell 2),(by simpa using e_.b4.cell 3),(by simpa using e_.b11.cell 0),(by simpa using e_.b11.cell 1),(by simpa using e_.b11.cell 2),(by simpa using e_.b11.cell 3),(by simpa using e_.b5.cell 0),(by simpa using e_.b5.cell 1),(by simpa using e_.b5.cell 2),(by simpa using e_.b5.cell 3)⟩ (λ_=>?_)
   clear hK K
   have hfin:=Py (x.1,x.2.1,x.2.2.1,W.heap.size,x.2.2.2.2.1,x.2.2.2.2.2) _ hsn
   refine aW ?_ hfin
   simp only[aK,Act.put,sb0,sb1,bR]
  .refine bD (w1:=?_) (v:=?_) (by rfl) rfl ?_ ?_
   rotate_left 2
   .go_simp
    constructor<;>rfl
   have hsn:=hx.a2
   have e_:=Ld.out.later hsn.b
   refine hK.out _ _ ⟨(by simpa using e_.b4.cell 0),(by simpa using e_.b4.cell 1),(by simpa using e_.b4.cell 2),(by simpa using e_.b4.cell 3),(by simpa using e_.b11.cell 0),(by simpa using e_.b11.cell 1),(by simpa using e_.b11.cell 2),(by simpa using e_.b11.cell 3),(by simpa using e_.b5.cell 0),(by simpa using e_.b5.cell 1),(by simpa using e_.b5.cell 2),(by simpa using e_.b5.cell 3)⟩ (λ_=>?_)
   clear hK K
   have hfin:=Pz (x.1,x.2.1,x.2.2.1,x.2.2.2.1,W.heap.size,x.2.2.2.2.2) _ hsn
   refine aW ?_ hfin
   simp only[aK,Act.put,sb0,sb1,bR]
 case h2010=>
  intro x W hx
  refine aW (by simp only[aK,Act.put,sb0,sb1,bR];rfl) ?_
  refine oM (i:=5) (j:=6) (k:=8) (Ni:=some 79) (Nj:=some 13) (Nk:=some 15) #[I,I,I,I,I,I,O,I,O,O,O,O] #[I,I,I,I,I,O,I,I,O,O,O,O] #[I,I,I,I,I,O,O,I,I,O,O,O] rfl rfl rfl rfl rfl rfl (jQ au.out (by kernel_rfl)) (by decide) (by decide) (by decide) (λK hK=>?_) (λK hK=>?_) (λK hK=>?_)
  .refine bT Tryz.func21 (by kernel_rfl) rfl #[.agg #[.int .i64 lo2,.int .i64 hi2,.slice Br sr.length dr,.slice Bc sc.length dc]] (by rfl) rfl rfl (by(try simp only[List.map_toArray,List.map_cons,List.map_nil]);rfl) ?_
   refine(FO.out _ (Ld.out.later hx.b)).mono ?_
   rintro e_ wc ⟨y,rfl,hR,hbx⟩
   have hsn:=hx.k3 y hbx hR
   have e_:=Ld.out.later hsn.b
   refine⟨_,rfl,hK.out _ _ ⟨(by simpa using e_.b4.cell 0),(by simpa using e_.b4.cell 1),(by simpa using e_.b4.cell 2),(by simpa using e_.b4.cell 3),(by simpa using e_.b11.cell 0),(by simpa using e_.b11.cell 1),(by simpa using e_.b11.cell 2),(by simpa using e_.b11.cell 3),(by simpa using e_.b5.cell 0),(by simpa using e_.b5.cell 1),(by simpa using e_.b5.cell 2),(by simpa using e_.b5.cell 3)⟩ (λ_=>?_)⟩
   clear hK K
   have hfin:=TS (x.1,x.2.1,y,x.2.2.2.1,x.2.2.2.2.1,x.2.2.2.2.2) wc hsn
   refine aW ?_ hfin
   simp only[aK,Act.put,sb0,sb1,bR]
  .refine bD (w1:=?_) (v:=?_) (by rfl) rfl ?_ ?_
   rotate_left 2
   .go_simp
    constructor<;>rfl
   have hsn:=hx.a1
   have e_:=Ld.out.later hsn.b
   refine hK.out _ _ ⟨(by simpa using e_.b4.cell 0),(by simpa using e_.b4.cell 1),(by simpa using e_.b4.cell 2),(by simpa using e_.b4.cell 3),(by simpa using e_.b11.cell 0),(by simpa using e_.b11.cell 1),(by simpa using e_.b11.cell 2),(by simpa using e_.b11.cell 3),(by simpa using e_.b5.cell 0),(by simpa using e_.b5.cell 1),(by simpa using e_.b5.cell 2),(by simpa using e_.b5.cell 3)⟩ (λ_=>?_)
   clear hK K
   have hfin:=Px (x.1,x.2.1,x.2.2.1,W.heap.size,x.2.2.2.2.1,x.2.2.2.2.2) _ hsn
   refine aW ?_ hfin
   simp only[aK,Act.put,sb0,sb1,bR]
  .refine bD (w1:=?_) (v:=?_) (by rfl) rfl ?_ ?_
   rotate_left 2
   .go_simp
    constructor<;>rfl
   have hsn:=hx.a3
   have e_:=Ld.out.later hsn.b
   refine hK.out _ _ ⟨(by simpa using e_.b4.cell 0),(by simpa using e_.b4.cell 1),(by simpa using e_.b4.cell 2),(by simpa using e_.b4.cell 3),(by simpa using e_.b11.cell 0),(by simpa using e_.b11.cell 1),(by simpa using e_.b11.cell 2),(by simpa using e_.b11.cell 3),(by simpa using e_.b5.cell 0),(by simpa using e_.b5.cell 1),(by simpa using e_.b5.cell 2),(by simpa using e_.b5.cell 3)⟩ (λ_=>?_)
   clear hK K
   have hfin:=Pz (x.1,x.2.1,x.2.2.1,x.2.2.2.1,x.2.2.2.2.1,W.heap.size) _ hsn
   refine aW ?_ hfin
   simp only[aK,Act.put,sb0,sb1,bR]
 case h2100=>
  intro x W hx
  refine aW (by simp only[aK,Act.put,sb0,sb1,bR];rfl) ?_
  refine oM (i:=5) (j:=7) (k:=8) (Ni:=some 79) (Nj:=some 14) (Nk:=some 15) #[I,I,I,I,I,I,I,O,O,O,O,O] #[I,I,I,I,I,O,I,I,O,O,O,O] #[I,I,I,I,I,O,I,O,I,O,O,O] rfl rfl rfl rfl rfl rfl (jQ au.out (by kernel_rfl)) (by decide) (by decide) (by decide) (λK hK=>?_) (λK hK=>?_) (λK hK=>?_)
  .refine bT Tryz.func21 (by kernel_rfl) rfl #[.agg #[.int .i64 lo2,.int .i64 hi2,.slice Br sr.length dr,.slice Bc sc.length dc]] (by rfl) rfl rfl (by(try simp only[List.map_toArray,List.map_cons,List.map_nil]);rfl) ?_
   refine(FO.out _ (Ld.out.later hx.b)).mono ?_
   rintro e_ wc ⟨y,rfl,hR,hbx⟩
   have hsn:=hx.k3 y hbx hR
   have e_:=Ld.out.later hsn.b
   refine⟨_,rfl,hK.out _ _ ⟨(by simpa using e_.b4.cell 0),(by simpa using e_.b4.cell 1),(by simpa using e_.b4.cell 2),(by simpa using e_.b4.cell 3),(by simpa using e_.b11.cell 0),(by simpa using e_.b11.cell 1),(by simpa using e_.b11.cell 2),(by simpa using e_.b11.cell 3),(by simpa using e_.b5.cell 0),(by simpa using e_.b5.cell 1),(by simpa using e_.b5.cell 2),(by simpa using e_.b5.cell 3)⟩ (λ_=>?_)⟩
   clear hK K
   have hfin:=TR (x.1,x.2.1,y,x.2.2.2.1,x.2.2.2.2.1,x.2.2.2.2.2) wc hsn
   refine aW ?_ hfin
   simp only[aK,Act.put,sb0,sb1,bR]
  .refine bD (w1:=?_) (v:=?_) (by rfl) rfl ?_ ?_
   rotate_left 2
   .go_simp
    constructor<;>rfl
   have hsn:=hx.a2
   have e_:=Ld.out.later hsn.b
   refine hK.out _ _ ⟨(by simpa using e_.b4.cell 0),(by simpa using e_.b4.cell 1),(by simpa using e_.b4.cell 2),(by simpa using e_.b4.cell 3),(by simpa using e_.b11.cell 0),(by simpa using e_.b11.cell 1),(by simpa using e_.b11.cell 2),(by simpa using e_.b11.cell 3),(by simpa using e_.b5.cell 0),(by simpa using e_.b5.cell 1),(by simpa using e_.b5.cell 2),(by simpa using e_.b5.cell 3)⟩ (λ_=>?_)
   clear hK K
   have hfin:=Px (x.1,x.2.1,x.2.2.1,x.2.2.2.1,W.heap.size,x.2.2.2.2.2) _ hsn
   refine aW ?_ hfin
   simp only[aK,Act.put,sb0,sb1,bR]
  .refine bD (w1:=?_) (v:=?_) (by rfl) rfl ?_ ?_
   rotate_left 2
   .go_simp
    constructor<;>rfl
   have hsn:=hx.a3
   have e_:=Ld.out.later hsn.b
   refine hK.out _ _ ⟨(by simpa using e_.b4.cell 0),(by simpa using e_.b4.cell 1),(by simpa using e_.b4.cell 2),(by simpa using e_.b4.cell 3),(by simpa using e_.b11.cell 0),(by simpa using e_.b11.cell 1),(by simpa using e_.b11.cell 2),(by simpa using e_.b11.cell 3),(by simpa using e_.b5.cell 0),(by simpa using e_.b5.cell 1),(by simpa using e_.b5.cell 2),(by simpa using e_.b5.cell 3)⟩ (λ_=>?_)
   clear hK K
   have hfin:=Py (x.1,x.2.1,x.2.2.1,x.2.2.2.1,x.2.2.2.2.1,W.heap.size) _ hsn
   refine aW ?_ hfin
   simp only[aK,Act.put,sb0,sb1,bR]
 case h3000=>
  intro x W hx
  refine aW (by simp only[aK,Act.put,sb0,sb1,bR];rfl) ?_
  refine oM (i:=6) (j:=7) (k:=8) (Ni:=some 13) (Nj:=some 14) (Nk:=some 15) #[I,I,I,I,I,I,I,O,O,O,O,O] #[I,I,I,I,I,I,O,I,O,O,O,O] #[I,I,I,I,I,I,O,O,I,O,O,O] rfl rfl rfl rfl rfl rfl (jQ au.out (by kernel_rfl)) (by decide) (by decide) (by decide) (λK hK=>?_) (λK hK=>?_) (λK hK=>?_)
  .refine bD (w1:=?_) (v:=?_) (by rfl) rfl ?_ ?_
   rotate_left 2
   .go_simp
    constructor<;>rfl
   have hsn:=hx.a1
   have e_:=Ld.out.later hsn.b
   refine hK.out _ _ ⟨(by simpa using e_.b4.cell 0),(by simpa using e_.b4.cell 1),(by simpa using e_.b4.cell 2),(by simpa using e_.b4.cell 3),(by simpa using e_.b11.cell 0),(by simpa using e_.b11.cell 1),(by simpa using e_.b11.cell 2),(by simpa using e_.b11.cell 3),(by simpa using e_.b5.cell 0),(by simpa using e_.b5.cell 1),(by simpa using e_.b5.cell 2),(by simpa using e_.b5.cell 3)⟩ (λ_=>?_)
   clear hK K
   have hfin:=TR (x.1,x.2.1,x.2.2.1,W.heap.size,x.2.2.2.2.1,x.2.2.2.2.2) _ hsn
   refine aW ?_ hfin
   simp only[aK,Act.put,sb0,sb1,bR]
  .refine bD (w1:=?_) (v:=?_) (by rfl) rfl ?_ ?_
   rotate_left 2
   .go_simp
    constructor<;>rfl
   have hsn:=hx.a2
   have e_:=Ld.out.later hsn.b
   refine hK.out _ _ ⟨(by simpa using e_.b4.cell 0),(by simpa using e_.b4.cell 1),(by simpa using e_.b4.cell 2),(by simpa using e_.b4.cell 3),(by simpa using e_.b11.cell 0),(by simpa using e_.b11.cell 1),(by simpa using e_.b11.cell 2),(by simpa using e_.b11.cell 3),(by simpa using e_.b5.cell 0),(by simpa using e_.b5.cell 1),(by simpa using e_.b5.cell 2),(by simpa using e_.b5.cell 3)⟩ (λ_=>?_)
   clear hK K
   have hfin:=TS (x.1,x.2.1,x.2.2.1,x.2.2.2.1,W.heap.size,x.2.2.2.2.2) _ hsn
   refine aW ?_ hfin
   simp only[aK,Act.put,sb0,sb1,bR]
  .refine bD (w1:=?_) (v:=?_) (by rfl) rfl ?_ ?_
   rotate_left 2
   .go_simp
    constructor<;>rfl
   have hsn:=hx.a3
   have e_:=Ld.out.later hsn.b
   refine hK.out _ _ ⟨(by simpa using e_.b4.cell 0),(by simpa using e_.b4.cell 1),(by simpa using e_.b4.cell 2),(by simpa using e_.b4.cell 3),(by simpa using e_.b11.cell 0),(by simpa using e_.b11.cell 1),(by simpa using e_.b11.cell 2),(by simpa using e_.b11.cell 3),(by simpa using e_.b5.cell 0),(by simpa using e_.b5.cell 1),(by simpa using e_.b5.cell 2),(by simpa using e_.b5.cell 3)⟩ (λ_=>?_)
   clear hK K
   have hfin:=TU (x.1,x.2.1,x.2.2.1,x.2.2.2.1,x.2.2.2.2.1,W.heap.size) _ hsn
   refine aW ?_ hfin
   simp only[aK,Act.put,sb0,sb1,bR]
 case h0011=>
  intro x W hx
  refine aW (by simp only[aK,Act.put,sb0,sb1,bR];rfl) ?_
  refine tF (i:=1) (j:=6) (Ni:=some 75) (Nj:=some 13) #[I,I,I,O,I,O,O,I,I,O,O,O] #[I,O,I,O,I,O,I,I,I,O,O,O] rfl rfl rfl rfl (jL au.out (by kernel_rfl)) (by decide) (by decide) (λK hK=>?_) (λK hK=>?_)
  .refine bT Tryz.func21 (by kernel_rfl) rfl #[.agg #[.int .i64 lo,.int .i64 hi,.slice Ar rr.length cr,.slice Ac rc.length cc]] (by rfl) rfl rfl (by(try simp only[List.map_toArray,List.map_cons,List.map_nil]);rfl) ?_
   refine(wL.out _ (Ld.out.later hx.b)).mono ?_
   rintro e_ wc ⟨y,rfl,hR,hbx⟩
   have hsn:=hx.k1 y hbx hR
   have e_:=Ld.out.later hsn.b
   refine⟨_,rfl,hK.out _ _ ⟨(by simpa using e_.b4.cell 0),(by simpa using e_.b4.cell 1),(by simpa using e_.b4.cell 2),(by simpa using e_.b4.cell 3),(by simpa using e_.b11.cell 0),(by simpa using e_.b11.cell 1),(by simpa using e_.b11.cell 2),(by simpa using e_.b11.cell 3),(by simpa using e_.b5.cell 0),(by simpa using e_.b5.cell 1),(by simpa using e_.b5.cell 2),(by simpa using e_.b5.cell 3)⟩ (λ_=>?_)⟩
   clear hK K
   have hfin:=PE (y,x.2.1,x.2.2.1,x.2.2.2.1,x.2.2.2.2.1,x.2.2.2.2.2) wc hsn
   refine aW ?_ hfin
   simp only[aK,Act.put,sb0,sb1,bR]
  .refine bD (w1:=?_) (v:=?_) (by rfl) rfl ?_ ?_
   rotate_left 2
   .go_simp
    constructor<;>rfl
   have hsn:=hx.a1
   have e_:=Ld.out.later hsn.b
   refine hK.out _ _ ⟨(by simpa using e_.b4.cell 0),(by simpa using e_.b4.cell 1),(by simpa using e_.b4.cell 2),(by simpa using e_.b4.cell 3),(by simpa using e_.b11.cell 0),(by simpa using e_.b11.cell 1),(by simpa using e_.b11.cell 2),(by simpa using e_.b11.cell 3),(by simpa using e_.b5.cell 0),(by simpa using e_.b5.cell 1),(by simpa using e_.b5.cell 2),(by simpa using e_.b5.cell 3)⟩ (λ_=>?_)
   clear hK K
   have hfin:=PG (x.1,x.2.1,x.2.2.1,W.heap.size,x.2.2.2.2.1,x.2.2.2.2.2) _ hsn
   refine aW ?_ hfin
   simp only[aK,Act.put,sb0,sb1,bR]
 case h0101=>
  intro x W hx
  refine aW (by simp only[aK,Act.put,sb0,sb1,bR];rfl) ?_
  refine tF (i:=1) (j:=7) (Ni:=some 75) (Nj:=some 14) #[I,I,I,O,I,O,I,O,I,O,O,O] #[I,O,I,O,I,O,I,I,I,O,O,O] rfl rfl rfl rfl (jL au.out (by kernel_rfl)) (by decide) (by decide) (λK hK=>?_) (λK hK=>?_)
  .refine bT Tryz.func21 (by kernel_rfl) rfl #[.agg #[.int .i64 lo,.int .i64 hi,.slice Ar rr.length cr,.slice Ac rc.length cc]] (by rfl) rfl rfl (by(try simp only[List.map_toArray,List.map_cons,List.map_nil]);rfl) ?_
   refine(wL.out _ (Ld.out.later hx.b)).mono ?_
   rintro e_ wc ⟨y,rfl,hR,hbx⟩
   have hsn:=hx.k1 y hbx hR
   have e_:=Ld.out.later hsn.b
   refine⟨_,rfl,hK.out _ _ ⟨(by simpa using e_.b4.cell 0),(by simpa using e_.b4.cell 1),(by simpa using e_.b4.cell 2),(by simpa using e_.b4.cell 3),(by simpa using e_.b11.cell 0),(by simpa using e_.b11.cell 1),(by simpa using e_.b11.cell 2),(by simpa using e_.b11.cell 3),(by simpa using e_.b5.cell 0),(by simpa using e_.b5.cell 1),(by simpa using e_.b5.cell 2),(by simpa using e_.b5.cell 3)⟩ (λ_=>?_)⟩
   clear hK K
   have hfin:=PD (y,x.2.1,x.2.2.1,x.2.2.2.1,x.2.2.2.2.1,x.2.2.2.2.2) wc hsn
   refine aW ?_ hfin
   simp only[aK,Act.put,sb0,sb1,bR]
  .refine bD (w1:=?_) (v:=?_) (by rfl) rfl ?_ ?_
   rotate_left 2
   .go_simp
    constructor<;>rfl
   have hsn:=hx.a2
   have e_:=Ld.out.later hsn.b
   refine hK.out _ _ ⟨(by simpa using e_.b4.cell 0),(by simpa using e_.b4.cell 1),(by simpa using e_.b4.cell 2),(by simpa using e_.b4.cell 3),(by simpa using e_.b11.cell 0),(by simpa using e_.b11.cell 1),(by simpa using e_.b11.cell 2),(by simpa using e_.b11.cell 3),(by simpa using e_.b5.cell 0),(by simpa using e_.b5.cell 1),(by simpa using e_.b5.cell 2),(by simpa using e_.b5.cell 3)⟩ (λ_=>?_)
   clear hK K
   have hfin:=PG (x.1,x.2.1,x.2.2.1,x.2.2.2.1,W.heap.size,x.2.2.2.2.2) _ hsn
   refine aW ?_ hfin
   simp only[aK,Act.put,sb0,sb1,bR]
 case h0110=>
  intro x W hx
  refine aW (by simp only[aK,Act.put,sb0,sb1,bR];rfl) ?_
  refine tF (i:=1) (j:=8) (Ni:=some 75) (Nj:=some 15) #[I,I,I,O,I,O,I,I,O,O,O,O] #[I,O,I,O,I,O,I,I,I,O,O,O] rfl rfl rfl rfl (jL au.out (by kernel_rfl)) (by decide) (by decide) (λK hK=>?_) (λK hK=>?_)
  .refine bT Tryz.func21 (by kernel_rfl) rfl #[.agg #[.int .i64 lo,.int .i64 hi,.slice Ar rr.length cr,.slice Ac rc.length cc]] (by rfl) rfl rfl (by(try simp only[List.map_toArray,List.map_cons,List.map_nil]);rfl) ?_
   refine(wL.out _ (Ld.out.later hx.b)).mono ?_
   rintro e_ wc ⟨y,rfl,hR,hbx⟩
   have hsn:=hx.k1 y hbx hR
   have e_:=Ld.out.later hsn.b
   refine⟨_,rfl,hK.out _ _ ⟨(by simpa using e_.b4.cell 0),(by simpa using e_.b4.cell 1),(by simpa using e_.b4.cell 2),(by simpa using e_.b4.cell 3),(by simpa using e_.b11.cell 0),(by simpa using e_.b11.cell 1),(by simpa using e_.b11.cell 2),(by simpa using e_.b11.cell 3),(by simpa using e_.b5.cell 0),(by simpa using e_.b5.cell 1),(by simpa using e_.b5.cell 2),(by simpa using e_.b5.cell 3)⟩ (λ_=>?_)⟩
   clear hK K
   have hfin:=PC (y,x.2.1,x.2.2.1,x.2.2.2.1,x.2.2.2.2.1,x.2.2.2.2.2) wc hsn
   refine aW ?_ hfin
   simp only[aK,Act.put,sb0,sb1,bR]
  .refine bD (w1:=?_) (v:=?_) (by rfl) rfl ?_ ?_
   rotate_left 2
   .go_simp
    constructor<;>rfl
   have hsn:=hx.a3
   have e_:=Ld.out.later hsn.b
   refine hK.out _ _ ⟨(by simpa using e_.b4.cell 0),(by simpa using e_.b4.cell 1),(by simpa using e_.b4.cell 2),(by simpa using e_.b4.cell 3),(by simpa using e_.b11.cell 0),(by simpa using e_.b11.cell 1),(by simpa using e_.b11.cell 2),(by simpa using e_.b11.cell 3),(by simpa using e_.b5.cell 0),(by simpa using e_.b5.cell 1),(by simpa using e_.b5.cell 2),(by simpa using e_.b5.cell 3)⟩ (λ_=>?_)
   clear hK K
   have hfin:=PG (x.1,x.2.1,x.2.2.1,x.2.2.2.1,x.2.2.2.2.1,W.heap.size) _ hsn
   refine aW ?_ hfin
   simp only[aK,Act.put,sb0,sb1,bR]
 case h1001=>
  intro x W hx
  refine aW (by simp only[aK,Act.put,sb0,sb1,bR];rfl) ?_
  refine oM (i:=3) (j:=6) (k:=7) (Ni:=some 77) (Nj:=some 13) (Nk:=some 14) #[I,I,I,I,I,O,O,O,I,O,O,O] #[I,I,I,O,I,O,I,O,I,O,O,O] #[I,I,I,O,I,O,O,I,I,O,O,O] rfl rfl rfl rfl rfl rfl (jQ au.out (by kernel_rfl)) (by decide) (by decide) (by decide) (λK hK=>?_) (λK hK=>?_) (λK hK=>?_)
  .refine bT Tryz.func21 (by kernel_rfl) rfl #[.agg #[.int .i64 lo,.int .i64 hi,.slice Ar rr.length cr,.slice Xc xs.length xc]] (by rfl) rfl rfl (by(try simp only[List.map_toArray,List.map_cons,List.map_nil]);rfl) ?_
   refine(FZ.out _ (Ld.out.later hx.b)).mono ?_
   rintro e_ wc ⟨y,rfl,hR,hbx⟩
   have hsn:=hx.k2 y hbx hR
   have e_:=Ld.out.later hsn.b
   refine⟨_,rfl,hK.out _ _ ⟨(by simpa using e_.b4.cell 0),(by simpa using e_.b4.cell 1),(by simpa using e_.b4.cell 2),(by simpa using e_.b4.cell 3),(by simpa using e_.b11.cell 0),(by simpa using e_.b11.cell 1),(by simpa using e_.b11.cell 2),(by simpa using e_.b11.cell 3),(by simpa using e_.b5.cell 0),(by simpa using e_.b5.cell 1),(by simpa using e_.b5.cell 2),(by simpa using e_.b5.cell 3)⟩ (λ_=>?_)⟩
   clear hK K
   have hfin:=TY (x.1,y,x.2.2.1,x.2.2.2.1,x.2.2.2.2.1,x.2.2.2.2.2) wc hsn
   refine aW ?_ hfin
   simp only[aK,Act.put,sb0,sb1,bR]
  .refine bD (w1:=?_) (v:=?_) (by rfl) rfl ?_ ?_
   rotate_left 2
   .go_simp
    constructor<;>rfl
   have hsn:=hx.a1
   have e_:=Ld.out.later hsn.b
   refine hK.out _ _ ⟨(by simpa using e_.b4.cell 0),(by simpa using e_.b4.cell 1),(by simpa using e_.b4.cell 2),(by simpa using e_.b4.cell 3),(by simpa using e_.b11.cell 0),(by simpa using e_.b11.cell 1),(by simpa using e_.b11.cell 2),(by simpa using e_.b11.cell 3),(by simpa using e_.b5.cell 0),(by simpa using e_.b5.cell 1),(by simpa using e_.b5.cell 2),(by simpa using e_.b5.cell 3)⟩ (λ_=>?_)
   clear hK K
   have hfin:=PD (x.1,x.2.1,x.2.2.1,W.heap.size,x.2.2.2.2.1,x.2.2.2.2.2) _ hsn
   refine aW ?_ hfin
   simp only[aK,Act.put,sb0,sb1,bR]
  .refine bD (w1:=?_) (v:=?_) (by rfl) rfl ?_ ?_
   rotate_left 2
   .go_simp
    constructor<;>rfl
   have hsn:=hx.a2
   have e_:=Ld.out.later hsn.b
   refine hK.out _ _ ⟨(by simpa using e_.b4.cell 0),(by simpa using e_.b4.cell 1),(by simpa using e_.b4.cell 2),(by simpa using e_.b4.cell 3),(by simpa using e_.b11.cell 0),(by simpa using e_.b11.cell 1),(by simpa using e_.b11.cell 2),(by simpa using e_.b11.cell 3),(by simpa using e_.b5.cell 0),(by simpa using e_.b5.cell 1),(by simpa using e_.b5.cell 2),(by simpa using e_.b5.cell 3)⟩ (λ_=>?_)
   clear hK K
   have hfin:=PE (x.1,x.2.1,x.2.2.1,x.2.2.2.1,W.heap.size,x.2.2.2.2.2) _ hsn
   refine aW ?_ hfin
   simp only[aK,Act.put,sb0,sb1,bR]
 case h1010=>
  intro x W hx
  refine aW (by simp only[aK,Act.put,sb0,sb1,bR];rfl) ?_
  refine oM (i:=3) (j:=6) (k:=8) (Ni:=some 77) (Nj:=some 13) (Nk:=some 15) #[I,I,I,I,I,O,O,I,O,O,O,O] #[I,I,I,O,I,O,I,I,O,O,O,O] #[I,I,I,O,I,O,O,I,I,O,O,O] rfl rfl rfl rfl rfl rfl (jQ au.out (by kernel_rfl)) (by decide) (by decide) (by decide) (λK hK=>?_) (λK hK=>?_) (λK hK=>?_)
  .refine bT Tryz.func21 (by kernel_rfl) rfl #[.agg #[.int .i64 lo,.int .i64 hi,.slice Ar rr.length cr,.slice Xc xs.length xc]] (by rfl) rfl rfl (by(try simp only[List.map_toArray,List.map_cons,List.map_nil]);rfl) ?_
   refine(FZ.out _ (Ld.out.later hx.b)).mono ?_
   rintro e_ wc ⟨y,rfl,hR,hbx⟩
   have hsn:=hx.k2 y hbx hR
   have e_:=Ld.out.later hsn.b
   refine⟨_,rfl,hK.out _ _ ⟨(by simpa using e_.b4.cell 0),(by simpa using e_.b4.cell 1),(by simpa using e_.b4.cell 2),(by simpa using e_.b4.cell 3),(by simpa using e_.b11.cell 0),(by simpa using e_.b11.cell 1),(by simpa using e_.b11.cell 2),(by simpa using e_.b11.cell 3),(by simpa using e_.b5.cell 0),(by simpa using e_.b5.cell 1),(by simpa using e_.b5.cell 2),(by simpa using e_.b5.cell 3)⟩ (λ_=>?_)⟩
   clear hK K
   have hfin:=TW (x.1,y,x.2.2.1,x.2.2.2.1,x.2.2.2.2.1,x.2.2.2.2.2) wc hsn
   refine aW ?_ hfin
   simp only[aK,Act.put,sb0,sb1,bR]
  .refine bD (w1:=?_) (v:=?_) (by rfl) rfl ?_ ?_
   rotate_left 2
   .go_simp
    constructor<;>rfl
   have hsn:=hx.a1
   have e_:=Ld.out.later hsn.b
   refine hK.out _ _ ⟨(by simpa using e_.b4.cell 0),(by simpa using e_.b4.cell 1),(by simpa using e_.b4.cell 2),(by simpa using e_.b4.cell 3),(by simpa using e_.b11.cell 0),(by simpa using e_.b11.cell 1),(by simpa using e_.b11.cell 2),(by simpa using e_.b11.cell 3),(by simpa using e_.b5.cell 0),(by simpa using e_.b5.cell 1),(by simpa using e_.b5.cell 2),(by simpa using e_.b5.cell 3)⟩ (λ_=>?_)
   clear hK K
   have hfin:=PC (x.1,x.2.1,x.2.2.1,W.heap.size,x.2.2.2.2.1,x.2.2.2.2.2) _ hsn
   refine aW ?_ hfin
   simp only[aK,Act.put,sb0,sb1,bR]
  .refine bD (w1:=?_) (v:=?_) (by rfl) rfl ?_ ?_
   rotate_left 2
   .go_simp
    constructor<;>rfl
   have hsn:=hx.a3
   have e_:=Ld.out.later hsn.b
   refine hK.out _ _ ⟨(by simpa using e_.b4.cell 0),(by simpa using e_.b4.cell 1),(by simpa using e_.b4.cell 2),(by simpa using e_.b4.cell 3),(by simpa using e_.b11.cell 0),(by simpa using e_.b11.cell 1),(by simpa using e_.b11.cell 2),(by simpa using e_.b11.cell 3),(by simpa using e_.b5.cell 0),(by simpa using e_.b5.cell 1),(by simpa using e_.b5.cell 2),(by simpa using e_.b5.cell 3)⟩ (λ_=>?_)
   clear hK K
   have hfin:=PE (x.1,x.2.1,x.2.2.1,x.2.2.2.1,x.2.2.2.2.1,W.heap.size) _ hsn
   refine aW ?_ hfin
   simp only[aK,Act.put,sb0,sb1,bR]
 case h1100=>
  intro x W hx
  refine aW (by simp only[aK,Act.put,sb0,sb1,bR];rfl) ?_
  refine oM (i:=3) (j:=7) (k:=8) (Ni:=some 77) (Nj:=some 14) (Nk:=some 15) #[I,I,I,I,I,O,I,O,O,O,O,O] #[I,I,I,O,I,O,I,I,O,O,O,O] #[I,I,I,O,I,O,I,O,I,O,O,O] rfl rfl rfl rfl rfl rfl (jQ au.out (by kernel_rfl)) (by decide) (by decide) (by decide) (λK hK=>?_) (λK hK=>?_) (λK hK=>?_)
  .refine bT Tryz.func21 (by kernel_rfl) rfl #[.agg #[.int .i64 lo,.int .i64 hi,.slice Ar rr.length cr,.slice Xc xs.length xc]] (by rfl) rfl rfl (by(try simp only[List.map_toArray,List.map_cons,List.map_nil]);rfl) ?_
   refine(FZ.out _ (Ld.out.later hx.b)).mono ?_
   rintro e_ wc ⟨y,rfl,hR,hbx⟩
   have hsn:=hx.k2 y hbx hR
   have e_:=Ld.out.later hsn.b
   refine⟨_,rfl,hK.out _ _ ⟨(by simpa using e_.b4.cell 0),(by simpa using e_.b4.cell 1),(by simpa using e_.b4.cell 2),(by simpa using e_.b4.cell 3),(by simpa using e_.b11.cell 0),(by simpa using e_.b11.cell 1),(by simpa using e_.b11.cell 2),(by simpa using e_.b11.cell 3),(by simpa using e_.b5.cell 0),(by simpa using e_.b5.cell 1),(by simpa using e_.b5.cell 2),(by simpa using e_.b5.cell 3)⟩ (λ_=>?_)⟩
   clear hK K
   have hfin:=TV (x.1,y,x.2.2.1,x.2.2.2.1,x.2.2.2.2.1,x.2.2.2.2.2) wc hsn
   refine aW ?_ hfin
   simp only[aK,Act.put,sb0,sb1,bR]
  .refine bD (w1:=?_) (v:=?_) (by rfl) rfl ?_ ?_
   rotate_left 2
   .go_simp
    constructor<;>rfl
   have hsn:=hx.a2
   have e_:=Ld.out.later hsn.b
   refine hK.out _ _ ⟨(by simpa using e_.b4.cell 0),(by simpa using e_.b4.cell 1),(by simpa using e_.b4.cell 2),(by simpa using e_.b4.cell 3),(by simpa using e_.b11.cell 0),(by simpa using e_.b11.cell 1),(by simpa using e_.b11.cell 2),(by simpa using e_.b11.cell 3),(by simpa using e_.b5.cell 0),(by simpa using e_.b5.cell 1),(by simpa using e_.b5.cell 2),(by simpa using e_.b5.cell 3)⟩ (λ_=>?_)
   clear hK K
   have hfin:=PC (x.1,x.2.1,x.2.2.1,x.2.2.2.1,W.heap.size,x.2.2.2.2.2) _ hsn
   refine aW ?_ hfin
   simp only[aK,Act.put,sb0,sb1,bR]
  .refine bD (w1:=?_) (v:=?_) (by rfl) rfl ?_ ?_
   rotate_left 2
   .go_simp
    constructor<;>rfl
   have hsn:=hx.a3
   have e_:=Ld.out.later hsn.b
   refine hK.out _ _ ⟨(by simpa using e_.b4.cell 0),(by simpa using e_.b4.cell 1),(by simpa using e_.b4.cell 2),(by simpa using e_.b4.cell 3),(by simpa using e_.b11.cell 0),(by simpa using e_.b11.cell 1),(by simpa using e_.b11.cell 2),(by simpa using e_.b11.cell 3),(by simpa using e_.b5.cell 0),(by simpa using e_.b5.cell 1),(by simpa using e_.b5.cell 2),(by simpa using e_.b5.cell 3)⟩ (λ_=>?_)
   clear hK K
   have hfin:=PD (x.1,x.2.1,x.2.2.1,x.2.2.2.1,x.2.2.2.2.1,W.heap.size) _ hsn
   refine aW ?_ hfin
   simp only[aK,Act.put,sb0,sb1,bR]
 case h2000=>
  intro x W hx
  refine aW (by simp only[aK,Act.put,sb0,sb1,bR];rfl) ?_
  refine Jb (i:=5) (j:=6) (k:=7) (m:=8) (Ni:=some 79) (Nj:=some 13) (Nk:=some 14) (Nm:=some 15) #[I,I,I,I,I,I,O,O,O,O,O,O] #[I,I,I,I,I,O,I,O,O,O,O,O] #[I,I,I,I,I,O,O,I,O,O,O,O] #[I,I,I,I,I,O,O,O,I,O,O,O] rfl rfl rfl rfl rfl rfl rfl rfl (yE au.out (by kernel_rfl)) (by decide) (by decide) (by decide) (by decide) (λK hK=>?_) (λK hK=>?_) (λK hK=>?_) (λK hK=>?_)
  .refine bT Tryz.func21 (by kernel_rfl) rfl #[.agg #[.int .i64 lo2,.int .i64 hi2,.slice Br sr.length dr,.slice Bc sc.length dc]] (by rfl) rfl rfl (by(try simp only[List.map_toArray,List.map_cons,List.map_nil]);rfl) ?_
   refine(FO.out _ (Ld.out.later hx.b)).mono ?_
   rintro e_ wc ⟨y,rfl,hR,hbx⟩
   have hsn:=hx.k3 y hbx hR
   have e_:=Ld.out.later hsn.b
   refine⟨_,rfl,hK.out _ _ ⟨(by simpa using e_.b4.cell 0),(by simpa using e_.b4.cell 1),(by simpa using e_.b4.cell 2),(by simpa using e_.b4.cell 3),(by simpa using e_.b11.cell 0),(by simpa using e_.b11.cell 1),(by simpa using e_.b11.cell 2),(by simpa using e_.b11.cell 3),(by simpa using e_.b5.cell 0),(by simpa using e_.b5.cell 1),(by simpa using e_.b5.cell 2),(by simpa using e_.b5.cell 3)⟩ (λ_=>?_)⟩
   clear hK K
   have hfin:=aaY (x.1,x.2.1,y,x.2.2.2.1,x.2.2.2.2.1,x.2.2.2.2.2) wc hsn
   refine aW ?_ hfin
   simp only[aK,Act.put,sb0,sb1,bR]
  .refine bD (w1:=?_) (v:=?_) (by rfl) rfl ?_ ?_
   rotate_left 2
   .go_simp
    constructor<;>rfl
   have hsn:=hx.a1
   have e_:=Ld.out.later hsn.b
   refine hK.out _ _ ⟨(by simpa using e_.b4.cell 0),(by simpa using e_.b4.cell 1),(by simpa using e_.b4.cell 2),(by simpa using e_.b4.cell 3),(by simpa using e_.b11.cell 0),(by simpa using e_.b11.cell 1),(by simpa using e_.b11.cell 2),(by simpa using e_.b11.cell 3),(by simpa using e_.b5.cell 0),(by simpa using e_.b5.cell 1),(by simpa using e_.b5.cell 2),(by simpa using e_.b5.cell 3)⟩ (λ_=>?_)
   clear hK K
   have hfin:=TV (x.1,x.2.1,x.2.2.1,W.heap.size,x.2.2.2.2.1,x.2.2.2.2.2) _ hsn
   refine aW ?_ hfin
   simp only[aK,Act.put,sb0,sb1,bR]
  .refine bD (w1:=?_) (v:=?_) (by rfl) rfl ?_ ?_
   rotate_left 2
   .go_simp
    constructor<;>rfl
   have hsn:=hx.a2
   have e_:=Ld.out.later hsn.b
   refine hK.out _ _ ⟨(by simpa using e_.b4.cell 0),(by simpa using e_.b4.cell 1),(by simpa using e_.b4.cell 2),(by simpa using e_.b4.cell 3),(by simpa using e_.b11.cell 0),(by simpa using e_.b11.cell 1),(by simpa using e_.b11.cell 2),(by simpa using e_.b11.cell 3),(by simpa using e_.b5.cell 0),(by simpa using e_.b5.cell 1),(by simpa using e_.b5.cell 2),(by simpa using e_.b5.cell 3)⟩ (λ_=>?_)
   clear hK K
   have hfin:=TW (x.1,x.2.1,x.2.2.1,x.2.2.2.1,W.heap.size,x.2.2.2.2.2) _ hsn
   refine aW ?_ hfin
   simp only[aK,Act.put,sb0,sb1,bR]
  .refine bD (w1:=?_) (v:=?_) (by rfl) rfl ?_ ?_
   rotate_left 2
   .go_simp
    constructor<;>rfl
   have hsn:=hx.a3
   have e_:=Ld.out.later hsn.b
   refine hK.out _ _ ⟨(by simpa using e_.b4.cell 0),(by simpa using e_.b4.cell 1),(by simpa using e_.b4.cell 2),(by simpa using e_.b4.cell 3),(by simpa using e_.b11.cell 0),(by simpa using e_.b11.cell 1),(by simpa using e_.b11.cell 2),(by simpa using e_.b11.cell 3),(by simpa using e_.b5.cell 0),(by simpa using e_.b5.cell 1),(by simpa using e_.b5.cell 2),(by simpa using e_.b5.cell 3)⟩ (λ_=>?_)
   clear hK K
   have hfin:=TY (x.1,x.2.1,x.2.2.1,x.2.2.2.1,x.2.2.2.2.1,W.heap.size) _ hsn
   refine aW ?_ hfin
   simp only[aK,Act.put,sb0,sb1,bR]
 case h0001=>
  intro x W hx
  refine aW (by simp only[aK,Act.put,sb0,sb1,bR];rfl) ?_
  refine oM (i:=1) (j:=6) (k:=7) (Ni:=some 75) (Nj:=some 13) (Nk:=some 14) #[I,I,I,O,I,O,O,O,I,O,O,O] #[I,O,I,O,I,O,I,O,I,O,O,O] #[I,O,I,O,I,O,O,I,I,O,O,O] rfl rfl rfl rfl rfl rfl (jQ au.out (by kernel_rfl)) (by decide) (by decide) (by decide) (λK hK=>?_) (λK hK=>?_) (λK hK=>?_)
  .refine bT Tryz.func21 (by kernel_rfl) rfl #[.agg #[.int .i64 lo,.int .i64 hi,.slice Ar rr.length cr,.slice Ac rc.length cc]] (by rfl) rfl rfl (by(try simp only[List.map_toArray,List.map_cons,List.map_nil]);rfl) ?_
   refine(wL.out _ (Ld.out.later hx.b)).mono ?_
   rintro e_ wc ⟨y,rfl,hR,hbx⟩
   have hsn:=hx.k1 y hbx hR
   have e_:=Ld.out.later hsn.b
   refine⟨_,rfl,hK.out _ _ ⟨(by simpa using e_.b4.cell 0),(by simpa using e_.b4.cell 1),(by simpa using e_.b4.cell 2),(by simpa using e_.b4.cell 3),(by simpa using e_.b11.cell 0),(by simpa using e_.b11.cell 1),(by simpa using e_.b11.cell 2),(by simpa using e_.b11.cell 3),(by simpa using e_.b5.cell 0),(by simpa using e_.b5.cell 1),(by simpa using e_.b5.cell 2),(by simpa using e_.b5.cell 3)⟩ (λ_=>?_)⟩
   clear hK K
   have hfin:=Ub (y,x.2.1,x.2.2.1,x.2.2.2.1,x.2.2.2.2.1,x.2.2.2.2.2) wc hsn
   refine aW ?_ hfin
   simp only[aK,Act.put,sb0,sb1,bR]
  .refine bD (w1:=?_) (v:=?_) (by rfl) rfl ?_ ?_
   rotate_left 2
   .go_simp
    constructor<;>rfl
   have hsn:=hx.a1
   have e_:=Ld.out.later hsn.b
   refine hK.out _ _ ⟨(by simpa using e_.b4.cell 0),(by simpa using e_.b4.cell 1),(by simpa using e_.b4.cell 2),(by simpa using e_.b4.cell 3),(by simpa using e_.b11.cell 0),(by simpa using e_.b11.cell 1),(by simpa using e_.b11.cell 2),(by simpa using e_.b11.cell 3),(by simpa using e_.b5.cell 0),(by simpa using e_.b5.cell 1),(by simpa using e_.b5.cell 2),(by simpa using e_.b5.cell 3)⟩ (λ_=>?_)
   clear hK K
   have hfin:=Ud (x.1,x.2.1,x.2.2.1,W.heap.size,x.2.2.2.2.1,x.2.2.2.2.2) _ hsn
   refine aW ?_ hfin
   simp only[aK,Act.put,sb0,sb1,bR]
  .refine bD (w1:=?_) (v:=?_) (by rfl) rfl ?_ ?_
   rotate_left 2
   .go_simp
    constructor<;>rfl
   have hsn:=hx.a2
   have e_:=Ld.out.later hsn.b
   refine hK.out _ _ ⟨(by simpa using e_.b4.cell 0),(by simpa using e_.b4.cell 1),(by simpa using e_.b4.cell 2),(by simpa using e_.b4.cell 3),(by simpa using e_.b11.cell 0),(by simpa using e_.b11.cell 1),(by simpa using e_.b11.cell 2),(by simpa using e_.b11.cell 3),(by simpa using e_.b5.cell 0),(by simpa using e_.b5.cell 1),(by simpa using e_.b5.cell 2),(by simpa using e_.b5.cell 3)⟩ (λ_=>?_)
   clear hK K
   have hfin:=Ue (x.1,x.2.1,x.2.2.1,x.2.2.2.1,W.heap.size,x.2.2.2.2.2) _ hsn
   refine aW ?_ hfin
   simp only[aK,Act.put,sb0,sb1,bR]
 case h0010=>
  intro x W hx
  refine aW (by simp only[aK,Act.put,sb0,sb1,bR];rfl) ?_
  refine oM (i:=1) (j:=6) (k:=8) (Ni:=some 75) (Nj:=some 13) (Nk:=some 15) #[I,I,I,O,I,O,O,I,O,O,O,O] #[I,O,I,O,I,O,I,I,O,O,O,O] #[I,O,I,O,I,O,O,I,I,O,O,O] rfl rfl rfl rfl rfl rfl (jQ au.out (by kernel_rfl)) (by decide) (by decide) (by decide) (λK hK=>?_) (λK hK=>?_) (λK hK=>?_)
  .refine bT Tryz.func21 (by kernel_rfl) rfl #[.agg #[.int .i64 lo,.int .i64 hi,.slice Ar rr.length cr,.slice Ac rc.length cc]] (by rfl) rfl rfl (by(try simp only[List.map_toArray,List.map_cons,List.map_nil]);rfl) ?_
   refine(wL.out _ (Ld.out.later hx.b)).mono ?_
   rintro e_ wc ⟨y,rfl,hR,hbx⟩
   have hsn:=hx.k1 y hbx hR
   have e_:=Ld.out.later hsn.b
   refine⟨_,rfl,hK.out _ _ ⟨(by simpa using e_.b4.cell 0),(by simpa using e_.b4.cell 1),(by simpa using e_.b4.cell 2),(by simpa using e_.b4.cell 3),(by simpa using e_.b11.cell 0),(by simpa using e_.b11.cell 1),(by simpa using e_.b11.cell 2),(by simpa using e_.b11.cell 3),(by simpa using e_.b5.cell 0),(by simpa using e_.b5.cell 1),(by simpa using e_.b5.cell 2),(by simpa using e_.b5.cell 3)⟩ (λ_=>?_)⟩
   clear hK K
   have hfin:=Ua (y,x.2.1,x.2.2.1,x.2.2.2.1,x.2.2.2.2.1,x.2.2.2.2.2) wc hsn
   refine aW ?_ hfin
   simp only[aK,Act.put,sb0,sb1,bR]
  .refine bD (w1:=?_) (v:=?_) (by rfl) rfl ?_ ?_
   rotate_left 2
   .go_simp
    constructor<;>rfl
   have hsn:=hx.a1
   have e_:=Ld.out.later hsn.b
   refine hK.out _ _ ⟨(by simpa using e_.b4.cell 0),(by simpa using e_.b4.cell 1),(by simpa using e_.b4.cell 2),(by simpa using e_.b4.cell 3),(by simpa using e_.b11.cell 0),(by simpa using e_.b11.cell 1),(by simpa using e_.b11.cell 2),(by simpa using e_.b11.cell 3),(by simpa using e_.b5.cell 0),(by simpa using e_.b5.cell 1),(by simpa using e_.b5.cell 2),(by simpa using e_.b5.cell 3)⟩ (λ_=>?_)
   clear hK K
   have hfin:=Uc (x.1,x.2.1,x.2.2.1,W.heap.size,x.2.2.2.2.1,x.2.2.2.2.2) _ hsn
   refine aW ?_ hfin
   simp only[aK,Act.put,sb0,sb1,bR]
  .refine bD (w1:=?_) (v:=?_) (by rfl) rfl ?_ ?_
   rotate_left 2
   .go_simp
    constructor<;>rfl
   have hsn:=hx.a3
   have e_:=Ld.out.later hsn.b
   refine hK.out _ _ ⟨(by simpa using e_.b4.cell 0),(by simpa using e_.b4.cell 1),(by simpa using e_.b4.cell 2),(by simpa using e_.b4.cell 3),(by simpa using e_.b11.cell 0),(by simpa using e_.b11.cell 1),(by simpa using e_.b11.cell 2),(by simpa using e_.b11.cell 3),(by simpa using e_.b5.cell 0),(by simpa using e_.b5.cell 1),(by simpa using e_.b5.cell 2),(by simpa using e_.b5.cell 3)⟩ (λ_=>?_)
   clear hK K
   have hfin:=Ue (x.1,x.2.1,x.2.2.1,x.2.2.2.1,x.2.2.2.2.1,W.heap.size) _ hsn
   refine aW ?_ hfin
   simp only[aK,Act.put,sb0,sb1,bR]
 case h0100=>
  intro x W hx
  refine aW (by simp only[aK,Act.put,sb0,sb1,bR];rfl) ?_
  refine oM (i:=1) (j:=7) (k:=8) (Ni:=some 75) (Nj:=some 14) (Nk:=some 15) #[I,I,I,O,I,O,I,O,O,O,O,O] #[I,O,I,O,I,O,I,I,O,O,O,O] #[I,O,I,O,I,O,I,O,I,O,O,O] rfl rfl rfl rfl rfl rfl (jQ au.out (by kernel_rfl)) (by decide) (by decide) (by decide) (λK hK=>?_) (λK hK=>?_) (λK hK=>?_)
  .refine bT Tryz.func21 (by kernel_rfl) rfl #[.agg #[.int .i64 lo,.int .i64 hi,.slice Ar rr.length cr,.slice Ac rc.length cc]] (by rfl) rfl rfl (by(try simp only[List.map_toArray,List.map_cons,List.map_nil]);rfl) ?_
   refine(wL.out _ (Ld.out.later hx.b)).mono ?_
   rintro e_ wc ⟨y,rfl,hR,hbx⟩
   have hsn:=hx.k1 y hbx hR
   have e_:=Ld.out.later hsn.b
   refine⟨_,rfl,hK.out _ _ ⟨(by simpa using e_.b4.cell 0),(by simpa using e_.b4.cell 1),(by simpa using e_.b4.cell 2),(by simpa using e_.b4.cell 3),(by simpa using e_.b11.cell 0),(by simpa using e_.b11.cell 1),(by simpa using e_.b11.cell 2),(by simpa using e_.b11.cell 3),(by simpa using e_.b5.cell 0),(by simpa using e_.b5.cell 1),(by simpa using e_.b5.cell 2),(by simpa using e_.b5.cell 3)⟩ (λ_=>?_)⟩
   clear hK K
   have hfin:=TZ (y,x.2.1,x.2.2.1,x.2.2.2.1,x.2.2.2.2.1,x.2.2.2.2.2) wc hsn
   refine aW ?_ hfin
   simp only[aK,Act.put,sb0,sb1,bR]
  .refine bD (w1:=?_) (v:=?_) (by rfl) rfl ?_ ?_
   rotate_left 2
   .go_simp
    constructor<;>rfl
   have hsn:=hx.a2
   have e_:=Ld.out.later hsn.b
   refine hK.out _ _ ⟨(by simpa using e_.b4.cell 0),(by simpa using e_.b4.cell 1),(by simpa using e_.b4.cell 2),(by simpa using e_.b4.cell 3),(by simpa using e_.b11.cell 0),(by simpa using e_.b11.cell 1),(by simpa using e_.b11.cell 2),(by simpa using e_.b11.cell 3),(by simpa using e_.b5.cell 0),(by simpa using e_.b5.cell 1),(by simpa using e_.b5.cell 2),(by simpa using e_.b5.cell 3)⟩ (λ_=>?_)
   clear hK K
   have hfin:=Uc (x.1,x.2.1,x.2.2.1,x.2.2.2.1,W.heap.size,x.2.2.2.2.2) _ hsn
   refine aW ?_ hfin
   simp only[aK,Act.put,sb0,sb1,bR]
  .refine bD (w1:=?_) (v:=?_) (by rfl) rfl ?_ ?_
   rotate_left 2
   .go_simp
    constructor<;>rfl
   have hsn:=hx.a3
   have e_:=Ld.out.later hsn.b
   refine hK.out _ _ ⟨(by simpa using e_.b4.cell 0),(by simpa using e_.b4.cell 1),(by simpa using e_.b4.cell 2),(by simpa using e_.b4.cell 3),(by simpa using e_.b11.cell 0),(by simpa using e_.b11.cell 1),(by simpa using e_.b11.cell 2),(by simpa using e_.b11.cell 3),(by simpa using e_.b5.cell 0),(by simpa using e_.b5.cell 1),(by simpa using e_.b5.cell 2),(by simpa using e_.b5.cell 3)⟩ (λ_=>?_)
   clear hK K
   have hfin:=Ud (x.1,x.2.1,x.2.2.1,x.2.2.2.1,x.2.2.2.2.1,W.heap.size) _ hsn
   refine aW ?_ hfin
   simp only[aK,Act.put,sb0,sb1,bR]
 case h1000=>
  intro x W hx
  refine aW (by simp only[aK,Act.put,sb0,sb1,bR];rfl) ?_
  refine Jb (i:=3) (j:=6) (k:=7) (m:=8) (Ni:=some 77) (Nj:=some 13) (Nk:=some 14) (Nm:=some 15) #[I,I,I,I,I,O,O,O,O,O,O,O] #[I,I,I,O,I,O,I,O,O,O,O,O] #[I,I,I,O,I,O,O,I,O,O,O,O] #[I,I,I,O,I,O,O,O,I,O,O,O] rfl rfl rfl rfl rfl rfl rfl rfl (yE au.out (by kernel_rfl)) (by decide) (by decide) (by decide) (by decide) (λK hK=>?_) (λK hK=>?_) (λK hK=>?_) (λK hK=>?_)
  .refine bT Tryz.func21 (by kernel_rfl) rfl #[.agg #[.int .i64 lo,.int .i64 hi,.slice Ar rr.length cr,.slice Xc xs.length xc]] (by rfl) rfl rfl (by(try simp only[List.map_toArray,List.map_cons,List.map_nil]);rfl) ?_
   refine(FZ.out _ (Ld.out.later hx.b)).mono ?_
   rintro e_ wc ⟨y,rfl,hR,hbx⟩
   have hsn:=hx.k2 y hbx hR
   have e_:=Ld.out.later hsn.b
   refine⟨_,rfl,hK.out _ _ ⟨(by simpa using e_.b4.cell 0),(by simpa using e_.b4.cell 1),(by simpa using e_.b4.cell 2),(by simpa using e_.b4.cell 3),(by simpa using e_.b11.cell 0),(by simpa using e_.b11.cell 1),(by simpa using e_.b11.cell 2),(by simpa using e_.b11.cell 3),(by simpa using e_.b5.cell 0),(by simpa using e_.b5.cell 1),(by simpa using e_.b5.cell 2),(by simpa using e_.b5.cell 3)⟩ (λ_=>?_)⟩
   clear hK K
   have hfin:=aaZ (x.1,y,x.2.2.1,x.2.2.2.1,x.2.2.2.2.1,x.2.2.2.2.2) wc hsn
   refine aW ?_ hfin
   simp only[aK,Act.put,sb0,sb1,bR]
  .refine bD (w1:=?_) (v:=?_) (by rfl) rfl ?_ ?_
   rotate_left 2
   .go_simp
    constructor<;>rfl
   have hsn:=hx.a1
   have e_:=Ld.out.later hsn.b
   refine hK.out _ _ ⟨(by simpa using e_.b4.cell 0),(by simpa using e_.b4.cell 1),(by simpa using e_.b4.cell 2),(by simpa using e_.b4.cell 3),(by simpa using e_.b11.cell 0),(by simpa using e_.b11.cell 1),(by simpa using e_.b11.cell 2),(by simpa using e_.b11.cell 3),(by simpa using e_.b5.cell 0),(by simpa using e_.b5.cell 1),(by simpa using e_.b5.cell 2),(by simpa using e_.b5.cell 3)⟩ (λ_=>?_)
   clear hK K
   have hfin:=TZ (x.1,x.2.1,x.2.2.1,W.heap.size,x.2.2.2.2.1,x.2.2.2.2.2) _ hsn
   refine aW ?_ hfin
   simp only[aK,Act.put,sb0,sb1,bR]
  .refine bD (w1:=?_) (v:=?_) (by rfl) rfl ?_ ?_
   rotate_left 2
   .go_simp
    constructor<;>rfl
   have hsn:=hx.a2
   have e_:=Ld.out.later hsn.b
   refine hK.out _ _ ⟨(by simpa using e_.b4.cell 0),(by simpa using e_.b4.cell 1),(by simpa using e_.b4.cell 2),(by simpa using e_.b4.cell 3),(by simpa using e_.b11.cell 0),(by simpa using e_.b11.cell 1),(by simpa using e_.b11.cell 2),(by simpa using e_.b11.cell 3),(by simpa using e_.b5.cell 0),(by simpa using e_.b5.cell 1),(by simpa using e_.b5.cell 2),(by simpa using e_.b5.cell 3)⟩ (λ_=>?_)
   clear hK K
   have hfin:=Ua (x.1,x.2.1,x.2.2.1,x.2.2.2.1,W.heap.size,x.2.2.2.2.2) _ hsn
   refine aW ?_ hfin
   simp only[aK,Act.put,sb0,sb1,bR]
  .refine bD (w1:=?_) (v:=?_) (by rfl) rfl ?_ ?_
   rotate_left 2
   .go_simp
    constructor<;>rfl
   have hsn:=hx.a3
   have e_:=Ld.out.later hsn.b
   refine hK.out _ _ ⟨(by simpa using e_.b4.cell 0),(by simpa using e_.b4.cell 1),(by simpa using e_.b4.cell 2),(by simpa using e_.b4.cell 3),(by simpa using e_.b11.cell 0),(by simpa using e_.b11.cell 1),(by simpa using e_.b11.cell 2),(by simpa using e_.b11.cell 3),(by simpa using e_.b5.cell 0),(by simpa using e_.b5.cell 1),(by simpa using e_.b5.cell 2),(by simpa using e_.b5.cell 3)⟩ (λ_=>?_)
   clear hK K
   have hfin:=Ub (x.1,x.2.1,x.2.2.1,x.2.2.2.1,x.2.2.2.2.1,W.heap.size) _ hsn
   refine aW ?_ hfin
   simp only[aK,Act.put,sb0,sb1,bR]
 case h3111=>
  rintro⟨y1,y2,y3,g1,g2,g3⟩ W hx
  refine aW (by simp only[aK,Act.put,sb0,sb1,bR];rfl) ?_
  obtain⟨hb,f1,f2,f3,h1,h2,h3,d12,d13,d23⟩:=hx
  obtain⟨k1,l1⟩:=h1 rfl
  obtain⟨k2,l2⟩:=h2 rfl
  obtain⟨k3,l3⟩:=h3 rfl
  have d12:=d12 rfl rfl
  have d13:=d13 rfl rfl
  have d23:=d23 rfl rfl
  have r1:=aa.mk ((f1 rfl).ps k1 k2 k3)
  have r2:=aa.mk ((f2 rfl).ps k1 k2 k3)
  have r3:=aa.mk ((f3 rfl).ps k1 k2 k3)
  have HLf:=Ld
  have hbn:=aa.mk hb
  have m1:=aa.mk k1
  have m2:=aa.mk k2
  have m3:=aa.mk k3
  dsimp only at l1 l2 l3 d12 d13 d23 r1 r2 r3 m1 m2 m3 ⊢
  clear hb f1 f2 f3 h1 h2 h3 k1 k2 k3
  refine fB (i:=9) (N:=none) #[I,I,I,I,I,I,I,I,I,I,O,O] rfl rfl (aM au.out (by kernel_rfl)) (by decide) (λK hK=>?_)
  have Oq:W.cell? ⟨g1,0,none⟩=some (.int .i64 0):=by simpa using m1.out.cell 0
  have Oo:W.cell? ⟨g1,1,none⟩=some (.int .i64 0):=by simpa using m1.out.cell 1
  have Om:W.cell? ⟨g1,2,none⟩=some (.slice none 0 0):=by simpa using m1.out.cell 2
  have Ol:W.cell? ⟨g1,3,none⟩=some (.slice none 0 0):=by simpa using m1.out.cell 3
  have Oa:W.frozen? ⟨g1,0,none⟩=false:=m1.out.frozen 0
  have N9:W.frozen? ⟨g1,1,none⟩=false:=m1.out.frozen 1
  have N8:W.frozen? ⟨g1,2,none⟩=false:=m1.out.frozen 2
  have N7:W.frozen? ⟨g1,3,none⟩=false:=m1.out.frozen 3
  refine kg (w1:=?_) (by rfl) rfl ?_ ?_
  rotate_left
  .go_simp
   rfl
  refine hK.out _ _ ?_
  clear hK K Oq Oa Oo N9 Om N8 Ol N7
  replace hbn:=aa.mk (uN hbn.out l1 (.int .i64 lo) (.int .i64 hi) (.slice y1.A0 ru.length y1.n0) (.slice y1.A1 re.length y1.n1))
  replace r1:=aa.mk (r1.out.set (g:=g1) (by simp) (.int .i64 lo) (.int .i64 hi) (.slice y1.A0 ru.length y1.n0) (.slice y1.A1 re.length y1.n1))
  replace m1:=aa.mk (zP m1.out (.int .i64 lo) (.int .i64 hi) (.slice y1.A0 ru.length y1.n0) (.slice y1.A1 re.length y1.n1))
  replace r2:=aa.mk (r2.out.set (g:=g1) (by simp) (.int .i64 lo) (.int .i64 hi) (.slice y1.A0 ru.length y1.n0) (.slice y1.A1 re.length y1.n1))
  replace m2:=aa.mk (pM m2.out d12.symm (.int .i64 lo) (.int .i64 hi) (.slice y1.A0 ru.length y1.n0) (.slice y1.A1 re.length y1.n1))
  replace r3:=aa.mk (r3.out.set (g:=g1) (by simp) (.int .i64 lo) (.int .i64 hi) (.slice y1.A0 ru.length y1.n0) (.slice y1.A1 re.length y1.n1))
  replace m3:=aa.mk (pM m3.out d13.symm (.int .i64 lo) (.int .i64 hi) (.slice y1.A0 ru.length y1.n0) (.slice y1.A1 re.length y1.n1))
  change aQ _ _ _ _ _ _ _ _ _ (y8 W g1 (.int .i64 lo) (.int .i64 hi) (.slice y1.A0 ru.length y1.n0) (.slice y1.A1 re.length y1.n1))
  generalize y8 W g1 (.int .i64 lo) (.int .i64 hi) (.slice y1.A0 ru.length y1.n0) (.slice y1.A1 re.length y1.n1)=W1 at hbn r1 r2 r3 m1 m2 m3 ⊢
  refine fB (i:=10) (N:=none) #[I,I,I,I,I,I,I,I,I,I,I,O] rfl rfl (aM au.out (by kernel_rfl)) (by decide) (λK hK=>?_)
  have Oq:W1.cell? ⟨g2,0,none⟩=some (.int .i64 0):=by simpa using m2.out.cell 0
  have Oo:W1.cell? ⟨g2,1,none⟩=some (.int .i64 0):=by simpa using m2.out.cell 1
  have Om:W1.cell? ⟨g2,2,none⟩=some (.slice none 0 0):=by simpa using m2.out.cell 2
  have Ol:W1.cell? ⟨g2,3,none⟩=some (.slice none 0 0):=by simpa using m2.out.cell 3
  have Oa:W1.frozen? ⟨g2,0,none⟩=false:=m2.out.frozen 0
  have N9:W1.frozen? ⟨g2,1,none⟩=false:=m2.out.frozen 1
  have N8:W1.frozen? ⟨g2,2,none⟩=false:=m2.out.frozen 2
  have N7:W1.frozen? ⟨g2,3,none⟩=false:=m2.out.frozen 3
  refine kg (w1:=?_) (by rfl) rfl ?_ ?_
  rotate_left
  .go_simp
   rfl
  refine hK.out _ _ ?_
  clear hK K Oq Oa Oo N9 Om N8 Ol N7
  replace hbn:=aa.mk (uN hbn.out l2 (.int .i64 lo) (.int .i64 hi) (.slice y2.A0 ru.length y2.n0) (.slice y2.A1 gU.length y2.n1))
  replace r1:=aa.mk (r1.out.set (g:=g2) (by simp) (.int .i64 lo) (.int .i64 hi) (.slice y2.A0 ru.length y2.n0) (.slice y2.A1 gU.length y2.n1))
  replace m1:=aa.mk (pM m1.out d12 (.int .i64 lo) (.int .i64 hi) (.slice y2.A0 ru.length y2.n0) (.slice y2.A1 gU.length y2.n1))
  replace r2:=aa.mk (r2.out.set (g:=g2) (by simp) (.int .i64 lo) (.int .i64 hi) (.slice y2.A0 ru.length y2.n0) (.slice y2.A1 gU.length y2.n1))
  replace m2:=aa.mk (zP m2.out (.int .i64 lo) (.int .i64 hi) (.slice y2.A0 ru.length y2.n0) (.slice y2.A1 gU.length y2.n1))
  replace r3:=aa.mk (r3.out.set (g:=g2) (by simp) (.int .i64 lo) (.int .i64 hi) (.slice y2.A0 ru.length y2.n0) (.slice y2.A1 gU.length y2.n1))
  replace m3:=aa.mk (pM m3.out d23.symm (.int .i64 lo) (.int .i64 hi) (.slice y2.A0 ru.length y2.n0) (.slice y2.A1 gU.length y2.n1))
  change aQ _ _ _ _ _ _ _ _ _ (y8 W1 g2 (.int .i64 lo) (.int .i64 hi) (.slice y2.A0 ru.length y2.n0) (.slice y2.A1 gU.length y2.n1))
  generalize y8 W1 g2 (.int .i64 lo) (.int .i64 hi) (.slice y2.A0 ru.length y2.n0) (.slice y2.A1 gU.length y2.n1)=W2 at hbn r1 r2 r3 m1 m2 m3 ⊢
  refine fB (i:=11) (N:=none) #[I,I,I,I,I,I,I,I,I,I,I,I] rfl rfl (aM au.out (by kernel_rfl)) (by decide) (λK hK=>?_)
  have Oq:W2.cell? ⟨g3,0,none⟩=some (.int .i64 0):=by simpa using m3.out.cell 0
  have Oo:W2.cell? ⟨g3,1,none⟩=some (.int .i64 0):=by simpa using m3.out.cell 1
  have Om:W2.cell? ⟨g3,2,none⟩=some (.slice none 0 0):=by simpa using m3.out.cell 2
  have Ol:W2.cell? ⟨g3,3,none⟩=some (.slice none 0 0):=by simpa using m3.out.cell 3
  have Oa:W2.frozen? ⟨g3,0,none⟩=false:=m3.out.frozen 0
  have N9:W2.frozen? ⟨g3,1,none⟩=false:=m3.out.frozen 1
  have N8:W2.frozen? ⟨g3,2,none⟩=false:=m3.out.frozen 2
  have N7:W2.frozen? ⟨g3,3,none⟩=false:=m3.out.frozen 3
  refine kg (w1:=?_) (by rfl) rfl ?_ ?_
  rotate_left
  .go_simp
   rfl
  refine hK.out _ _ ?_
  clear hK K Oq Oa Oo N9 Om N8 Ol N7
  replace hbn:=aa.mk (uN hbn.out l3 (.int .i64 lo2) (.int .i64 hi2) (.slice y3.A0 su.length y3.n0) (.slice y3.A1 se.length y3.n1))
  replace r1:=aa.mk (r1.out.set (g:=g3) (by simp) (.int .i64 lo2) (.int .i64 hi2) (.slice y3.A0 su.length y3.n0) (.slice y3.A1 se.length y3.n1))
  replace m1:=aa.mk (pM m1.out d13 (.int .i64 lo2) (.int .i64 hi2) (.slice y3.A0 su.length y3.n0) (.slice y3.A1 se.length y3.n1))
  replace r2:=aa.mk (r2.out.set (g:=g3) (by simp) (.int .i64 lo2) (.int .i64 hi2) (.slice y3.A0 su.length y3.n0) (.slice y3.A1 se.length y3.n1))
  replace m2:=aa.mk (pM m2.out d23 (.int .i64 lo2) (.int .i64 hi2) (.slice y3.A0 su.length y3.n0) (.slice y3.A1 se.length y3.n1))
  replace r3:=aa.mk (r3.out.set (g:=g3) (by simp) (.int .i64 lo2) (.int .i64 hi2) (.slice y3.A0 su.length y3.n0) (.slice y3.A1 se.length y3.n1))
  replace m3:=aa.mk (zP m3.out (.int .i64 lo2) (.int .i64 hi2) (.slice y3.A0 su.length y3.n0) (.slice y3.A1 se.length y3.n1))
  change aQ _ _ _ _ _ _ _ _ _ (y8 W2 g3 (.int .i64 lo2) (.int .i64 hi2) (.slice y3.A0 su.length y3.n0) (.slice y3.A1 se.length y3.n1))
  generalize y8 W2 g3 (.int .i64 lo2) (.int .i64 hi2) (.slice y3.A0 su.length y3.n0) (.slice y3.A1 se.length y3.n1)=W3 at hbn r1 r2 r3 m1 m2 m3 ⊢
  refine fM (bP au.out (by kernel_rfl)) ?_
  refine hK _ _ ?_
  refine adX day _ ?_ ⟨HLf.out.below.trans (hbn.out.mono HLf.out.below.size),m1.out,m2.out,m3.out,r1.out.isP,r2.out.isP,r3.out.isP⟩ HT.out
  rfl
end Ag
end Go.Proofs.YtdekaocdmjndaaaGreat
