import Derived.Test.YtkjoilgpmngndaaGreatQ39
set_option linter.all false
namespace Go.Proofs.YtkjoilgpmngndaaGreat
open Go.RowKit Go.Shelf Go.Proofs.YtkjoilgpmngndaaGreat.av Go.Proofs.YtkjoilgpmngndaaGreatW.aA Go.Proofs.YtkjoilgpmngndaaGreatW.aJ Go.Proofs.YtkjoilgpmngndaaGreatW.dn
def lh.T19:Bool×List (List Nat×List Nat):=(true,[([],[]),([0],[0]),([],[]),([2,1],[2]),([],[]),([],[]),([4,1,3,0,1,4,5],[1,4]),([5,3,6,0,1,2,3,4,5,6],[3,5])])
def lh.B19:List Nat:=[0,1,0,7,0,0,63,127]
theorem lh.acw:eu .any (opsOf Tryz.f3 19)=lh.T19:=by kernel_rfl
theorem lh.aa1:bO lh.T19.2 lh.B19=true:=by kernel_rfl
structure LX(w0 w:World)(A0:Option Addr)(c0:Nat)(old:List Int)(nw:Int)(A2:Option Addr)(c2:Nat)(rs:List ql)(A3:Option Addr)(c3:Nat)(rj:List kW)(lo hi:Int)(b14:Nat)(X2:Option Addr)(x2:Nat)(rs2:List ql)(X3:Option Addr)(x3:Nat)(xs:List kW)(ps fr:List Int)(Ap:Option Addr)(cp:Nat)(Af:Option Addr)(cf:Nat):Prop where
 below:Below w0.heap.size w0 w
 b4:aR w w0.heap.size [.slice A0 old.length c0,.int .i64 nw,.slice A2 rs.length c2,.slice A3 rj.length c3] 26
 b5:aR w (w0.heap.size+1) [.int .i64 lo,.int .i64 hi] 28
 b14:aR w b14 [.slice A0 old.length c0,.int .i64 nw,.slice X2 rs2.length x2,.slice X3 xs.length x3] 26
 k0:(Kd.int .i64).C w A0 old.length old
 k2:Dc.C w A2 rs.length rs
 k3:Cu.C w A3 rj.length rj
 m2:Dc.C w X2 rs2.length rs2
 m3:Cu.C w X3 xs.length xs
 kp:(Kd.int .i64).C w Ap ps.length ps
 kf:(Kd.int .i64).C w Af fr.length fr
theorem LX.later{w0 w:World}{A0:Option Addr}{c0:Nat}{old:List Int}{nw:Int}{A2:Option Addr}{c2:Nat}{rs:List ql}{A3:Option Addr}{c3:Nat}{rj:List kW}{lo hi:Int}{b14:Nat}{X2:Option Addr}{x2:Nat}{rs2:List ql}{X3:Option Addr}{x3:Nat}{xs:List kW}{ps fr:List Int}{Ap Af:Option Addr}{cp cf:Nat}{w':World}(h:LX w0 w A0 c0 old nw A2 c2 rs A3 c3 rj lo hi b14 X2 x2 rs2 X3 x3 xs ps fr Ap cp Af cf)(hb:Below w.heap.size w w'):LX w0 w' A0 c0 old nw A2 c2 rs A3 c3 rj lo hi b14 X2 x2 rs2 X3 x3 xs ps fr Ap cp Af cf:=
 ⟨h.below.trans (hb.mono h.below.size),h.b4.below hb,h.b5.below hb,h.b14.below hb,Kd.aK h.k0 hb,Kd.aK h.k2 hb,Kd.aK h.k3 hb,Kd.aK h.m2 hb,Kd.aK h.m3 hb,Kd.aK h.kp hb,Kd.aK h.kf hb⟩
structure qQ where
 A0:Option Addr
 n0:Nat
 A2:Option Addr
 n2:Nat
 A3:Option Addr
 n3:Nat
theorem RB.below{w w':World}{B0:Option Addr}{d0:Nat}{old:List Int}{B2:Option Addr}{d2:Nat}{ss:List bH}{B3:Option Addr}{d3:Nat}{js:List bS}(h:RB w B0 d0 old B2 d2 ss B3 d3 js)(hb:Below w.heap.size w w'):RB w' B0 d0 old B2 d2 ss B3 d3 js:=
 ⟨h.r0.imp fun _ h=>Kd.fC h hb,h.r2.imp fun _ h=>Kd.fC h hb,h.r3.imp fun _ h=>Kd.fC h hb⟩
theorem NC{α:Type}{d:Kd α}{e base:Nat}{w:World}{v:Value}{xs:List α}{g:Nat}{cs:List Value}(h:d.R e w base (fun _=>True) v xs)(hb:aR w g cs 43)(ht:∀q,q ∈ e::d.E->q≠43)(v0 v1 v2 v3:Value):d.R e ((((w.setCell ⟨g,0,none⟩ v0).setCell ⟨g,1,none⟩ v1).setCell ⟨g,2,none⟩ v2).setCell ⟨g,3,none⟩ v3) base (fun _=>True) v xs:=
 Kd.cK (Kd.iX (Kd.iX (Kd.iX (Kd.iX (Kd.lL h hb ht) (p:=⟨g,0,none⟩) (fun _ hk=>hk.2) v0) (p:=⟨g,1,none⟩) (fun _ hk=>hk.2) v1) (p:=⟨g,2,none⟩) (fun _ hk=>hk.2) v2) (p:=⟨g,3,none⟩) (fun _ hk=>hk.2) v3) (fun _ _=>trivial)
theorem RB.sets{w:World}{B0:Option Addr}{d0:Nat}{old:List Int}{B2:Option Addr}{d2:Nat}{ss:List bH}{B3:Option Addr}{d3:Nat}{js:List bS}{g:Nat}{cs:List Value}(h:RB w B0 d0 old B2 d2 ss B3 d3 js)(hb:aR w g cs 43)(v0 v1 v2 v3:Value):RB ((((w.setCell ⟨g,0,none⟩ v0).setCell ⟨g,1,none⟩ v1).setCell ⟨g,2,none⟩ v2).setCell ⟨g,3,none⟩ v3) B0 d0 old B2 d2 ss B3 d3 js:=
 ⟨h.r0.imp fun _ h=>NC h hb (by decide) v0 v1 v2 v3,h.r2.imp fun _ h=>NC h hb (by decide) v0 v1 v2 v3,h.r3.imp fun _ h=>NC h hb (by decide) v0 v1 v2 v3⟩
theorem RB.isB{w:World}{B0:Option Addr}{d0:Nat}{old:List Int}{B2:Option Addr}{d2:Nat}{ss:List bH}{B3:Option Addr}{d3:Nat}{js:List bS}(h:RB w B0 d0 old B2 d2 ss B3 d3 js)(h0:old.length<=1000)(h2:ss.length<=1000)(h3:js.length<=1000):uX w B0 d0 old B2 d2 ss B3 d3 js:=by
 obtain⟨⟨_,r0⟩,⟨_,r2⟩,⟨_,r3⟩⟩:=h
 obtain⟨_,_,e0,hd0,hC0⟩:=Kd.dU r0
 obtain⟨rfl,_,rfl⟩:=slice_inj e0
 obtain⟨_,_,e2,hd2,hC2⟩:=Kd.dU r2
 obtain⟨rfl,_,rfl⟩:=slice_inj e2
 obtain⟨_,_,e3,hd3,Yc⟩:=Kd.dU r3
 obtain⟨rfl,_,rfl⟩:=slice_inj e3
 exact⟨hC0,hd0,hC2,hd2,Yc,hd3,by omega,by omega,by omega⟩
structure kV(wd:World)(old:List Int)(ss jF:List bH)(js jG:List bS)(y z:qQ)(g h:Nat)(c1 c2 p q:Bool)(W:World):Prop where
 b:Below wd.heap.size wd W
 f1:c1=true->uX W y.A0 y.n0 old y.A2 y.n2 ss y.A3 y.n3 js/\RB W y.A0 y.n0 old y.A2 y.n2 ss y.A3 y.n3 js
 f2:c2=true->uX W z.A0 z.n0 old z.A2 z.n2 jF z.A3 z.n3 jG/\RB W z.A0 z.n0 old z.A2 z.n2 jF z.A3 z.n3 jG
 f3:p=true->aR W g [.slice none 0 0,.int .i64 0,.slice none 0 0,.slice none 0 0] 43/\wd.heap.size<=g
 f4:q=true->aR W h [.slice none 0 0,.int .i64 0,.slice none 0 0,.slice none 0 0] 43/\wd.heap.size<=h
 f5:p=true->q=true->g≠h
section
variable {wd:World} {old:List Int} {ss jF:List bH} {js jG:List bS} {y z:qQ} {g h:Nat} {b1 b2 p q:Bool} {W W':World}
theorem kV.start(wd:World)(old:List Int)(ss jF:List bH)(js jG:List bS)(y z:qQ)(g h:Nat):kV wd old ss jF js jG y z g h false false false false wd:=
 ⟨Below.refl _ _,nofun,nofun,nofun,nofun,nofun⟩
theorem kV.later(H:kV wd old ss jF js jG y z g h b1 b2 p q W)(hb:Below W.heap.size W W'):kV wd old ss jF js jG y z g h b1 b2 p q W':=
 ⟨H.b.trans (hb.mono H.b.size),fun e=>⟨(H.f1 e).1.below hb,(H.f1 e).2.below hb⟩,fun e=>⟨(H.f2 e).1.below hb,(H.f2 e).2.below hb⟩,fun e=>⟨(H.f3 e).1.below hb,(H.f3 e).2⟩,fun e=>⟨(H.f4 e).1.below hb,(H.f4 e).2⟩,H.f5⟩
theorem kV.c1{y':qQ}(H:kV wd old ss jF js jG y z g h false b2 p q W)(hb:Below W.heap.size W W')(hi:uX W' y'.A0 y'.n0 old y'.A2 y'.n2 ss y'.A3 y'.n3 js/\RB W' y'.A0 y'.n0 old y'.A2 y'.n2 ss y'.A3 y'.n3 js):kV wd old ss jF js jG y' z g h true b2 p q W':=
 have H':=H.later hb
 ⟨H'.b,fun _=>hi,H'.f2,H'.f3,H'.f4,H'.f5⟩
theorem kV.c2{y':qQ}(H:kV wd old ss jF js jG y z g h b1 false p q W)(hb:Below W.heap.size W W')(hi:uX W' y'.A0 y'.n0 old y'.A2 y'.n2 jF y'.A3 y'.n3 jG/\RB W' y'.A0 y'.n0 old y'.A2 y'.n2 jF y'.A3 y'.n3 jG):kV wd old ss jF js jG y y' g h b1 true p q W':=
 have H':=H.later hb
 ⟨H'.b,H'.f1,fun _=>hi,H'.f3,H'.f4,H'.f5⟩
theorem kV.a4(H:kV wd old ss jF js jG y z g h b1 b2 false q W):kV wd old ss jF js jG y z W.heap.size h b1 b2 true q (W.alloc (.cells #[.slice none 0 0,.int .i64 0,.slice none 0 0,.slice none 0 0] 43)):=
 have H':=H.later (ae (Below.refl _ _) (.cells #[.slice none 0 0,.int .i64 0,.slice none 0 0,.slice none 0 0] 43))
 ⟨H'.b,H'.f1,H'.f2,fun _=>⟨aR.new W _ _,H.b.size⟩,H'.f4,fun _ e=>by have:=(H.f4 e).1.lt;omega⟩
theorem kV.a5(H:kV wd old ss jF js jG y z g h b1 b2 p false W):kV wd old ss jF js jG y z g W.heap.size b1 b2 p true (W.alloc (.cells #[.slice none 0 0,.int .i64 0,.slice none 0 0,.slice none 0 0] 43)):=
 have H':=H.later (ae (Below.refl _ _) (.cells #[.slice none 0 0,.int .i64 0,.slice none 0 0,.slice none 0 0] 43))
 ⟨H'.b,H'.f1,H'.f2,H'.f3,fun _=>⟨aR.new W _ _,H.b.size⟩,fun e _=>by have:=(H.f3 e).1.lt;omega⟩
end
set_option maxRecDepth 100000 in
set_option maxHeartbeats 40000000 in
theorem aiM{w0 w:World}{A0:Option Addr}{c0:Nat}{old:List Int}{nw:Int}{A2:Option Addr}{c2:Nat}{rs:List ql}{A3:Option Addr}{c3:Nat}{rj:List kW}{lo hi:Int}{b14:Nat}{X2:Option Addr}{x2:Nat}{rs2:List ql}{X3:Option Addr}{x3:Nat}{xs:List kW}{ps fr:List Int}{Ap Af:Option Addr}{cp cf:Nat}{s t:Nat->Nat}(a:Act)(ha:a={tmps:=CE (.slice Ap ps.length cp) (a.tmps.getD 3 undef) (.pointer (some ⟨w0.heap.size,0,none⟩)) (.pointer (some ⟨w0.heap.size+1,0,none⟩)) (.int .i64 (fr.length:Int)) (.slice Af fr.length cf) (a.tmps.getD 11 undef) (a.tmps.getD 12 undef) (.pointer (some ⟨b14,0,none⟩)) (a.tmps.getD 18 undef) (a.tmps.getD 19 undef) (a.tmps.getD 38 undef) (fun i=>a.tmps.getD i undef),defers:=[]})(L:LX w0 w A0 c0 old nw A2 c2 rs A3 c3 rj lo hi b14 X2 x2 rs2 X3 x3 xs ps fr Ap cp Af cf)(hf:ky fr.length s fr)(hcf:fr.length<=cf)(hfl:fr.length=rs.length)(ho:old.length<=7)(h2:rs.length<=11)(h3:rj.length<=24)(hl2:rs2.length=rs.length)(hl3:xs.length=rj.length)(hsm:fU (rs.map IY) (rs2.map IY) (rj.map uO) (xs.map uO) s t):Code.wp Tryz.prog (jI 8) (mZ w0) a w:=by
 have HL:=aa.mk L
 have HF:=aa.mk hf
 have HSL:=aa.mk (show(rs.map IY).length=fr.length by rw[List.length_map,hfl])
 have HN:=aa.mk (show fr.length<=11 by omega)
 have ho1:old.length<=1000:=by omega
 have hs1:rs.length<=1000:=by omega
 have hs2:rs2.length<=1000:=by omega
 have hj1:rj.length<=1000:=by omega
 have hj2:xs.length<=1000:=by omega
 obtain⟨ss,hss⟩:∃l,rs.map IY=l:=⟨_,rfl⟩
 obtain⟨jF,Vr⟩:∃l,rs2.map IY=l:=⟨_,rfl⟩
 obtain⟨js,hjs⟩:∃l,rj.map uO=l:=⟨_,rfl⟩
 obtain⟨jG,VC⟩:∃l,xs.map uO=l:=⟨_,rfl⟩
 have TV:=aa.mk (show ss.length<=1000/\jF.length<=1000/\js.length<=1000/\jG.length<=1000 by rw[<- hss,<- Vr,<- hjs,<- VC,List.length_map,List.length_map,List.length_map,List.length_map];exact⟨hs1,hs2,hj1,hj2⟩)
 rw[hss,Vr,hjs,VC] at hsm
 rw[hss] at HSL
 have TW:=aa.mk hss
 have Xm:=aa.mk Vr
 have HJS:=aa.mk hjs
 have Xr:=aa.mk VC
 have HSM:=aa.mk hsm
 clear hss Vr hjs VC hsm L hf hfl hl2 hl3
 obtain⟨u,hu⟩:∃u:Nat->Value,a={tmps:=CE (.slice Ap ps.length cp) (u 3) (.pointer (some ⟨w0.heap.size,0,none⟩)) (.pointer (some ⟨w0.heap.size+1,0,none⟩)) (.int .i64 (fr.length:Int)) (.slice Af fr.length cf) (u 11) (u 12) (.pointer (some ⟨b14,0,none⟩)) (u 18) (u 19) (u 38) u,defers:=[]}:=⟨fun i=>a.tmps.getD i undef,ha⟩
 clear ha
 subst hu
 unfold CE
 refine dZ 8 (by kernel_rfl) (fun K hK=>?_)
 unfold jI
 conv=>arg 2;whnf
 unfold mZ
 refine gz (n:=8) (S:=fun w'=>w'.cell? ⟨w0.heap.size,0,none⟩=some (.slice A0 old.length c0)/\w'.cell? ⟨w0.heap.size,1,none⟩=some (.int .i64 nw)/\w'.cell? ⟨w0.heap.size,2,none⟩=some (.slice A2 rs.length c2)/\w'.cell? ⟨w0.heap.size,3,none⟩=some (.slice A3 rj.length c3)/\w'.cell? ⟨b14,0,none⟩=some (.slice A0 old.length c0)/\w'.cell? ⟨b14,1,none⟩=some (.int .i64 nw)/\w'.cell? ⟨b14,2,none⟩=some (.slice X2 rs2.length x2)/\w'.cell? ⟨b14,3,none⟩=some (.slice X3 xs.length x3)) (ds:=[6,7]) #[O,O,O,O,O,O,O,O] (by kernel_rfl) rfl rfl ⟨(by simpa using (HL.out).b4.cell 0),(by simpa using (HL.out).b4.cell 1),(by simpa using (HL.out).b4.cell 2),(by simpa using (HL.out).b4.cell 3),(by simpa using (HL.out).b14.cell 0),(by simpa using (HL.out).b14.cell 1),(by simpa using (HL.out).b14.cell 2),(by simpa using (HL.out).b14.cell 3)⟩ (fun hHeld=>?_);refine bK lh.acw lh.aa1 (fun aC bW=>?_)
 have Ld:=aa.mk (HL.out.later (bG (Below.refl _ _)))
 clear HL
 generalize w.drew=wd at Ld hHeld ⊢
 refine eP 0 135 #[I,O,O,O,O,O,O,O] aC bW hHeld (hy:=by(rintro w' ⟨s0,s1,s2,s3,s4,s5,s6,s7⟩;go_simp;with_reducible rfl)) (h:=?_)
 refine eP 2 137 #[I,O,I,O,O,O,O,O] aC bW hHeld (hy:=by(rintro w' ⟨s0,s1,s2,s3,s4,s5,s6,s7⟩;go_simp;with_reducible rfl)) (h:=?_)
 clear hHeld
 refine nX (σ:=qQ×qQ×Nat×Nat) 2 #[I,I,I,I,I,I,O,O] (fun x=>[(136,.agg #[.slice x.1.A0 old.length x.1.n0,.int .i64 nw,.slice x.1.A2 ss.length x.1.n2,.slice x.1.A3 js.length x.1.n3]),(138,.agg #[.slice x.2.1.A0 old.length x.2.1.n0,.int .i64 nw,.slice x.2.1.A2 jF.length x.2.1.n2,.slice x.2.1.A3 jG.length x.2.1.n3]),(18,.pointer (some ⟨x.2.2.1,0,none⟩)),(19,.pointer (some ⟨x.2.2.2,0,none⟩))]) (fun x w'=>kV wd old ss jF js jG x.1 x.2.1 x.2.2.1 x.2.2.2 true true true true w') ?h211 (fun abD=>?_)
 rotate_left
 refine nX (σ:=qQ×qQ×Nat×Nat) 3 #[I,I,I,I,I,O,O,O] (fun x=>[(136,.agg #[.slice x.1.A0 old.length x.1.n0,.int .i64 nw,.slice x.1.A2 ss.length x.1.n2,.slice x.1.A3 js.length x.1.n3]),(138,.agg #[.slice x.2.1.A0 old.length x.2.1.n0,.int .i64 nw,.slice x.2.1.A2 jF.length x.2.1.n2,.slice x.2.1.A3 jG.length x.2.1.n3]),(18,.pointer (some ⟨x.2.2.1,0,none⟩))]) (fun x w'=>kV wd old ss jF js jG x.1 x.2.1 x.2.2.1 x.2.2.2 true true true false w') ?h210 (fun afw=>?_)
 rotate_left
 refine nX (σ:=qQ×qQ×Nat×Nat) 3 #[I,I,I,I,O,I,O,O] (fun x=>[(136,.agg #[.slice x.1.A0 old.length x.1.n0,.int .i64 nw,.slice x.1.A2 ss.length x.1.n2,.slice x.1.A3 js.length x.1.n3]),(138,.agg #[.slice x.2.1.A0 old.length x.2.1.n0,.int .i64 nw,.slice x.2.1.A2 jF.length x.2.1.n2,.slice x.2.1.A3 jG.length x.2.1.n3]),(19,.pointer (some ⟨x.2.2.2,0,none⟩))]) (fun x w'=>kV wd old ss jF js jG x.1 x.2.1 x.2.2.1 x.2.2.2 true true false true w') ?h201 (fun afx=>?_)
 rotate_left
 refine nX (σ:=qQ×qQ×Nat×Nat) 3 #[I,I,I,O,I,I,O,O] (fun x=>[(136,.agg #[.slice x.1.A0 old.length x.1.n0,.int .i64 nw,.slice x.1.A2 ss.length x.1.n2,.slice x.1.A3 js.length x.1.n3]),(18,.pointer (some ⟨x.2.2.1,0,none⟩)),(19,.pointer (some ⟨x.2.2.2,0,none⟩))]) (fun x w'=>kV wd old ss jF js jG x.1 x.2.1 x.2.2.1 x.2.2.2 true false true true w') ?h111 (fun abE=>?_)
 rotate_left
 refine nX (σ:=qQ×qQ×Nat×Nat) 4 #[I,I,I,I,O,O,O,O] (fun x=>[(136,.agg #[.slice x.1.A0 old.length x.1.n0,.int .i64 nw,.slice x.1.A2 ss.length x.1.n2,.slice x.1.A3 js.length x.1.n3]),(138,.agg #[.slice x.2.1.A0 old.length x.2.1.n0,.int .i64 nw,.slice x.2.1.A2 jF.length x.2.1.n2,.slice x.2.1.A3 jG.length x.2.1.n3])]) (fun x w'=>kV wd old ss jF js jG x.1 x.2.1 x.2.2.1 x.2.2.2 true true false false w') ?h200 (fun alI=>?_)
 rotate_left
 refine nX (σ:=qQ×qQ×Nat×Nat) 4 #[I,I,I,O,I,O,O,O] (fun x=>[(136,.agg #[.slice x.1.A0 old.length x.1.n0,.int .i64 nw,.slice x.1.A2 ss.length x.1.n2,.slice x.1.A3 js.length x.1.n3]),(18,.pointer (some ⟨x.2.2.1,0,none⟩))]) (fun x w'=>kV wd old ss jF js jG x.1 x.2.1 x.2.2.1 x.2.2.2 true false true false w') ?h110 (fun afy=>?_)
 rotate_left
 refine nX (σ:=qQ×qQ×Nat×Nat) 4 #[I,I,I,O,O,I,O,O] (fun x=>[(136,.agg #[.slice x.1.A0 old.length x.1.n0,.int .i64 nw,.slice x.1.A2 ss.length x.1.n2,.slice x.1.A3 js.length x.1.n3]),(19,.pointer (some ⟨x.2.2.2,0,none⟩))]) (fun x w'=>kV wd old ss jF js jG x.1 x.2.1 x.2.2.1 x.2.2.2 true false false true w') ?h101 (fun Xx=>?_)
 rotate_left
 refine nX (σ:=qQ×qQ×Nat×Nat) 4 #[I,O,I,O,I,I,O,O] (fun x=>[(18,.pointer (some ⟨x.2.2.1,0,none⟩)),(19,.pointer (some ⟨x.2.2.2,0,none⟩))]) (fun x w'=>kV wd old ss jF js jG x.1 x.2.1 x.2.2.1 x.2.2.2 false false true true w') ?h011 (fun afz=>?_)
 rotate_left
 refine nX (σ:=qQ×qQ×Nat×Nat) 5 #[I,I,I,O,O,O,O,O] (fun x=>[(136,.agg #[.slice x.1.A0 old.length x.1.n0,.int .i64 nw,.slice x.1.A2 ss.length x.1.n2,.slice x.1.A3 js.length x.1.n3])]) (fun x w'=>kV wd old ss jF js jG x.1 x.2.1 x.2.2.1 x.2.2.2 true false false false w') ?h100 (fun abF=>?_)
 rotate_left
 refine nX (σ:=qQ×qQ×Nat×Nat) 5 #[I,O,I,O,I,O,O,O] (fun x=>[(18,.pointer (some ⟨x.2.2.1,0,none⟩))]) (fun x w'=>kV wd old ss jF js jG x.1 x.2.1 x.2.2.1 x.2.2.2 false false true false w') ?h010 (fun alJ=>?_)
 rotate_left
 refine nX (σ:=qQ×qQ×Nat×Nat) 5 #[I,O,I,O,O,I,O,O] (fun x=>[(19,.pointer (some ⟨x.2.2.2,0,none⟩))]) (fun x w'=>kV wd old ss jF js jG x.1 x.2.1 x.2.2.1 x.2.2.2 false false false true w') ?h001 (fun alK=>?_)
 rotate_left
 obtain⟨x,hx⟩:∃x:qQ×qQ×Nat×Nat,kV wd old ss jF js jG x.1 x.2.1 x.2.2.1 x.2.2.2 false false false false wd:=⟨((⟨none,0,none,0,none,0⟩:qQ),(⟨none,0,none,0,none,0⟩:qQ),0,0),kV.start _ _ _ _ _ _ _ _ _ _⟩
 refine Re (i:=1) (j:=4) (k:=5) (Ni:=some 136) (Nj:=some 18) (Nk:=some 19) #[I,I,I,O,O,O,O,O] #[I,O,I,O,I,O,O,O] #[I,O,I,O,O,I,O,O] rfl rfl rfl rfl rfl rfl (Jc aC.out (by kernel_rfl)) (by decide) (by decide) (by decide) (fun K hK=>?_) (fun K hK=>?_) (fun K hK=>?_)
 .refine fD Tryz.func10 (by kernel_rfl) rfl #[.agg #[.slice A0 old.length c0,.int .i64 nw,.slice A2 rs.length c2,.slice A3 rj.length c3]] (by rfl) rfl rfl (by(try simp only[List.map_toArray,List.map_cons,List.map_nil]);rfl) ?_
  refine(j4 nw _ (Ld.out.later hx.b).k0 (Ld.out.later hx.b).k2 (Ld.out.later hx.b).k3 ho1 hs1 hj1 ss js TW.out HJS.out).mono ?_
  rintro e_ wc ⟨⟨B0,d0,B2,d2,B3,d3,rfl,hM,hR⟩,hbx⟩
  have hsn:=hx.c1 (y':=⟨B0,d0,B2,d2,B3,d3⟩) hbx ⟨hM,hR⟩
  refine⟨_,rfl,hK.out _ _ ⟨(by simpa using (Ld.out.later hsn.b).b4.cell 0),(by simpa using (Ld.out.later hsn.b).b4.cell 1),(by simpa using (Ld.out.later hsn.b).b4.cell 2),(by simpa using (Ld.out.later hsn.b).b4.cell 3),(by simpa using (Ld.out.later hsn.b).b14.cell 0),(by simpa using (Ld.out.later hsn.b).b14.cell 1),(by simpa using (Ld.out.later hsn.b).b14.cell 2),(by simpa using (Ld.out.later hsn.b).b14.cell 3)⟩ (fun _=>?_)⟩
  clear hK K
  have hfin:=abF ((⟨B0,d0,B2,d2,B3,d3⟩:qQ),x.2.1,x.2.2.1,x.2.2.2) wc hsn
  refine bF ?_ hfin
  simp only[cB,Act.put,List.setIfInBounds_toArray,List.set_cons_zero,List.set_cons_succ]
 .refine dV (w1:=?_) (v:=?_) (by rfl) rfl ?_ ?_
  rotate_left 2
  .go_simp
   constructor<;>rfl
  have hsn:=hx.a4
  refine hK.out _ _ ⟨(by simpa using (Ld.out.later hsn.b).b4.cell 0),(by simpa using (Ld.out.later hsn.b).b4.cell 1),(by simpa using (Ld.out.later hsn.b).b4.cell 2),(by simpa using (Ld.out.later hsn.b).b4.cell 3),(by simpa using (Ld.out.later hsn.b).b14.cell 0),(by simpa using (Ld.out.later hsn.b).b14.cell 1),(by simpa using (Ld.out.later hsn.b).b14.cell 2),(by simpa using (Ld.out.later hsn.b).b14.cell 3)⟩ (fun _=>?_)
  clear hK K
  have hfin:=alJ (x.1,x.2.1,wd.heap.size,x.2.2.2) _ hsn
  refine bF ?_ hfin
  simp only[cB,Act.put,List.setIfInBounds_toArray,List.set_cons_zero,List.set_cons_succ]
 .refine dV (w1:=?_) (v:=?_) (by rfl) rfl ?_ ?_
  rotate_left 2
  .go_simp
   constructor<;>rfl
  have hsn:=hx.a5
  refine hK.out _ _ ⟨(by simpa using (Ld.out.later hsn.b).b4.cell 0),(by simpa using (Ld.out.later hsn.b).b4.cell 1),(by simpa using (Ld.out.later hsn.b).b4.cell 2),(by simpa using (Ld.out.later hsn.b).b4.cell 3),(by simpa using (Ld.out.later hsn.b).b14.cell 0),(by simpa using (Ld.out.later hsn.b).b14.cell 1),(by simpa using (Ld.out.later hsn.b).b14.cell 2),(by simpa using (Ld.out.later hsn.b).b14.cell 3)⟩ (fun _=>?_)
  clear hK K
  have hfin:=alK (x.1,x.2.1,x.2.2.1,wd.heap.size) _ hsn
  refine bF ?_ hfin
  simp only[cB,Act.put,List.setIfInBounds_toArray,List.set_cons_zero,List.set_cons_succ]
 case h210=>
  intro x W hx
  refine bF (by simp only[cB,Act.put,List.setIfInBounds_toArray,List.set_cons_zero,List.set_cons_succ];rfl) ?_
  refine iC (i:=5) (N:=some 19) #[I,I,I,I,I,I,O,O] rfl rfl (aN aC.out (by kernel_rfl)) (by decide) (fun K hK=>?_)
  refine dV (w1:=?_) (v:=?_) (by rfl) rfl ?_ ?_
  rotate_left 2
  .go_simp
   constructor<;>rfl
  have hsn:=hx.a5
  refine hK.out _ _ ⟨(by simpa using (Ld.out.later hsn.b).b4.cell 0),(by simpa using (Ld.out.later hsn.b).b4.cell 1),(by simpa using (Ld.out.later hsn.b).b4.cell 2),(by simpa using (Ld.out.later hsn.b).b4.cell 3),(by simpa using (Ld.out.later hsn.b).b14.cell 0),(by simpa using (Ld.out.later hsn.b).b14.cell 1),(by simpa using (Ld.out.later hsn.b).b14.cell 2),(by simpa using (Ld.out.later hsn.b).b14.cell 3)⟩ (fun _=>?_)
  clear hK K
  have hfin:=abD (x.1,x.2.1,x.2.2.1,W.heap.size) _ hsn
  refine bF ?_ hfin
  simp only[cB,Act.put,List.setIfInBounds_toArray,List.set_cons_zero,List.set_cons_succ]
 case h201=>
  intro x W hx
  refine bF (by simp only[cB,Act.put,List.setIfInBounds_toArray,List.set_cons_zero,List.set_cons_succ];rfl) ?_
  refine iC (i:=4) (N:=some 18) #[I,I,I,I,I,I,O,O] rfl rfl (aN aC.out (by kernel_rfl)) (by decide) (fun K hK=>?_)
  refine dV (w1:=?_) (v:=?_) (by rfl) rfl ?_ ?_
  rotate_left 2
  .go_simp
   constructor<;>rfl
  have hsn:=hx.a4
  refine hK.out _ _ ⟨(by simpa using (Ld.out.later hsn.b).b4.cell 0),(by simpa using (Ld.out.later hsn.b).b4.cell 1),(by simpa using (Ld.out.later hsn.b).b4.cell 2),(by simpa using (Ld.out.later hsn.b).b4.cell 3),(by simpa using (Ld.out.later hsn.b).b14.cell 0),(by simpa using (Ld.out.later hsn.b).b14.cell 1),(by simpa using (Ld.out.later hsn.b).b14.cell 2),(by simpa using (Ld.out.later hsn.b).b14.cell 3)⟩ (fun _=>?_)
  clear hK K
  have hfin:=abD (x.1,x.2.1,W.heap.size,x.2.2.2) _ hsn
  refine bF ?_ hfin
  simp only[cB,Act.put,List.setIfInBounds_toArray,List.set_cons_zero,List.set_cons_succ]
 case h111=>
  intro x W hx
  refine bF (by simp only[cB,Act.put,List.setIfInBounds_toArray,List.set_cons_zero,List.set_cons_succ];rfl) ?_
  refine iC (i:=3) (N:=some 138) #[I,I,I,I,I,I,O,O] rfl rfl (aN aC.out (by kernel_rfl)) (by decide) (fun K hK=>?_)
  refine fD Tryz.func10 (by kernel_rfl) rfl #[.agg #[.slice A0 old.length c0,.int .i64 nw,.slice X2 rs2.length x2,.slice X3 xs.length x3]] (by rfl) rfl rfl (by(try simp only[List.map_toArray,List.map_cons,List.map_nil]);rfl) ?_
  refine(j4 nw _ (Ld.out.later hx.b).k0 (Ld.out.later hx.b).m2 (Ld.out.later hx.b).m3 ho1 hs2 hj2 jF jG Xm.out Xr.out).mono ?_
  rintro e_ wc ⟨⟨B0,d0,B2,d2,B3,d3,rfl,hM,hR⟩,hbx⟩
  have hsn:=hx.c2 (y':=⟨B0,d0,B2,d2,B3,d3⟩) hbx ⟨hM,hR⟩
  refine⟨_,rfl,hK.out _ _ ⟨(by simpa using (Ld.out.later hsn.b).b4.cell 0),(by simpa using (Ld.out.later hsn.b).b4.cell 1),(by simpa using (Ld.out.later hsn.b).b4.cell 2),(by simpa using (Ld.out.later hsn.b).b4.cell 3),(by simpa using (Ld.out.later hsn.b).b14.cell 0),(by simpa using (Ld.out.later hsn.b).b14.cell 1),(by simpa using (Ld.out.later hsn.b).b14.cell 2),(by simpa using (Ld.out.later hsn.b).b14.cell 3)⟩ (fun _=>?_)⟩
  clear hK K
  have hfin:=abD (x.1,(⟨B0,d0,B2,d2,B3,d3⟩:qQ),x.2.2.1,x.2.2.2) wc hsn
  refine bF ?_ hfin
  simp only[cB,Act.put,List.setIfInBounds_toArray,List.set_cons_zero,List.set_cons_succ]
 case h200=>
  intro x W hx
  refine bF (by simp only[cB,Act.put,List.setIfInBounds_toArray,List.set_cons_zero,List.set_cons_succ];rfl) ?_
  refine zQ (i:=4) (j:=5) (Ni:=some 18) (Nj:=some 19) #[I,I,I,I,I,O,O,O] #[I,I,I,I,O,I,O,O] rfl rfl rfl rfl (nN aC.out (by kernel_rfl)) (by decide) (by decide) (fun K hK=>?_) (fun K hK=>?_)
  .refine dV (w1:=?_) (v:=?_) (by rfl) rfl ?_ ?_
   rotate_left 2
   .go_simp
    constructor<;>rfl
   have hsn:=hx.a4
   refine hK.out _ _ ⟨(by simpa using (Ld.out.later hsn.b).b4.cell 0),(by simpa using (Ld.out.later hsn.b).b4.cell 1),(by simpa using (Ld.out.later hsn.b).b4.cell 2),(by simpa using (Ld.out.later hsn.b).b4.cell 3),(by simpa using (Ld.out.later hsn.b).b14.cell 0),(by simpa using (Ld.out.later hsn.b).b14.cell 1),(by simpa using (Ld.out.later hsn.b).b14.cell 2),(by simpa using (Ld.out.later hsn.b).b14.cell 3)⟩ (fun _=>?_)
   clear hK K
   have hfin:=afw (x.1,x.2.1,W.heap.size,x.2.2.2) _ hsn
   refine bF ?_ hfin
   simp only[cB,Act.put,List.setIfInBounds_toArray,List.set_cons_zero,List.set_cons_succ]
  .refine dV (w1:=?_) (v:=?_) (by rfl) rfl ?_ ?_
   rotate_left 2
   .go_simp
    constructor<;>rfl
   have hsn:=hx.a5
   refine hK.out _ _ ⟨(by simpa using (Ld.out.later hsn.b).b4.cell 0),(by simpa using (Ld.out.later hsn.b).b4.cell 1),(by simpa using (Ld.out.later hsn.b).b4.cell 2),(by simpa using (Ld.out.later hsn.b).b4.cell 3),(by simpa using (Ld.out.later hsn.b).b14.cell 0),(by simpa using (Ld.out.later hsn.b).b14.cell 1),(by simpa using (Ld.out.later hsn.b).b14.cell 2),(by simpa using (Ld.out.later hsn.b).b14.cell 3)⟩ (fun _=>?_)
   clear hK K
   have hfin:=afx (x.1,x.2.1,x.2.2.1,W.heap.size) _ hsn
   refine bF ?_ hfin
   simp only[cB,Act.put,List.setIfInBounds_toArray,List.set_cons_zero,List.set_cons_succ]
 case h110=>
  intro x W hx
  refine bF (by simp only[cB,Act.put,List.setIfInBounds_toArray,List.set_cons_zero,List.set_cons_succ];rfl) ?_
  refine zQ (i:=3) (j:=5) (Ni:=some 138) (Nj:=some 19) #[I,I,I,I,I,O,O,O] #[I,I,I,O,I,I,O,O] rfl rfl rfl rfl (nN aC.out (by kernel_rfl)) (by decide) (by decide) (fun K hK=>?_) (fun K hK=>?_)
  .refine fD Tryz.func10 (by kernel_rfl) rfl #[.agg #[.slice A0 old.length c0,.int .i64 nw,.slice X2 rs2.length x2,.slice X3 xs.length x3]] (by rfl) rfl rfl (by(try simp only[List.map_toArray,List.map_cons,List.map_nil]);rfl) ?_
   refine(j4 nw _ (Ld.out.later hx.b).k0 (Ld.out.later hx.b).m2 (Ld.out.later hx.b).m3 ho1 hs2 hj2 jF jG Xm.out Xr.out).mono ?_
   rintro e_ wc ⟨⟨B0,d0,B2,d2,B3,d3,rfl,hM,hR⟩,hbx⟩
   have hsn:=hx.c2 (y':=⟨B0,d0,B2,d2,B3,d3⟩) hbx ⟨hM,hR⟩
   refine⟨_,rfl,hK.out _ _ ⟨(by simpa using (Ld.out.later hsn.b).b4.cell 0),(by simpa using (Ld.out.later hsn.b).b4.cell 1),(by simpa using (Ld.out.later hsn.b).b4.cell 2),(by simpa using (Ld.out.later hsn.b).b4.cell 3),(by simpa using (Ld.out.later hsn.b).b14.cell 0),(by simpa using (Ld.out.later hsn.b).b14.cell 1),(by simpa using (Ld.out.later hsn.b).b14.cell 2),(by simpa using (Ld.out.later hsn.b).b14.cell 3)⟩ (fun _=>?_)⟩
   clear hK K
   have hfin:=afw (x.1,(⟨B0,d0,B2,d2,B3,d3⟩:qQ),x.2.2.1,x.2.2.2) wc hsn
   refine bF ?_ hfin
   simp only[cB,Act.put,List.setIfInBounds_toArray,List.set_cons_zero,List.set_cons_succ]
  .refine dV (w1:=?_) (v:=?_) (by rfl) rfl ?_ ?_
   rotate_left 2
   .go_simp
    constructor<;>rfl
   have hsn:=hx.a5
   refine hK.out _ _ ⟨(by simpa using (Ld.out.later hsn.b).b4.cell 0),(by simpa using (Ld.out.later hsn.b).b4.cell 1),(by simpa using (Ld.out.later hsn.b).b4.cell 2),(by simpa using (Ld.out.later hsn.b).b4.cell 3),(by simpa using (Ld.out.later hsn.b).b14.cell 0),(by simpa using (Ld.out.later hsn.b).b14.cell 1),(by simpa using (Ld.out.later hsn.b).b14.cell 2),(by simpa using (Ld.out.later hsn.b).b14.cell 3)⟩ (fun _=>?_)
   clear hK K
   have hfin:=abE (x.1,x.2.1,x.2.2.1,W.heap.size) _ hsn
   refine bF ?_ hfin
   simp only[cB,Act.put,List.setIfInBounds_toArray,List.set_cons_zero,List.set_cons_succ]
 case h101=>
  intro x W hx
  refine bF (by simp only[cB,Act.put,List.setIfInBounds_toArray,List.set_cons_zero,List.set_cons_succ];rfl) ?_
  refine zQ (i:=3) (j:=4) (Ni:=some 138) (Nj:=some 18) #[I,I,I,I,O,I,O,O] #[I,I,I,O,I,I,O,O] rfl rfl rfl rfl (nN aC.out (by kernel_rfl)) (by decide) (by decide) (fun K hK=>?_) (fun K hK=>?_)
  .refine fD Tryz.func10 (by kernel_rfl) rfl #[.agg #[.slice A0 old.length c0,.int .i64 nw,.slice X2 rs2.length x2,.slice X3 xs.length x3]] (by rfl) rfl rfl (by(try simp only[List.map_toArray,List.map_cons,List.map_nil]);rfl) ?_
   refine(j4 nw _ (Ld.out.later hx.b).k0 (Ld.out.later hx.b).m2 (Ld.out.later hx.b).m3 ho1 hs2 hj2 jF jG Xm.out Xr.out).mono ?_
   rintro e_ wc ⟨⟨B0,d0,B2,d2,B3,d3,rfl,hM,hR⟩,hbx⟩
   have hsn:=hx.c2 (y':=⟨B0,d0,B2,d2,B3,d3⟩) hbx ⟨hM,hR⟩
   refine⟨_,rfl,hK.out _ _ ⟨(by simpa using (Ld.out.later hsn.b).b4.cell 0),(by simpa using (Ld.out.later hsn.b).b4.cell 1),(by simpa using (Ld.out.later hsn.b).b4.cell 2),(by simpa using (Ld.out.later hsn.b).b4.cell 3),(by simpa using (Ld.out.later hsn.b).b14.cell 0),(by simpa using (Ld.out.later hsn.b).b14.cell 1),(by simpa using (Ld.out.later hsn.b).b14.cell 2),(by simpa using (Ld.out.later hsn.b).b14.cell 3)⟩ (fun _=>?_)⟩
   clear hK K
   have hfin:=afx (x.1,(⟨B0,d0,B2,d2,B3,d3⟩:qQ),x.2.2.1,x.2.2.2) wc hsn
   refine bF ?_ hfin
   simp only[cB,Act.put,List.setIfInBounds_toArray,List.set_cons_zero,List.set_cons_succ]
  .refine dV (w1:=?_) (v:=?_) (by rfl) rfl ?_ ?_
   rotate_left 2
   .go_simp
    constructor<;>rfl
   have hsn:=hx.a4
   refine hK.out _ _ ⟨(by simpa using (Ld.out.later hsn.b).b4.cell 0),(by simpa using (Ld.out.later hsn.b).b4.cell 1),(by simpa using (Ld.out.later hsn.b).b4.cell 2),(by simpa using (Ld.out.later hsn.b).b4.cell 3),(by simpa using (Ld.out.later hsn.b).b14.cell 0),(by simpa using (Ld.out.later hsn.b).b14.cell 1),(by simpa using (Ld.out.later hsn.b).b14.cell 2),(by simpa using (Ld.out.later hsn.b).b14.cell 3)⟩ (fun _=>?_)
   clear hK K
   have hfin:=abE (x.1,x.2.1,W.heap.size,x.2.2.2) _ hsn
   refine bF ?_ hfin
   simp only[cB,Act.put,List.setIfInBounds_toArray,List.set_cons_zero,List.set_cons_succ]
 case h011=>
  intro x W hx
  refine bF (by simp only[cB,Act.put,List.setIfInBounds_toArray,List.set_cons_zero,List.set_cons_succ];rfl) ?_
  refine iC (i:=1) (N:=some 136) #[I,I,I,O,I,I,O,O] rfl rfl (aN aC.out (by kernel_rfl)) (by decide) (fun K hK=>?_)
  refine fD Tryz.func10 (by kernel_rfl) rfl #[.agg #[.slice A0 old.length c0,.int .i64 nw,.slice A2 rs.length c2,.slice A3 rj.length c3]] (by rfl) rfl rfl (by(try simp only[List.map_toArray,List.map_cons,List.map_nil]);rfl) ?_
  refine(j4 nw _ (Ld.out.later hx.b).k0 (Ld.out.later hx.b).k2 (Ld.out.later hx.b).k3 ho1 hs1 hj1 ss js TW.out HJS.out).mono ?_
  rintro e_ wc ⟨⟨B0,d0,B2,d2,B3,d3,rfl,hM,hR⟩,hbx⟩
  have hsn:=hx.c1 (y':=⟨B0,d0,B2,d2,B3,d3⟩) hbx ⟨hM,hR⟩
  refine⟨_,rfl,hK.out _ _ ⟨(by simpa using (Ld.out.later hsn.b).b4.cell 0),(by simpa using (Ld.out.later hsn.b).b4.cell 1),(by simpa using (Ld.out.later hsn.b).b4.cell 2),(by simpa using (Ld.out.later hsn.b).b4.cell 3),(by simpa using (Ld.out.later hsn.b).b14.cell 0),(by simpa using (Ld.out.later hsn.b).b14.cell 1),(by simpa using (Ld.out.later hsn.b).b14.cell 2),(by simpa using (Ld.out.later hsn.b).b14.cell 3)⟩ (fun _=>?_)⟩
  clear hK K
  have hfin:=abE ((⟨B0,d0,B2,d2,B3,d3⟩:qQ),x.2.1,x.2.2.1,x.2.2.2) wc hsn
  refine bF ?_ hfin
  simp only[cB,Act.put,List.setIfInBounds_toArray,List.set_cons_zero,List.set_cons_succ]
 case h100=>
  intro x W hx
  refine bF (by simp only[cB,Act.put,List.setIfInBounds_toArray,List.set_cons_zero,List.set_cons_succ];rfl) ?_
  refine Re (i:=3) (j:=4) (k:=5) (Ni:=some 138) (Nj:=some 18) (Nk:=some 19) #[I,I,I,I,O,O,O,O] #[I,I,I,O,I,O,O,O] #[I,I,I,O,O,I,O,O] rfl rfl rfl rfl rfl rfl (Jc aC.out (by kernel_rfl)) (by decide) (by decide) (by decide) (fun K hK=>?_) (fun K hK=>?_) (fun K hK=>?_)
  .refine fD Tryz.func10 (by kernel_rfl) rfl #[.agg #[.slice A0 old.length c0,.int .i64 nw,.slice X2 rs2.length x2,.slice X3 xs.length x3]] (by rfl) rfl rfl (by(try simp only[List.map_toArray,List.map_cons,List.map_nil]);rfl) ?_
   refine(j4 nw _ (Ld.out.later hx.b).k0 (Ld.out.later hx.b).m2 (Ld.out.later hx.b).m3 ho1 hs2 hj2 jF jG Xm.out Xr.out).mono ?_
   rintro e_ wc ⟨⟨B0,d0,B2,d2,B3,d3,rfl,hM,hR⟩,hbx⟩
   have hsn:=hx.c2 (y':=⟨B0,d0,B2,d2,B3,d3⟩) hbx ⟨hM,hR⟩
   refine⟨_,rfl,hK.out _ _ ⟨(by simpa using (Ld.out.later hsn.b).b4.cell 0),(by simpa using (Ld.out.later hsn.b).b4.cell 1),(by simpa using (Ld.out.later hsn.b).b4.cell 2),(by simpa using (Ld.out.later hsn.b).b4.cell 3),(by simpa using (Ld.out.later hsn.b).b14.cell 0),(by simpa using (Ld.out.later hsn.b).b14.cell 1),(by simpa using (Ld.out.later hsn.b).b14.cell 2),(by simpa using (Ld.out.later hsn.b).b14.cell 3)⟩ (fun _=>?_)⟩
   clear hK K
   have hfin:=alI (x.1,(⟨B0,d0,B2,d2,B3,d3⟩:qQ),x.2.2.1,x.2.2.2) wc hsn
   refine bF ?_ hfin
   simp only[cB,Act.put,List.setIfInBounds_toArray,List.set_cons_zero,List.set_cons_succ]
  .refine dV (w1:=?_) (v:=?_) (by rfl) rfl ?_ ?_
   rotate_left 2
   .go_simp
    constructor<;>rfl
   have hsn:=hx.a4
   refine hK.out _ _ ⟨(by simpa using (Ld.out.later hsn.b).b4.cell 0),(by simpa using (Ld.out.later hsn.b).b4.cell 1),(by simpa using (Ld.out.later hsn.b).b4.cell 2),(by simpa using (Ld.out.later hsn.b).b4.cell 3),(by simpa using (Ld.out.later hsn.b).b14.cell 0),(by simpa using (Ld.out.later hsn.b).b14.cell 1),(by simpa using (Ld.out.later hsn.b).b14.cell 2),(by simpa using (Ld.out.later hsn.b).b14.cell 3)⟩ (fun _=>?_)
   clear hK K
   have hfin:=afy (x.1,x.2.1,W.heap.size,x.2.2.2) _ hsn
   refine bF ?_ hfin
   simp only[cB,Act.put,List.setIfInBounds_toArray,List.set_cons_zero,List.set_cons_succ]
  .refine dV (w1:=?_) (v:=?_) (by rfl) rfl ?_ ?_
   rotate_left 2
   .go_simp
    constructor<;>rfl
   have hsn:=hx.a5
   refine hK.out _ _ ⟨(by simpa using (Ld.out.later hsn.b).b4.cell 0),(by simpa using (Ld.out.later hsn.b).b4.cell 1),(by simpa using (Ld.out.later hsn.b).b4.cell 2),(by simpa using (Ld.out.later hsn.b).b4.cell 3),(by simpa using (Ld.out.later hsn.b).b14.cell 0),(by simpa using (Ld.out.later hsn.b).b14.cell 1),(by simpa using (Ld.out.later hsn.b).b14.cell 2),(by simpa using (Ld.out.later hsn.b).b14.cell 3)⟩ (fun _=>?_)
   clear hK K
   have hfin:=Xx (x.1,x.2.1,x.2.2.1,W.heap.size) _ hsn
   refine bF ?_ hfin
   simp only[cB,Act.put,List.setIfInBounds_toArray,List.set_cons_zero,List.set_cons_succ]
 case h010=>
  intro x W hx
  refine bF (by simp only[cB,Act.put,List.setIfInBounds_toArray,List.set_cons_zero,List.set_cons_succ];rfl) ?_
  refine zQ (i:=1) (j:=5) (Ni:=some 136) (Nj:=some 19) #[I,I,I,O,I,O,O,O] #[I,O,I,O,I,I,O,O] rfl rfl rfl rfl (nN aC.out (by kernel_rfl)) (by decide) (by decide) (fun K hK=>?_) (fun K hK=>?_)
  .refine fD Tryz.func10 (by kernel_rfl) rfl #[.agg #[.slice A0 old.length c0,.int .i64 nw,.slice A2 rs.length c2,.slice A3 rj.length c3]] (by rfl) rfl rfl (by(try simp only[List.map_toArray,List.map_cons,List.map_nil]);rfl) ?_
   refine(j4 nw _ (Ld.out.later hx.b).k0 (Ld.out.later hx.b).k2 (Ld.out.later hx.b).k3 ho1 hs1 hj1 ss js TW.out HJS.out).mono ?_
   rintro e_ wc ⟨⟨B0,d0,B2,d2,B3,d3,rfl,hM,hR⟩,hbx⟩
   have hsn:=hx.c1 (y':=⟨B0,d0,B2,d2,B3,d3⟩) hbx ⟨hM,hR⟩
   refine⟨_,rfl,hK.out _ _ ⟨(by simpa using (Ld.out.later hsn.b).b4.cell 0),(by simpa using (Ld.out.later hsn.b).b4.cell 1),(by simpa using (Ld.out.later hsn.b).b4.cell 2),(by simpa using (Ld.out.later hsn.b).b4.cell 3),(by simpa using (Ld.out.later hsn.b).b14.cell 0),(by simpa using (Ld.out.later hsn.b).b14.cell 1),(by simpa using (Ld.out.later hsn.b).b14.cell 2),(by simpa using (Ld.out.later hsn.b).b14.cell 3)⟩ (fun _=>?_)⟩
   clear hK K
   have hfin:=afy ((⟨B0,d0,B2,d2,B3,d3⟩:qQ),x.2.1,x.2.2.1,x.2.2.2) wc hsn
   refine bF ?_ hfin
   simp only[cB,Act.put,List.setIfInBounds_toArray,List.set_cons_zero,List.set_cons_succ]
  .refine dV (w1:=?_) (v:=?_) (by rfl) rfl ?_ ?_
   rotate_left 2
   .go_simp
    constructor<;>rfl
   have hsn:=hx.a5
   refine hK.out _ _ ⟨(by simpa using (Ld.out.later hsn.b).b4.cell 0),(by simpa using (Ld.out.later hsn.b).b4.cell 1),(by simpa using (Ld.out.later hsn.b).b4.cell 2),(by simpa using (Ld.out.later hsn.b).b4.cell 3),(by simpa using (Ld.out.later hsn.b).b14.cell 0),(by simpa using (Ld.out.later hsn.b).b14.cell 1),(by simpa using (Ld.out.later hsn.b).b14.cell 2),(by simpa using (Ld.out.later hsn.b).b14.cell 3)⟩ (fun _=>?_)
   clear hK K
   have hfin:=afz (x.1,x.2.1,x.2.2.1,W.heap.size) _ hsn
   refine bF ?_ hfin
   simp only[cB,Act.put,List.setIfInBounds_toArray,List.set_cons_zero,List.set_cons_succ]
 case h001=>
  intro x W hx
  refine bF (by simp only[cB,Act.put,List.setIfInBounds_toArray,List.set_cons_zero,List.set_cons_succ];rfl) ?_
  refine zQ (i:=1) (j:=4) (Ni:=some 136) (Nj:=some 18) #[I,I,I,O,O,I,O,O] #[I,O,I,O,I,I,O,O] rfl rfl rfl rfl (nN aC.out (by kernel_rfl)) (by decide) (by decide) (fun K hK=>?_) (fun K hK=>?_)
  .refine fD Tryz.func10 (by kernel_rfl) rfl #[.agg #[.slice A0 old.length c0,.int .i64 nw,.slice A2 rs.length c2,.slice A3 rj.length c3]] (by rfl) rfl rfl (by(try simp only[List.map_toArray,List.map_cons,List.map_nil]);rfl) ?_
   refine(j4 nw _ (Ld.out.later hx.b).k0 (Ld.out.later hx.b).k2 (Ld.out.later hx.b).k3 ho1 hs1 hj1 ss js TW.out HJS.out).mono ?_
   rintro e_ wc ⟨⟨B0,d0,B2,d2,B3,d3,rfl,hM,hR⟩,hbx⟩
   have hsn:=hx.c1 (y':=⟨B0,d0,B2,d2,B3,d3⟩) hbx ⟨hM,hR⟩
   refine⟨_,rfl,hK.out _ _ ⟨(by simpa using (Ld.out.later hsn.b).b4.cell 0),(by simpa using (Ld.out.later hsn.b).b4.cell 1),(by simpa using (Ld.out.later hsn.b).b4.cell 2),(by simpa using (Ld.out.later hsn.b).b4.cell 3),(by simpa using (Ld.out.later hsn.b).b14.cell 0),(by simpa using (Ld.out.later hsn.b).b14.cell 1),(by simpa using (Ld.out.later hsn.b).b14.cell 2),(by simpa using (Ld.out.later hsn.b).b14.cell 3)⟩ (fun _=>?_)⟩
   clear hK K
   have hfin:=Xx ((⟨B0,d0,B2,d2,B3,d3⟩:qQ),x.2.1,x.2.2.1,x.2.2.2) wc hsn
   refine bF ?_ hfin
   simp only[cB,Act.put,List.setIfInBounds_toArray,List.set_cons_zero,List.set_cons_succ]
  .refine dV (w1:=?_) (v:=?_) (by rfl) rfl ?_ ?_
   rotate_left 2
   .go_simp
    constructor<;>rfl
   have hsn:=hx.a4
   refine hK.out _ _ ⟨(by simpa using (Ld.out.later hsn.b).b4.cell 0),(by simpa using (Ld.out.later hsn.b).b4.cell 1),(by simpa using (Ld.out.later hsn.b).b4.cell 2),(by simpa using (Ld.out.later hsn.b).b4.cell 3),(by simpa using (Ld.out.later hsn.b).b14.cell 0),(by simpa using (Ld.out.later hsn.b).b14.cell 1),(by simpa using (Ld.out.later hsn.b).b14.cell 2),(by simpa using (Ld.out.later hsn.b).b14.cell 3)⟩ (fun _=>?_)
   clear hK K
   have hfin:=afz (x.1,x.2.1,W.heap.size,x.2.2.2) _ hsn
   refine bF ?_ hfin
   simp only[cB,Act.put,List.setIfInBounds_toArray,List.set_cons_zero,List.set_cons_succ]
 case h211=>
  rintro⟨⟨B0,d0,B2,d2,B3,d3⟩,⟨E0,e0,E2,e2,E3,e3⟩,g,h⟩ W hx
  refine bF (by simp only[cB,Act.put,List.setIfInBounds_toArray,List.set_cons_zero,List.set_cons_succ];rfl) ?_
  obtain⟨hb,h1,h2,h3,h4,h5⟩:=hx
  obtain⟨i1,r1⟩:=h1 rfl
  obtain⟨i2,r2⟩:=h2 rfl
  obtain⟨bg,hg⟩:=h3 rfl
  obtain⟨bh,hh⟩:=h4 rfl
  have hgh:=h5 rfl rfl
  have hgl:=bg.lt
  have hhl:=bh.lt
  dsimp only at i1 r1 i2 r2 bg bh hgl hhl hg hh hgh ⊢
  clear h1 h2 h3 h4 h5
  refine dW (i:=6) (N:=none) #[I,I,I,I,I,I,I,O] rfl rfl (aN aC.out (by kernel_rfl)) (by decide) (fun K hK=>?_)
  have aaq:W.cell? ⟨g,0,none⟩=some (.slice none 0 0):=by simpa using bg.cell 0
  have aap:W.cell? ⟨g,1,none⟩=some (.int .i64 0):=by simpa using bg.cell 1
  have aao:W.cell? ⟨g,2,none⟩=some (.slice none 0 0):=by simpa using bg.cell 2
  have aan:W.cell? ⟨g,3,none⟩=some (.slice none 0 0):=by simpa using bg.cell 3
  have aae:W.frozen? ⟨g,0,none⟩=false:=bg.frozen 0
  have aac:W.frozen? ⟨g,1,none⟩=false:=bg.frozen 1
  have aaa:W.frozen? ⟨g,2,none⟩=false:=bg.frozen 2
  have Z9:W.frozen? ⟨g,3,none⟩=false:=bg.frozen 3
  refine ib (w1:=?_) (by rfl) rfl ?_ ?_
  rotate_left
  .go_simp
   rfl
  refine hK.out _ _ ?_
  clear hK K aaq aae aap aac aao aaa aan Z9
  have ZP:=aa.mk (((((Stp.refl g W).set 0 (.slice B0 old.length d0)).set 1 (.int .i64 nw)).set 2 (.slice B2 ss.length d2)).set 3 (.slice B3 js.length d3))
  have adG:=aa.mk (show aR _ g [.slice B0 old.length d0,.int .i64 nw,.slice B2 ss.length d2,.slice B3 js.length d3] 43 from(bM (bM (bM (bM bg 0 (.slice B0 old.length d0)) 1 (.int .i64 nw)) 2 (.slice B2 ss.length d2)) 3 (.slice B3 js.length d3)))
  have bh1:=ZP.out.blk bh (Ne.symm hgh)
  have r11:=r1
  clear r11
  have q1:=RB.sets r1 bg (.slice B0 old.length d0) (.int .i64 nw) (.slice B2 ss.length d2) (.slice B3 js.length d3)
  have q2:=RB.sets r2 bg (.slice B0 old.length d0) (.int .i64 nw) (.slice B2 ss.length d2) (.slice B3 js.length d3)
  generalize((((W.setCell ⟨g,0,none⟩ (.slice B0 old.length d0)).setCell ⟨g,1,none⟩ (.int .i64 nw)).setCell ⟨g,2,none⟩ (.slice B2 ss.length d2)).setCell ⟨g,3,none⟩ (.slice B3 js.length d3))=W1 at ZP adG bh1 q1 q2 ⊢
  have bh0:=bh
  clear bh0
  replace bh:=bh1
  clear bh1
  refine dW (i:=7) (N:=none) #[I,I,I,I,I,I,I,I] rfl rfl (aN aC.out (by kernel_rfl)) (by decide) (fun K hK=>?_)
  have aaq:W1.cell? ⟨h,0,none⟩=some (.slice none 0 0):=by simpa using bh.cell 0
  have aap:W1.cell? ⟨h,1,none⟩=some (.int .i64 0):=by simpa using bh.cell 1
  have aao:W1.cell? ⟨h,2,none⟩=some (.slice none 0 0):=by simpa using bh.cell 2
  have aan:W1.cell? ⟨h,3,none⟩=some (.slice none 0 0):=by simpa using bh.cell 3
  have aae:W1.frozen? ⟨h,0,none⟩=false:=bh.frozen 0
  have aac:W1.frozen? ⟨h,1,none⟩=false:=bh.frozen 1
  have aaa:W1.frozen? ⟨h,2,none⟩=false:=bh.frozen 2
  have Z9:W1.frozen? ⟨h,3,none⟩=false:=bh.frozen 3
  refine ib (w1:=?_) (by rfl) rfl ?_ ?_
  rotate_left
  .go_simp
   rfl
  refine hK.out _ _ ?_
  clear hK K aaq aae aap aac aao aaa aan Z9
  have ZO:=aa.mk (((((Stp.refl h W1).set 0 (.slice E0 old.length e0)).set 1 (.int .i64 nw)).set 2 (.slice E2 jF.length e2)).set 3 (.slice E3 jG.length e3))
  have adF:=aa.mk (show aR _ h [.slice E0 old.length e0,.int .i64 nw,.slice E2 jF.length e2,.slice E3 jG.length e3] 43 from(bM (bM (bM (bM bh 0 (.slice E0 old.length e0)) 1 (.int .i64 nw)) 2 (.slice E2 jF.length e2)) 3 (.slice E3 jG.length e3)))
  have t1:=RB.sets q1 bh (.slice E0 old.length e0) (.int .i64 nw) (.slice E2 jF.length e2) (.slice E3 jG.length e3)
  have t2:=RB.sets q2 bh (.slice E0 old.length e0) (.int .i64 nw) (.slice E2 jF.length e2) (.slice E3 jG.length e3)
  generalize((((W1.setCell ⟨h,0,none⟩ (.slice E0 old.length e0)).setCell ⟨h,1,none⟩ (.int .i64 nw)).setCell ⟨h,2,none⟩ (.slice E2 jF.length e2)).setCell ⟨h,3,none⟩ (.slice E3 jG.length e3))=W2 at ZO adF t1 t2 ⊢
  refine fF (bQ aC.out (by kernel_rfl)) ?_
  refine hK _ _ ?_
  have hq:=TV.out
  have hb1:=ZP.out.seq hb hg hb.size
  have L2:=Ld.out.later (ZO.out.seq hb1 hh hb1.size)
  have LZ:=aa.mk (show LQ w0 W2 old nw lo hi ss jF js jG ps fr g h B0 B2 B3 E0 E2 E3 Ap Af d0 d2 d3 e0 e2 e3 cp cf from⟨L2.below,L2.b5,ZO.out.blk adG.out hgh,adF.out,t1.isB ho1 hq.1 hq.2.2.1,t2.isB ho1 hq.2.1 hq.2.2.2,L2.kp,L2.kf⟩)
  clear hb1 L2
  refine aiL _ ?_ LZ.out HF.out hcf HN.out HSL.out HSM.out
  rfl
end Go.Proofs.YtkjoilgpmngndaaGreat
