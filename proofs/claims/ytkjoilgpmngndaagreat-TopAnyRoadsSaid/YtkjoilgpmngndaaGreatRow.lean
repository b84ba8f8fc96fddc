/- The given statement is proved in full, for every input, with no condition; the other files of the claim (merged and written in short by pack.py) hold the lemmas. -/
import Derived.ChangeOld
import Derived.ChangeSame
import Derived.Deep.Slices
import Derived.Deep.Strs
import Derived.Lib.SmallJoins
import Derived.OpenShut
import Derived.ProofKit
import Derived.ShutString
import Derived.SizedLaws
import Derived.Test.YtkjoilgpmngndaaGreatRows
import Derived.Test.YtkjoilgpmngndaaGreatQ41
set_option maxRecDepth 100000
set_option linter.all false
namespace Go.Proofs.YtkjoilgpmngndaaGreat.Wk
open Go.RowKit Go.Shelf au YtkjoilgpmngndaaGreatW.aj YtkjoilgpmngndaaGreatW.aJ YtkjoilgpmngndaaGreatW.ek
theorem OJ:(Tryz.prog.info? 64).map (λi=>(i.zero,i.size,i.bytes))=some (some (.agg #[.slice none 0 0,.slice none 0 0]),2,48):=by kernel_rfl
theorem XF(l0:List vC)(l1:List pO):jh.f l0 l1=some (decide (l0.length<=11)&&decide (l1.length<=24)):=by
 unfold jh.f
 by_cases h:l0.length<=11
 .rw[if_pos (by omega)]
  simp[h]
  omega
 .rw[if_neg (by omega)]
  simp[h]
theorem Ml(a b:List Int):fo.f a b=some (decide (a.length<=70)&&decide (b.length<=12)):=by
 unfold fo.f
 by_cases h:a.length<=70
 .rw[if_pos (by omega)]
  simp[h]
  omega
 .rw[if_neg (by omega)]
  simp[h]
def OkW(x:S64):Prop:=x.f0.length<=70/\x.f1.length<=12
theorem Qp(x:List S64):∀(d i:Nat),i+d=min x.length 12->∃k b,aT.l0 k x (i:Int)=some b/\(b=true->x.length<=11/\∀j:Nat,i<=j->j<x.length->OkW (fD x (j:Int))):=by
 intro d
 induction d with
 |zero=>
  intro i hi
  refine⟨2,decide ((x.length:Int)<=11),?_,λh=>?_⟩
  .rw[aT.l0]
   by_cases h:(i:Int)<x.length
   .rw[if_pos h,decide_eq_false (by omega),aT.j1,if_neg (by simp)]
   .rw[if_neg h,aT.j1,if_neg (by simp)]
  .have:=of_decide_eq_true h
   exact⟨by omega,λj h1 h2=>by omega⟩
 |succ d ih=>
  intro i hi
  obtain⟨k,b,h1,h2⟩:=ih (i+1) (by omega)
  have hw:wrap64 ((i:Int)+1)=((i+1:Nat):Int):=by unfold wrap64;omega
  cases hs:(decide ((fD x (i:Int)).f0.length<=70)&&decide ((fD x (i:Int)).f1.length<=12))
  .refine⟨k+2,false,?_,nofun⟩
   rw[aT.l0,if_pos (by omega),decide_eq_true (by omega),aT.j1,if_pos rfl,if_pos (by omega),if_pos (by omega),Ml,hs]
   rfl
  .refine⟨k+2,b,?_,λhb=>?_⟩
   .rw[aT.l0,if_pos (by omega),decide_eq_true (by omega),aT.j1,if_pos rfl,if_pos (by omega),if_pos (by omega),Ml,hs]
    simp only[Option.bind_some,if_true]
    rw[hw,h1]
   .obtain⟨h3,h4⟩:=h2 hb
    refine⟨h3,λj hj1 hj2=>?_⟩
    by_cases e:j=i
    .subst e
     simp only[Bool.and_eq_true,decide_eq_true_eq] at hs
     exact hs
    .exact h4 j (by omega) hj2
theorem Jl(x:List S64):∃k b,aT.f k x=some b/\(b=true->x.length<=11/\∀j:Nat,j<x.length->OkW (fD x (j:Int))):=by
 obtain⟨k,b,h1,h2⟩:=Qp x (min x.length 12) 0 (by omega)
 exact⟨k,b,h1,λh=>⟨(h2 h).1,λj hj=>(h2 h).2 j (Nat.zero_le _) hj⟩⟩
theorem NW{x:S64}{pl:List S64}(h:([x]++pl).length<=11/\∀j:Nat,j<([x]++pl).length->OkW (fD ([x]++pl) (j:Int))):OkW x/\pl.length<=10/\uw pl:=by
 obtain⟨h1,h2⟩:=h
 simp only[List.singleton_append,List.length_cons] at h1 h2
 refine⟨by have:=h2 0 (by omega);simpa[fD] using this,by omega,λy hy=>?_⟩
 obtain⟨j,hj,rfl⟩:=List.getElem_of_mem hy
 have:=h2 (j+1) (by omega)
 have e:fD (x::pl) ((j+1:Nat):Int)=pl[j]:=by simp[fD,List.getD,hj]
 rw[e] at this
 have h3:=this.1
 have h4:=this.2
 exact⟨by omega,by omega⟩
def XR{α:Type}(d:Kd α)(W0:World):Kd α where
 sz:=d.sz
 E:=[]
 K:=λ_ x cs=>∀w',Below W0.heap.size W0 w'->d.K w' x cs
 M:=λ_ _ _ x cs=>∀w',Below W0.heap.size W0 w'->d.K w' x cs
 kR:=λh=>d.kR (h _ (Below.refl _ _))
 kQ:=λh=>d.kQ (h _ (Below.refl _ _))
 jb:=λ_ h=>h
 gU:=λh=>h
 fT:=λ_ h=>h
 gJ:=λh=>h
 jy:=λ_ h=>h
 jl:=λ_ h=>h
theorem QA{α:Type}{d:Kd α}{W0 W:World}{A:Option Addr}{n:Nat}{xs:List α}(h:d.C W0 A n xs)(hb:Below W0.heap.size W0 W):gI (λx cs=>∀w',Below W0.heap.size W0 w'->d.K w' x cs) d.sz W A n xs:=
 gI.ru h hb (λ_ _ hk w' hb'=>d.jb hb' hk)
theorem XQ{α:Type}{d:Kd α}{W0 W:World}{A:Option Addr}{n:Nat}{xs:List α}(h:(XR d W0).C W A n xs)(hb:Below W0.heap.size W0 W):d.C W A n xs:=
 gI.ru h (Below.refl _ _) (λ_ _ hk=>hk W hb)
theorem adr{α:Type}(d:Kd α)(e:Nat){W:World}{base:Nat}(x:α)(cs:List Value)(hx:∀w b ok,d.M w b ok x cs)(hb:base<=W.heap.size):d.R e (W.alloc (.cells cs.toArray e)) base (λ_=>True) (.slice (some ⟨W.heap.size,0,none⟩) 1 1) [x]:=by
 have hl:cs.length=d.sz:=d.kR (d.gU (hx W base (λ_=>True)))
 have h2:=World.ownsRow_lit (base:=base) (e:=e) (size:=d.sz) W cs.toArray 1 hb (by decide) (by simpa using hl)
 have h3:(W.alloc (.cells cs.toArray e)).ownsRow base e d.sz (.slice (some ⟨W.heap.size,0,none⟩) 1 1) 1 cs:=by simpa using h2
 refine⟨λ_ _=>trivial,cs,h3,?_⟩
 refine⟨by simpa using hl,λj p hj=>?_⟩
 obtain⟨hjl,hp⟩:=List.getElem?_eq_some_iff.1 hj
 have hj0:j=0:=by simpa using hjl
 subst hj0
 have:x=p:=by simpa using hp
 subst this
 have e1:(cs.drop (0*d.sz)).take d.sz=cs:=by simp[<- hl]
 rw[e1]
 exact hx _ _ _
theorem De{P:Program}{ops:Array Oper}{Q:Exit->Act->World->Prop}{o:Oper}{rest:List Oper}{a:Act}{W:World}(hw:Region.wanted o (yielded ops a.tmps)=true)(h:if Region.wanted o (yielded ops a.tmps)=true then Oper.wp P o a W (wpList P ops Q rest) Q else wpList P ops Q rest (a.put o.dst undef) W):wpList P ops Q (o::rest) a W:=by
 unfold wpList
 rw[if_pos hw] at h ⊢
 exact .inl h
set_option maxHeartbeats 40000000 in
theorem Oy{A0 A1 A2 A3 A4 A5 A6 A7:Option Addr}{c0 c1 c2 c3 c4 c5 c6 c7:Nat}(l0:List vC)(l1:List pO)(rt cs tw tr:List Int)(pl:List S64)(ps:List Int)(fr jH limit many:Int){Aw:Option Addr}{cw:Nat}(ws:List Int)(w:World)
  (k0:Hw.C w A0 l0.length l0) (hc0:l0.length<=c0) (k1:Dv.C w A1 l1.length l1) (hc1:l1.length<=c1) (kr:(Kd.int .i64).C w A2 rt.length rt) (hc2:rt.length<=c2) (kc:(Kd.int .i64).C w A3 cs.length cs) (hc3:cs.length<=c3) (kw:(Kd.int .i64).C w A4 tw.length tw) (kt:(Kd.int .i64).C w A5 tr.length tr)
  (kp:IX.C w A6 pl.length pl) (hbk:pl.length*48<=140737488351232) (ks:(Kd.int .i64).C w A7 ps.length ps) (Gg:ps.length<=c7) (kW:(Kd.int .u16).C w Aw ws.length ws) (hcw:ws.length<=cw) (hws:∀j:Nat,j<ws.length->0<=rd ws (j:Int)/\rd ws (j:Int)<65536):
  Calls Tryz.prog 4 #[.agg #[.slice A0 l0.length c0,.slice A1 l1.length c1,.slice A2 rt.length c2,.slice A3 cs.length c3,.slice A4 tw.length c4,.slice A5 tr.length c5,.slice A6 pl.length c6,.slice A7 ps.length c7,.int .i64 fr,.int .i64 jH,.int .i64 limit,.int .i64 many],.slice Aw ws.length cw] w λe w'=>e= .returned (.bool true)/\Below w.heap.size w w':=by
 have K0:=aa.mk k0
 have K1:=aa.mk k1
 have KR:=aa.mk kr
 have KC:=aa.mk kc
 have KW:=aa.mk kw
 have KT:=aa.mk kt
 have KS:=aa.mk ks
 have KP:=aa.mk kp
 have KU:=aa.mk kW
 have Xe:=aa.mk hws
 clear k0 k1 kr kc kw kt ks kp kW hws
 go_enter Tryz.func4,Tryz.ntmps4
 refine dR 0 (by kernel_rfl) (λK hK=>?_)
 unfold jK
 conv=>arg 2;whnf
 go_wp2_with fail
 refine dR 1 (by kernel_rfl) (λK1_ hK1=>?_)
 unfold jK
 conv=>arg 2;whnf
 have HB:=aa.mk (ae (Below.refl w.heap.size w) (.cells #[.slice A0 l0.length c0,.slice A1 l1.length c1,.slice A2 rt.length c2,.slice A3 cs.length c3,.slice A4 tw.length c4,.slice A5 tr.length c5,.slice A6 pl.length c6,.slice A7 ps.length c7,.int .i64 fr,.int .i64 jH,.int .i64 limit,.int .i64 many] 69))
 have BX:=aa.mk (aR.new w [.slice A0 l0.length c0,.slice A1 l1.length c1,.slice A2 rt.length c2,.slice A3 cs.length c3,.slice A4 tw.length c4,.slice A5 tr.length c5,.slice A6 pl.length c6,.slice A7 ps.length c7,.int .i64 fr,.int .i64 jH,.int .i64 limit,.int .i64 many] 69)
 generalize w.alloc (.cells #[.slice A0 l0.length c0,.slice A1 l1.length c1,.slice A2 rt.length c2,.slice A3 cs.length c3,.slice A4 tw.length c4,.slice A5 tr.length c5,.slice A6 pl.length c6,.slice A7 ps.length c7,.int .i64 fr,.int .i64 jH,.int .i64 limit,.int .i64 many] 69)=w0 at HB BX ⊢
 have g0:=BX.out.cell 0
 have g1:=BX.out.cell 1
 have g2:=BX.out.cell 2
 have g3:=BX.out.cell 3
 have g4:=BX.out.cell 4
 have g5:=BX.out.cell 5
 have g6:=BX.out.cell 6
 have g7:=BX.out.cell 7
 have g8:=BX.out.cell 8
 have g9:=BX.out.cell 9
 have g10:=BX.out.cell 10
 have g11:=BX.out.cell 11
 simp only[eP,eO] at g0 g1 g2 g3 g4 g5 g6 g7 g8 g9 g10 g11
 go_wp2_with fail
 refine(jh.calls A0 c0 l0 A1 c1 l1 _ w0 (Kd.av K0.out HB.out) hc0 (Kd.av K1.out HB.out) hc1 (XF l0 l1)).mono ?_
 rintro e w1 ⟨rfl,hb1⟩
 replace HB:=aa.mk (HB.out.trans (hb1.mono HB.out.size))
 replace BX:=aa.mk (BX.out.below hb1)
 clear hb1 g0 g1 g2 g3 g4 g5 g6 g7 g8 g9 g10 g11
 have g0:=BX.out.cell 0
 have g1:=BX.out.cell 1
 have g2:=BX.out.cell 2
 have g3:=BX.out.cell 3
 have g4:=BX.out.cell 4
 have g5:=BX.out.cell 5
 have g6:=BX.out.cell 6
 have g7:=BX.out.cell 7
 have g8:=BX.out.cell 8
 have g9:=BX.out.cell 9
 have g10:=BX.out.cell 10
 have g11:=BX.out.cell 11
 simp only[eP,eO] at g0 g1 g2 g3 g4 g5 g6 g7 g8 g9 g10 g11
 have hgB:=BX.out.lt
 cases hth:(decide (l0.length<=11)&&decide (l1.length<=24))
 .go_wp2_with fail
  refine(jI _).mono ?_
  rintro e wq ⟨rfl,hbq⟩
  have HQ:=aa.mk (HB.out.trans (hbq.mono HB.out.size))
  go_wp2_with fail
  go_ret
  exact⟨rfl,HQ.out⟩
 simp only[Bool.and_eq_true,decide_eq_true_eq] at hth
 obtain⟨ht0,ht1⟩:=hth
 have KP1:=aa.mk (Kd.av KP.out HB.out)
 have HO:=aa.mk (adr (XR IX w1) 64 (W:=w1) (base:=w1.heap.size) (⟨rt,cs⟩:S64) [.slice A2 rt.length c2,.slice A3 cs.length c3] (λ_ _ _ w' hb'=>QX w' ⟨rt,cs⟩ hc2 (Kd.av (Kd.av KR.out HB.out) hb') hc3 (Kd.av (Kd.av KC.out HB.out) hb')) (Nat.le_refl _))
 have Vu:=aa.mk (QA KP1.out (ae (Below.refl w1.heap.size w1) (.cells #[.slice A2 rt.length c2,.slice A3 cs.length c3] 64)))
 obtain⟨kS,bS,hS,hSb⟩:=Jl ([⟨rt,cs⟩]++pl)
 have HSB:=aa.mk (λh=>NW (hSb h))
 obtain⟨sl,hsl⟩:∃l,([⟨rt,cs⟩]:List S64)++pl=l:=⟨_,rfl⟩
 rw[hsl] at hS
 have HSL:=aa.mk hsl
 clear hsl
 have HS:=aa.mk hS
 clear hS hSb
 go_wp2_with ((with_reducible refine cz (b:= .append) (xs:=#[.tmp 62,.tmp 64]) rfl ?_);refine De (by rfl) (Kd.bO (XR IX w1) (w0:=w1) w1.heap.size (by rfl) (.tmp 62) (.tmp 64) 67 64 (.agg #[.slice none 0 0,.slice none 0 0]) 48 rfl Tryz.underlying67 OJ rfl (Nat.succ_pos 1) (Nat.succ_pos 47) (.slice (some ⟨w1.heap.size,0,none⟩) 1 1) [⟨rt,cs⟩] pl A6 pl.length c6 (λ_=>True) (λ_=>False) rfl rfl HO.out Vu.out (λx cs h=>h) (λ_ hk=>hk.elim) (λ_ _=>trivial) (ae (Below.refl _ _) _) (by simp) (by simp only[List.length_singleton];omega) ?_);intro vn wn hon hbn hgn fP;rw[HSL.out] at hon;obtain⟨An,cn,rfl,hcn,hCn⟩:=Kd.cB hon;have VE:=aa.mk (XQ hCn hbn);have HBN:=aa.mk hbn;clear hon hbn hgn fP hCn)
 refine(aT.calls kS An cn sl bS wn VE.out hcn HS.out).mono ?_
 rintro e w2 ⟨rfl,hb2⟩
 have hb1:=HBN.out.trans (hb2.mono HBN.out.size)
 clear HO Vu KP1 VE HBN hb2 HS hgB
 replace HB:=aa.mk (HB.out.trans (hb1.mono HB.out.size))
 replace BX:=aa.mk (BX.out.below hb1)
 clear hb1 g0 g1 g2 g3 g4 g5 g6 g7 g8 g9 g10 g11
 have g0:=BX.out.cell 0
 have g1:=BX.out.cell 1
 have g2:=BX.out.cell 2
 have g3:=BX.out.cell 3
 have g4:=BX.out.cell 4
 have g5:=BX.out.cell 5
 have g6:=BX.out.cell 6
 have g7:=BX.out.cell 7
 have g8:=BX.out.cell 8
 have g9:=BX.out.cell 9
 have g10:=BX.out.cell 10
 have g11:=BX.out.cell 11
 simp only[eP,eO] at g0 g1 g2 g3 g4 g5 g6 g7 g8 g9 g10 g11
 have hgB:=BX.out.lt
 cases bS
 .go_wp2_with fail
  refine(jI _).mono ?_
  rintro e wq ⟨rfl,hbq⟩
  have HQ:=aa.mk (HB.out.trans (hbq.mono HB.out.size))
  go_wp2_with fail
  go_ret
  exact⟨rfl,HQ.out⟩
 obtain⟨hok,akM,hsm⟩:=HSB.out rfl
 have FZ:=aa.mk hsm
 clear HSB hsm
 by_cases ha:(30:Int)<(tw.length:Int)
 .have had:decide ((30:Int)<(tw.length:Int))=true:=by simpa using ha
  go_wp2_with fail
  refine(jI _).mono ?_
  rintro e wq ⟨rfl,hbq⟩
  have HQ:=aa.mk (HB.out.trans (hbq.mono HB.out.size))
  go_wp2_with fail
  go_ret
  exact⟨rfl,HQ.out⟩
 have had:decide ((30:Int)<(tw.length:Int))=false:=by simpa using ha
 replace ha:=Int.not_lt.1 ha
 by_cases hb:(30:Int)<(tr.length:Int)
 .have hbd:decide ((30:Int)<(tr.length:Int))=true:=by simpa using hb
  go_wp2_with fail
  refine(jI _).mono ?_
  rintro e wq ⟨rfl,hbq⟩
  have HQ:=aa.mk (HB.out.trans (hbq.mono HB.out.size))
  go_wp2_with fail
  go_ret
  exact⟨rfl,HQ.out⟩
 have hbd:decide ((30:Int)<(tr.length:Int))=false:=by simpa using hb
 replace hb:=Int.not_lt.1 hb
 by_cases hc:(30:Int)<(ps.length:Int)
 .have hcd:decide ((30:Int)<(ps.length:Int))=true:=by simpa using hc
  go_wp2_with fail
  refine(jI _).mono ?_
  rintro e wq ⟨rfl,hbq⟩
  have HQ:=aa.mk (HB.out.trans (hbq.mono HB.out.size))
  go_wp2_with fail
  go_ret
  exact⟨rfl,HQ.out⟩
 have hcd:decide ((30:Int)<(ps.length:Int))=false:=by simpa using hc
 replace hc:=Int.not_lt.1 hc
 go_wp2_with fail
 refine dR 2 (by kernel_rfl) (λK2_ hK2=>?_)
 unfold jK
 conv=>arg 2;whnf
 obtain⟨k1,o7,bk,s,t,hf1,hr1,hTf,hTk⟩:=Pq l1.length (by omega) ws Xe.out
 have HF1:=aa.mk hf1
 have HR1:=aa.mk hr1
 have TF:=aa.mk hTf
 clear hf1 hr1 hTf hTk
 go_wp2_with fail
 refine(ai.calls k1 (l1.length:Int) Aw cw ws o7 bk w2 (Kd.av KU.out HB.out) hcw HF1.out).mono ?_
 rintro e w3 ⟨q0,q1,rfl,hRf,hRk,hb3⟩
 obtain⟨Af,cf,rfl,hcf,_⟩:=Kd.cB hRf
 obtain⟨Ak,ck,rfl,hck,_⟩:=Kd.cB hRk
 have RF:=aa.mk (Kd.bB hRf (λ_ _=>trivial):(Kd.int .i64).R 3 w3 w2.heap.size (λ_=>True) (.slice Af o7.length cf) o7)
 replace HB:=aa.mk (HB.out.trans (hb3.mono HB.out.size))
 replace BX:=aa.mk (BX.out.below hb3)
 have HX:=aa.mk (show rt.length<=1000/\cs.length<=1000/\tw.length<=1000/\tr.length<=1000/\ps.length<=1000/\pl.length<=1000 from⟨Nat.le_trans (show rt.length<=70 from hok.1) (by decide),Nat.le_trans (show cs.length<=12 from hok.2) (by decide),by omega,by omega,by omega,by omega⟩)
 clear hRf hRk hcf hck hb3 g0 g1 g2 g3 g4 g5 g6 g7 g8 g9 g10 g11 ha hb hc had hbd hcd hok
 go_wp2_with fail
 refine agL (ws:=ws) (cw:=cw) (Aw:=Aw) _ ?_ HB.out BX.out RF.out K0.out hc0 K1.out hc1 KR.out KC.out KW.out KT.out KS.out KP.out KU.out hcw ht0 ht1 HX.out.1 HX.out.2.1 HX.out.2.2.1 HX.out.2.2.2.1 Gg HX.out.2.2.2.2.1 HX.out.2.2.2.2.2 FZ.out HR1.out TF.out
 rfl
open Go.RowKit Go.ChangeShapes Go.WideShapes Go.Deep au YtkjoilgpmngndaaGreatW.aj
section
variable {H:Type} {enc:TypeId×Value->H} {P:Program} {w:World} {base:Nat} {spare:Nat->Bool} {held:Bool}
theorem qU{α:Type}(d:Kd α){t e:TypeId}{fuel:Nat}{v:Value}{x:DataW H×List MemPlace}(ht:P.underlying t=some (.slice e))(hc:P.cellsOf e=d.sz)
  (hel:∀(n:Nat) (cs:List Value) (y:DataW H×List MemPlace),cs.length=d.sz->DataW.trod enc P w base spare held n e cs=some y->∃z,d.K w z cs)
  (h:DataW.trod enc P w base spare held fuel t [v]=some x):∃(A:Option Addr) (c:Nat) (l:List α),v= .slice A l.length c/\l.length<=c/\c<=maxLen/\d.C w A l.length l:=by
 rcases open_slice ht h with⟨hcs,_⟩|⟨a,len,cap,m,n,D,Pl,hcs,hb,hl,hm,hmm,hx,hi⟩
 .obtain rfl:v= .slice none 0 0:=by simpa using hcs
  exact⟨none,0,[],rfl,Nat.le_refl _,Nat.zero_le _,⟨rfl,by simp,λh=>absurd h (by simp)⟩⟩
 .obtain rfl:v= .slice (some a) len cap:=by simpa using hcs
  have hlm:len<=m:=by rw[hmm];split<;>omega
  have key:∀i:Fin len,∃z:α,∃cs:List Value,cs.length=d.sz/\d.K w z cs/\∀j u,cs[j]?=some u->w.cell? (a.add (i.1*d.sz+j))=some u:=by
   intro i
   obtain⟨cs',hcc,htr⟩:=hi i.1 (by omega)
   rw[hc] at hcc
   obtain⟨_,hcl,hat⟩:=World.cells?_some hcc
   obtain⟨z,hz⟩:=hel n cs' _ hcl htr
   refine⟨z,cs',hcl,hz,λj u hj=>?_⟩
   have hjl:j<d.sz:=by
    rw[<- hcl]
    exact(List.getElem?_eq_some_iff.1 hj).1
   have:=hat j hjl
   rw[<- Go.Deep.add_add,this,hj]
  obtain⟨f,hf⟩:=Classical.axiomOfChoice key
  have hlen:(List.ofFn f).length=len:=by simp
  have hcap:len<=9223372036854775807:=by
   have:maxLen<=9223372036854775807:=by decide
   omega
  refine⟨some a,cap,List.ofFn f,by rw[hlen],by rw[hlen];exact hl,hm,?_⟩
  refine⟨rfl,by rw[hlen];exact hcap,λ_=>⟨a,rfl,λj p hj=>?_⟩⟩
  obtain⟨hjl,hjp⟩:=List.getElem?_eq_some_iff.1 hj
  rw[hlen] at hjl
  obtain⟨cs,h1,h2,h3⟩:=hf ⟨j,hjl⟩
  have hp:f ⟨j,hjl⟩=p:=by rw[<- hjp];simp
  rw[hp] at h2
  exact⟨cs,h1,h2,h3⟩
end
section
variable {H:Type} {enc:TypeId×Value->H} {w:World} {base:Nat} {spare:Nat->Bool} {held:Bool}
theorem Wh{α:Type}{l:List α}(h:l.length=2):∃a b,l=[a,b]:=by
 match l,h with
 |[a,b],_=>exact⟨a,b,rfl⟩
theorem Pj:Tryz.prog.cellsOf 3=(Kd.int .i64).sz:=by kernel_rfl
theorem OH(n:Nat)(cs:List Value)(y:DataW H×List MemPlace)(hl:cs.length=(Kd.int .i64).sz)(h:DataW.trod enc Tryz.prog w base spare held n 3 cs=some y):∃z,(Kd.int .i64).K w z cs:=by
 obtain⟨a,e0,_,_⟩:=DataW.trod_int Tryz.underlying3 h
 exact⟨a,e0⟩
theorem Ph:Tryz.prog.cellsOf 111=(Kd.int .u16).sz:=by kernel_rfl
theorem XE{n:Int}(h:(Lit.int .u16 n).wf=true):0<=n/\n<65536:=by
 simp[Lit.wf] at h
 have e1:IntKind.u16.min=0:=rfl
 have e2:IntKind.u16.max=65535:=rfl
 omega
def TP:Kd {n:Int // 0<=n/\n<65536}:=Kd.scalar (λn=> .int .u16 n.1) (λ_=>rfl)
theorem aaW{w:World}{A:Option Addr}{xs:List {n:Int // 0<=n/\n<65536}}(h:TP.C w A xs.length xs):(Kd.int .u16).C w A (xs.map Subtype.val).length (xs.map Subtype.val):=by
 obtain⟨h1,h2,h3⟩:=h
 refine⟨rfl,by rw[List.length_map];exact h2,λh0=>?_⟩
 obtain⟨a,e,h4⟩:=h3 (by simpa using h0)
 refine⟨a,e,λj p hj=>?_⟩
 rw[List.getElem?_map] at hj
 obtain⟨q,hq,rfl⟩:=Option.map_eq_some_iff.1 hj
 obtain⟨cs,h5,h6,h7⟩:=h4 j q hq
 exact⟨cs,h5,h6,h7⟩
theorem NN(n:Nat)(cs:List Value)(y:DataW H×List MemPlace)(hl:cs.length=TP.sz)(h:DataW.trod enc Tryz.prog w base spare held n 111 cs=some y):∃z,TP.K w z cs:=by
 obtain⟨a,e0,_,hwf⟩:=DataW.trod_int Tryz.underlying111 h
 exact⟨⟨a,XE hwf⟩,e0⟩
theorem JW{r:Reach}{b0:Nat}{v:Value}{d:DataW H}{p:List MemPlace}(hv:Value.okWide Tryz.prog w r b0 29 v)(h:DataW.Trod enc Tryz.prog w base spare held 29 v d p):
  ∃(A:Option Addr) (c:Nat) (ws:List Int),v= .slice A ws.length c/\ws.length<=c/\(Kd.int .u16).C w A ws.length ws/\∀j:Nat,j<ws.length->0<=rd ws (j:Int)/\rd ws (j:Int)<65536:=by
 obtain⟨a,l,c,rfl⟩:=okWide_slice Tryz.underlying29 hv
 obtain⟨fuel,hf⟩:=h
 have hf':DataW.trod enc Tryz.prog w base spare held fuel 29 [.slice a l c]=some (d,p):=by simpa[Value.cells] using hf
 obtain⟨A,c',xs,e,hl,_,hC⟩:=qU TP (t:=29) (e:=111) Tryz.underlying29 Ph (λn cs y=>NN n cs y) hf'
 refine⟨A,c',xs.map Subtype.val,by rw[List.length_map];exact e,by rw[List.length_map];exact hl,aaW hC,λj hj=>?_⟩
 rw[List.length_map] at hj
 have:rd (xs.map Subtype.val) (j:Int)=(xs[j]).1:=by simp[rd,List.getD,hj]
 rw[this]
 exact(xs[j]).2
theorem Ip:Tryz.prog.cellsOf 72=Hw.sz:=by kernel_rfl
theorem KH:Tryz.prog.cellsOf 74=Dv.sz:=by kernel_rfl
theorem KG:Tryz.prog.cellsOf 64=IX.sz:=by kernel_rfl
theorem zx(n:Nat)(cs:List Value)(y:DataW H×List MemPlace)(hl:cs.length=Hw.sz)(h:DataW.trod enc Tryz.prog w base spare held n 72 cs=some y):∃z,Hw.K w z cs:=by
 obtain⟨c0,c1,rfl⟩:=Wh (show cs.length=2 from hl)
 obtain⟨y0,y1,m,_,_,h0,h1⟩:=trod_struct2 Tryz.underlying72 h
 have e:Tryz.prog.cellsOf 3=1:=by kernel_rfl
 simp only[e,List.drop_zero,List.drop_succ_cons,List.take_succ_cons,List.take_zero] at h0 h1
 obtain⟨a,e0,_,_⟩:=DataW.trod_int Tryz.underlying3 h0
 obtain⟨b,e1,_,_⟩:=DataW.trod_int Tryz.underlying3 h1
 obtain rfl:c0= .int .i64 a:=by simpa using e0
 obtain rfl:c1= .int .i64 b:=by simpa using e1
 exact⟨⟨a,b⟩,QV w ⟨a,b⟩⟩
theorem Yb{α:Type}{l:List α}(h:l.length=4):∃a b c d,l=[a,b,c,d]:=by
 match l,h with
 |[a,b,c,d],_=>exact⟨a,b,c,d,rfl⟩
theorem Jr(n:Nat)(cs:List Value)(y:DataW H×List MemPlace)(hl:cs.length=Dv.sz)(h:DataW.trod enc Tryz.prog w base spare held n 74 cs=some y):∃z,Dv.K w z cs:=by
 obtain⟨c0,c1,c2,c3,rfl⟩:=Yb (show cs.length=4 from hl)
 obtain⟨x0,x1,x2,m,_,_,h0,h1,h2⟩:=trod_struct3 Tryz.underlying74 h
 have e:Tryz.prog.cellsOf 3=1:=by kernel_rfl
 have e2:Tryz.prog.cellsOf 72=2:=by kernel_rfl
 simp only[e,e2,List.drop_zero,List.drop_succ_cons,List.take_succ_cons,List.take_zero] at h0 h1 h2
 obtain⟨a,e0,_,_⟩:=DataW.trod_int Tryz.underlying3 h0
 obtain⟨b,e1,_,_⟩:=DataW.trod_int Tryz.underlying3 h1
 obtain rfl:c0= .int .i64 a:=by simpa using e0
 obtain rfl:c1= .int .i64 b:=by simpa using e1
 obtain⟨z,hz⟩:=zx (w:=w) m [c2,c3] x2 rfl h2
 have:=Bq hz
 simp only[List.cons.injEq,and_true] at this
 obtain⟨rfl,rfl⟩:=this
 exact⟨⟨a,b,z⟩,Yh w ⟨a,b,z⟩⟩
theorem rZ{n:Nat}{v:Value}{y:DataW H×List MemPlace}(h:DataW.trod enc Tryz.prog w base spare held n 22 [v]=some y):∃(A:Option Addr) (c:Nat) (l:List Int),v= .slice A l.length c/\l.length<=c/\(Kd.int .i64).C w A l.length l:=by
 obtain⟨A,c,l,e,hl,_,hC⟩:=qU (Kd.int .i64) (t:=22) (e:=3) Tryz.underlying22 Pj (λn cs y=>OH n cs y) h
 exact⟨A,c,l,e,hl,hC⟩
theorem Je(n:Nat)(cs:List Value)(y:DataW H×List MemPlace)(hl:cs.length=IX.sz)(h:DataW.trod enc Tryz.prog w base spare held n 64 cs=some y):∃z,IX.K w z cs:=by
 obtain⟨v0,v1,rfl⟩:=Wh (show cs.length=2 from hl)
 obtain⟨y0,y1,m,_,_,h0,h1⟩:=trod_struct2 Tryz.underlying64 h
 have e:Tryz.prog.cellsOf 22=1:=by kernel_rfl
 simp only[e,List.drop_zero,List.drop_succ_cons,List.take_succ_cons,List.take_zero] at h0 h1
 obtain⟨A0,c0,l0,rfl,hl0,hC0⟩:=rZ h0
 obtain⟨A1,c1,l1,rfl,hl1,Ty⟩:=rZ h1
 exact⟨⟨l0,l1⟩,QX w ⟨l0,l1⟩ hl0 hC0 hl1 Ty⟩
theorem Yc{α:Type}{l:List α}(h:l.length=12):∃a0 a1 a2 a3 a4 a5 a6 a7 a8 a9 Zz Zy,l=[a0,a1,a2,a3,a4,a5,a6,a7,a8,a9,Zz,Zy]:=by
 match l,h with
 |[a0,a1,a2,a3,a4,a5,a6,a7,a8,a9,Zz,Zy],_=>exact⟨a0,a1,a2,a3,a4,a5,a6,a7,a8,a9,Zz,Zy,rfl⟩
theorem abm{α:Type}{l:List α}(h:l.length=9):∃a0 a1 a2 a3 a4 a5 a6 a7 a8,l=[a0,a1,a2,a3,a4,a5,a6,a7,a8]:=by
 match l,h with
 |[a0,a1,a2,a3,a4,a5,a6,a7,a8],_=>exact⟨a0,a1,a2,a3,a4,a5,a6,a7,a8,rfl⟩
theorem Vh{α:Type}{cs:Array α}(h:cs.size=12):∃a0 a1 a2 a3 a4 a5 a6 a7 a8 a9 Zz Zy,cs=#[a0,a1,a2,a3,a4,a5,a6,a7,a8,a9,Zz,Zy]:=by
 obtain⟨l⟩:=cs
 obtain⟨a0,a1,a2,a3,a4,a5,a6,a7,a8,a9,Zz,Zy,rfl⟩:=Yc (show l.length=12 from h)
 exact⟨a0,a1,a2,a3,a4,a5,a6,a7,a8,a9,Zz,Zy,rfl⟩
theorem G6{P:Program}{t e:TypeId}{d:DataW H}(ht:P.underlying t=some (.slice e))(h:(d.weights P t).all (· <=reachBytes)=true):Go.Joins.sliceLen d*P.bytesOf e<=reachBytes:=by
 cases d with
 |slice el sp=>
  simp only[DataW.weights,ht,List.all_cons,Bool.and_eq_true,decide_eq_true_eq] at h
  exact Nat.le_trans (Nat.mul_le_mul_right _ (Nat.le_add_right _ _)) h.1
 |_=>simp[Go.Joins.sliceLen]
set_option maxHeartbeats 4000000 in
theorem JX{r:Reach}{b0:Nat}{v:Value}{d:DataW H}{p:List MemPlace}(hv:Value.okWide Tryz.prog w r b0 69 v)(h:DataW.Trod enc Tryz.prog w base spare held 69 v d p)(hw:(d.weights Tryz.prog 69).all (· <=reachBytes)=true):
  ∃(A0:Option Addr) (c0:Nat) (l0:List vC) (A1:Option Addr) (c1:Nat) (l1:List pO) (A2:Option Addr) (c2:Nat) (rt:List Int) (A3:Option Addr) (c3:Nat) (cs:List Int) (A4:Option Addr) (c4:Nat) (tw:List Int) (A5:Option Addr) (c5:Nat) (tr:List Int) (A6:Option Addr) (c6:Nat) (pl:List S64) (A7:Option Addr) (c7:Nat) (ps:List Int) (fr jH limit many:Int),
   v= .agg #[.slice A0 l0.length c0,.slice A1 l1.length c1,.slice A2 rt.length c2,.slice A3 cs.length c3,.slice A4 tw.length c4,.slice A5 tr.length c5,.slice A6 pl.length c6,.slice A7 ps.length c7,.int .i64 fr,.int .i64 jH,.int .i64 limit,.int .i64 many]/\(Hw.C w A0 l0.length l0/\l0.length<=c0)/\(Dv.C w A1 l1.length l1/\l1.length<=c1)/\((Kd.int .i64).C w A2 rt.length rt/\rt.length<=c2)/\((Kd.int .i64).C w A3 cs.length cs/\cs.length<=c3)/\(Kd.int .i64).C w A4 tw.length tw/\(Kd.int .i64).C w A5 tr.length tr/\(IX.C w A6 pl.length pl/\pl.length*48<=140737488351232)/\((Kd.int .i64).C w A7 ps.length ps/\ps.length<=c7):=by
 obtain⟨zs,rfl,hsz⟩:=okWide_struct Tryz.underlying69 hv
 obtain⟨z0,z1,z2,z3,z4,z5,z6,z7,z8,z9,z10,z11,rfl⟩:=Vh (hsz.trans (by kernel_rfl))
 obtain⟨fuel,hf⟩:=h
 obtain⟨xs,n,_,hx,hl,hlen,Tx⟩:=DataW.trod_struct Tryz.underlying69 hf
 obtain⟨y0,y1,y2,y3,y4,y5,y6,y7,y8,rfl⟩:=abm (show xs.length=9 from hlen)
 have e1:Tryz.prog.cellsOf 3=1:=by kernel_rfl
 have e2:Tryz.prog.cellsOf 62=2:=by kernel_rfl
 have e3:Tryz.prog.cellsOf 64=2:=by kernel_rfl
 have e4:Tryz.prog.cellsOf 66=2:=by kernel_rfl
 have e5:Tryz.prog.cellsOf 67=1:=by kernel_rfl
 have e6:Tryz.prog.cellsOf 22=1:=by kernel_rfl
 have e7:Tryz.prog.cellsOf 59=1:=by kernel_rfl
 have e8:Tryz.prog.cellsOf 60=1:=by kernel_rfl
 have h0:DataW.trod enc Tryz.prog w base spare held n 62 [z0,z1]=some y0:=by simpa[Value.cells,e1,e2,e3,e4,e5,e6] using Tx 0 _ rfl
 have h1:DataW.trod enc Tryz.prog w base spare held n 64 [z2,z3]=some y1:=by simpa[Value.cells,e1,e2,e3,e4,e5,e6] using Tx 1 _ rfl
 have h2:DataW.trod enc Tryz.prog w base spare held n 66 [z4,z5]=some y2:=by simpa[Value.cells,e1,e2,e3,e4,e5,e6] using Tx 2 _ rfl
 have h3:DataW.trod enc Tryz.prog w base spare held n 67 [z6]=some y3:=by simpa[Value.cells,e1,e2,e3,e4,e5,e6] using Tx 3 _ rfl
 have h4:DataW.trod enc Tryz.prog w base spare held n 22 [z7]=some y4:=by simpa[Value.cells,e1,e2,e3,e4,e5,e6] using Tx 4 _ rfl
 have h5:DataW.trod enc Tryz.prog w base spare held n 3 [z8]=some y5:=by simpa[Value.cells,e1,e2,e3,e4,e5,e6] using Tx 5 _ rfl
 have h6:DataW.trod enc Tryz.prog w base spare held n 3 [z9]=some y6:=by simpa[Value.cells,e1,e2,e3,e4,e5,e6] using Tx 6 _ rfl
 have h7:DataW.trod enc Tryz.prog w base spare held n 3 [z10]=some y7:=by simpa[Value.cells,e1,e2,e3,e4,e5,e6] using Tx 7 _ rfl
 have h8:DataW.trod enc Tryz.prog w base spare held n 3 [z11]=some y8:=by simpa[Value.cells,e1,e2,e3,e4,e5,e6] using Tx 8 _ rfl
 clear Tx hf
 obtain⟨_,_,m0,_,_,a0,a1⟩:=trod_struct2 Tryz.underlying62 h0
 obtain⟨_,_,m1,_,_,a2,a3⟩:=trod_struct2 Tryz.underlying64 h1
 obtain⟨_,_,m2,_,_,a4,a5⟩:=trod_struct2 Tryz.underlying66 h2
 simp only[e6,e7,e8,List.drop_zero,List.drop_succ_cons,List.take_succ_cons,List.take_zero] at a0 a1 a2 a3 a4 a5
 obtain⟨A0,c0,l0,rfl,hl0,_,hC0⟩:=qU Hw (t:=59) (e:=72) Tryz.underlying59 Ip (λn cs y=>zx n cs y) a0
 obtain⟨A1,c1,l1,rfl,hl1,_,Ty⟩:=qU Dv (t:=60) (e:=74) Tryz.underlying60 KH (λn cs y=>Jr n cs y) a1
 obtain⟨A2,c2,rt,rfl,hl2,hC2⟩:=rZ a2
 obtain⟨A3,c3,cs,rfl,hl3,hC3⟩:=rZ a3
 obtain⟨A4,c4,tw,rfl,hl4,hC4⟩:=rZ a4
 obtain⟨A5,c5,tr,rfl,hl5,hC5⟩:=rZ a5
 obtain⟨A6,c6,pl,rfl,Yy,_,hC6⟩:=qU IX (t:=67) (e:=64) Tryz.underlying67 KG (λn cs y=>Je n cs y) h3
 obtain⟨A7,c7,ps,rfl,hl7,hC7⟩:=rZ h4
 obtain⟨fr,q5,_,_⟩:=DataW.trod_int Tryz.underlying3 h5
 obtain⟨jH,q6,_,_⟩:=DataW.trod_int Tryz.underlying3 h6
 obtain⟨limit,q7,_,_⟩:=DataW.trod_int Tryz.underlying3 h7
 obtain⟨many,q8,_,_⟩:=DataW.trod_int Tryz.underlying3 h8
 obtain rfl:z8= .int .i64 fr:=by simpa using q5
 obtain rfl:z9= .int .i64 jH:=by simpa using q6
 obtain rfl:z10= .int .i64 limit:=by simpa using q7
 obtain rfl:z11= .int .i64 many:=by simpa using q8
 have hd:d= .agg [y0.1,y1.1,y2.1,y3.1,y4.1,y5.1,y6.1,y7.1,y8.1]:=(Prod.mk.inj hx).1
 have hpw:(y3.1.weights Tryz.prog 67).all (· <=reachBytes)=true:=by
  rw[hd] at hw
  simp only[DataW.weights,Tryz.underlying69,DataW.weightsEach,List.map_cons,List.all_append,Bool.and_eq_true] at hw
  exact hw.2.2.2.1
 have h48:=G6 Tryz.underlying67 hpw
 rw[Go.Joins.sliceLen_trod (d:=y3.1) (ps:=y3.2) Tryz.underlying67 h3,show Tryz.prog.bytesOf 64=48 from by kernel_rfl] at h48
 exact⟨A0,c0,l0,A1,c1,l1,A2,c2,rt,A3,c3,cs,A4,c4,tw,A5,c5,tr,A6,c6,pl,A7,c7,ps,fr,jH,limit,many,rfl,⟨hC0,hl0⟩,⟨Ty,hl1⟩,⟨hC2,hl2⟩,⟨hC3,hl3⟩,hC4,hC5,⟨hC6,h48⟩,⟨hC7,hl7⟩⟩
end
end Go.Proofs.YtkjoilgpmngndaaGreat.Wk
namespace Go.Proofs.YtkjoilgpmngndaaGreat.zm
open Wk Go.ChangeShapes Go.WideShapes Go.ChangeAt Go.RowKit au YtkjoilgpmngndaaGreatW.aj
theorem own:ownKnob Tryz.prog.godebug=none:=by kernel_rfl
theorem laidOut:laidOutB Tryz.prog=true:=by kernel_rfl
theorem lifted(os:Os)(started:os.Started)(H:Type)(enc:TypeId×Value->H):
  ReturnsInHanded {} Tryz.checked os 4 .any (Rows.topAnyRoadsSpec.pre6 enc Tryz.prog Tryz.f4 Rows.topAnyRoadsRow.domain false) (Rows.topAnyRoadsSpec.post enc Tryz.prog Tryz.f4 false true false false):=by
 refine returnsInHanded_of_change_sized (C:=Tryz.checked) own started (by kernel_rfl) Tryz.func4
  (ChangeSpec.witness6 (enc:=enc) (C:=Tryz.checked) false ⟨#[],#[.agg #[.slice none 0 0,.slice none 0 0,.slice none 0 0,.slice none 0 0,.slice none 0 0,.slice none 0 0,.slice none 0 0,.slice none 0 0,.int .i64 0,.int .i64 0,.int .i64 0,.int .i64 0],.slice none 0 0],[]⟩ 4 (by kernel_rfl) (by kernel_rfl) (by kernel_rfl) (by kernel_rfl)) ?_
 intro W base args ds gs before hval0 hW hcnd hsz0 _
 have hval:∀(j:Nat) t v,Tryz.f4.params[j]?=some t->args[j]?=some v->Value.okWide Tryz.prog W .any base t v:=hval0
 have hW':=hW
 obtain⟨p,q,hA0,hV,rfl,hfz,hnd⟩:=hW
 have hA:DataW.TrodAll enc Tryz.prog W 0 (λ_=>true) true Tryz.f4.params.toList args.toList ds p:=hA0
 rw[Tryz.params4] at hA hval
 obtain⟨v0,vs0,d0,ds0,p0,q0,hargs,rfl,rfl,h0,r0⟩:=trodAll_cons hA
 obtain⟨v1,vs1,d1,ds1,p1,q1,rfl,rfl,rfl,h1,r1⟩:=trodAll_cons r0
 obtain⟨rfl,rfl,rfl⟩:=trodAll_nil r1
 obtain rfl:args=#[v0,v1]:=by cases args;simp_all
 obtain⟨rfl,rfl⟩:=trodVars_none hV
 have hw:(d0.weights Tryz.prog 69).all (· <=reachBytes)=true:=by
  rw[Tryz.params4] at hsz0
  have:=hsz0
  simp only[List.cons_append,DataW.weightsEach,List.all_append,Bool.and_eq_true] at this
  exact this.1
 have k0:=h0
 have lt0:∀x ∈ p0,x.block<W.heap.size:=by obtain⟨m,hm⟩:=k0;exact DataW.trod_lt m _ _ _ hm
 have k1:=h1
 have lt1:∀x ∈ p1,x.block<W.heap.size:=by obtain⟨m,hm⟩:=k1;exact DataW.trod_lt m _ _ _ hm
 obtain⟨A0,c0,l0,A1,c1,l1,A2,c2,rt,A3,c3,cs,A4,c4,tw,A5,c5,tr,A6,c6,pl,A7,c7,ps,fr,jH,limit,many,rfl,⟨hC0,hl0⟩,⟨Ty,hl1⟩,⟨hC2,hl2⟩,⟨hC3,hl3⟩,hC4,hC5,⟨hC6,h48⟩,⟨hC7,hl7⟩⟩:=JX (hval 0 69 v0 rfl rfl) h0 hw
 obtain⟨Aw,cw,ws,rfl,hcw,hrw,hws⟩:=JW (hval 1 29 v1 rfl rfl) h1
 clear hA0 hval0 hsz0 hw
 refine(Oy l0 l1 rt cs tw tr pl ps fr jH limit many ws W hC0 hl0 Ty hl1 hC2 hl2 hC3 hl3 hC4 hC5 hC6 h48 hC7 hl7 hrw hcw hws).mono λe W' ⟨he,bel⟩=>?_
 subst he
 exact⟨_,rfl,_,_,_,[],_,[],hW',trodAll_mk1 (shut_bool Tryz.underlying4 _),(trodAll_cons_mk (Below.trod laidOut (by kernel_rfl) (of_decide_eq_true (by kernel_rfl)) k0 bel lt0) (trodAll_cons_mk (Below.trod laidOut (by kernel_rfl) (of_decide_eq_true (by kernel_rfl)) k1 bel lt1) trodAll_mk0)),rfl,bel.frame _,λh=>by cases h⟩
theorem over:Rows.topAnyRoadsRow.holds Tryz.pinned (OpenSpec.ofChange Rows.topAnyRoadsSpec):=
 OpenClaim.holds_of_wide 4 Tryz.f4 rfl rfl rfl rfl rfl rfl rfl ⟨rfl,rfl,rfl,rfl,rfl⟩ rfl rfl rfl rfl rfl (by kernel_rfl) Tryz.func4 (by kernel_rfl)
  (of_decide_eq_true (by kernel_rfl)) (by unfold Func.isWrapper;first|(rw[if_pos (by decide +kernel)];kernel_rfl)|(rw[if_neg (by decide +kernel)];exact⟨rfl,rfl⟩))
  (λos started H enc _=>lifted os started H enc)
theorem proved:Rows.TopAnyRoadsSaid:=over
#print axioms proved
end Go.Proofs.YtkjoilgpmngndaaGreat.zm
namespace Go.Proofs.YtkjoilgpmngndaaGreat
theorem topAnyRoads_holds:Rows.TopAnyRoadsSaid:=zm.proved
end Go.Proofs.YtkjoilgpmngndaaGreat
