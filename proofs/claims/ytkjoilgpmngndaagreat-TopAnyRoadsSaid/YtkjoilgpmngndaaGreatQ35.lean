import Derived.Test.YtkjoilgpmngndaaGreatQ26
import Derived.Test.YtkjoilgpmngndaaGreatQ34
set_option maxHeartbeats 40000000
set_option maxRecDepth 100000
set_option linter.all false
namespace Go.Proofs.YtkjoilgpmngndaaGreat.Wk
open Go.RowKit Go.Shelf au YtkjoilgpmngndaaGreatW.aj YtkjoilgpmngndaaGreatW.aJ
theorem WG(lo hi n:Int):fI.f lo hi n=some (aK n lo hi):=by
 unfold fI.f eu.f aK
 by_cases h:lo<=n<;>simp[h]
theorem Qf(W:List dP)(R:List aV)(tr:List Int)(hR:tr.length=R.length)(h:tr.length<=1000)(k:Nat):∀m j:Nat,j+m=tr.length->aQ.l1 (m+k+1) tr (tr.length:Int) (j:Int) W R=some ((List.range' j m).all (λi=>aK (rd tr (i:Int)) (bZ R (i:Int)).f2.f0 (bZ R (i:Int)).f2.f1)):=by
 intro m
 induction m with
 |zero=>
  intro j hj
  rw[show 0+k+1=k+1 by omega,aQ.l1,if_neg (by omega)]
  rfl
 |succ m ih=>
  intro j hj
  rw[show m+1+k+1=(m+k+1)+1 by omega,aQ.l1,if_pos (by omega),if_pos (by omega),if_pos (by omega),if_pos (by omega),WG]
  simp only[Option.bind_some]
  rw[show wrap64 ((j:Int)+1)=((j+1:Nat):Int) by unfold wrap64;omega,ih (j+1) (by omega),List.range'_succ,List.all_cons]
  cases aK (rd tr (j:Int)) (bZ R (j:Int)).f2.f0 (bZ R (j:Int)).f2.f1<;>simp
theorem Qg(W:List dP)(R:List aV)(tw tr:List Int)(hW:tw.length=W.length)(hR:tr.length=R.length)(hw:tw.length<=1000)(h:tr.length<=1000)(k:Nat):∀m j:Nat,j+m=tw.length->aQ.l0 (m+(tr.length+k+1)+1) tw (tw.length:Int) (j:Int) W R tw tr=some ((List.range' j m).all (λi=>aK (rd tw (i:Int)) (iA W (i:Int)).f0 (iA W (i:Int)).f1)&&(List.range R.length).all (λi=>aK (rd tr (i:Int)) (bZ R (i:Int)).f2.f0 (bZ R (i:Int)).f2.f1)):=by
 intro m
 induction m with
 |zero=>
  intro j hj
  have:=Qf W R tr hR h k tr.length 0 (by omega)
  rw[show 0+(tr.length+k+1)+1=(tr.length+k+1)+1 by omega,aQ.l0,if_neg (by omega),<- hR,List.range_eq_range']
  rw[show((0:Nat):Int)=0 from rfl] at this
  rw[this]
  rfl
 |succ m ih=>
  intro j hj
  rw[show m+1+(tr.length+k+1)+1=(m+(tr.length+k+1)+1)+1 by omega,aQ.l0,if_pos (by omega),if_pos (by omega),if_pos (by omega),if_pos (by omega),WG]
  simp only[Option.bind_some]
  rw[show wrap64 ((j:Int)+1)=((j+1:Nat):Int) by unfold wrap64;omega,ih (j+1) (by omega),List.range'_succ,List.all_cons]
  cases aK (rd tw (j:Int)) (iA W (j:Int)).f0 (iA W (j:Int)).f1<;>simp
theorem Jf(W:List dP)(R:List aV)(tw tr:List Int)(hw:tw.length<=1000)(h:tr.length<=1000):aQ.f (tw.length+(tr.length+0+1)+1+1) W R tw tr=some (mU W R tw tr):=by
 unfold aQ.f mU
 by_cases hW:tw.length=W.length
 .rw[if_pos (by omega),decide_eq_true hW,aQ.j0]
  by_cases hR:tr.length=R.length
  .rw[if_neg (by simp[hR]),decide_eq_true hR]
   have:=Qg W R tw tr hW hR hw h 0 tw.length 0 (by omega)
   rw[show((0:Nat):Int)=0 from rfl] at this
   rw[this,<- hW,List.range_eq_range' (n:=tw.length)]
   rfl
  .rw[if_pos (by simp;omega),decide_eq_false hR]
   rfl
 .rw[if_neg (by omega),decide_eq_false hW,aQ.j0,if_pos rfl]
  rfl
theorem Qe{W:List dP}{R:List aV}{l cs tw tr:List Int}(hc:bD W R=0)(hw:eQ R l cs=0)(ht:mU W R tw tr=true):uq R l cs tw tr:=by
 have T:=qP hc hw (λx=>x.f1) (λx h1 h2 h3=>⟨by omega,h3⟩)
 obtain⟨_,_,_,hW,hR,_⟩:=mD hc
 unfold mU at ht
 simp only[Bool.and_eq_true,decide_eq_true_eq,List.all_eq_true,List.mem_range] at ht
 obtain⟨h1,h2,h3,h4⟩:=ht
 refine⟨λk hk=>?_,λk hk=>?_⟩
 .have:=T.roads k hk
  rw[List.length_map] at this
  obtain⟨q,hq⟩:∃q:Nat,il R (rd l (k:Int)) (rd l ((k+1:Nat):Int))=(q:Int):=⟨(il R (rd l (k:Int)) (rd l ((k+1:Nat):Int))).toNat,by omega⟩
  rw[hq] at this ⊢
  have Q9:q<R.length:=by omega
  have h5:=h4 q Q9
  have e:bZ R (q:Int)=R[q]:=by simp[bZ,Q9]
  rw[e] at h5
  have hr:=hR _ (List.getElem_mem Q9)
  have h6:=hr.lo
  have h7:=hr.hi
  unfold aK at h5
  simp only[Bool.and_eq_true,decide_eq_true_eq] at h5
  exact⟨by omega,by omega,by omega,by omega⟩
 .have:=T.works k hk
  rw[List.length_map] at this
  obtain⟨q,hq⟩:∃q:Nat,rd cs (k:Int)=(q:Int):=⟨(rd cs (k:Int)).toNat,by omega⟩
  rw[hq] at this ⊢
  have Q9:q<W.length:=by omega
  have h5:=h3 q Q9
  have e:iA W (q:Int)=W[q]:=by simp[iA,Q9]
  rw[e] at h5
  have hr:=hW _ (List.getElem_mem Q9)
  unfold aK at h5
  simp only[Bool.and_eq_true,decide_eq_true_eq] at h5
  exact⟨by omega,by omega,by omega,by omega⟩
theorem Cw{A0:Option Addr}{c0:Nat}{Wk:List dP}{A1:Option Addr}{c1:Nat}{R:List aV}{w:World}(h:IsMap w A0 c0 Wk A1 c1 R)
  (l cs:List Int) {Al Ac:Option Addr} {cl cc:Nat} (hl:Kd.C (Kd.int .i64) w Al l.length l) (hll:l.length<=cl) (hlb:l.length<1000000) (hcs:Kd.C (Kd.int .i64) w Ac cs.length cs) (hcl:cs.length<=cc) (OV:cs.length<1000000)
  (tw tr:List Int) {Aw Ar:Option Addr} {cw cr:Nat} (ug:Kd.C (Kd.int .i64) w Aw tw.length tw) (hcw:tw.length<=cw) (ag9:tw.length<=1000) (htr:Kd.C (Kd.int .i64) w Ar tr.length tr) (hcr:tr.length<=cr) (ahb:tr.length<=1000):
  Calls Tryz.prog 24 #[.agg #[.slice A0 Wk.length c0,.slice A1 R.length c1],.agg #[.slice Al l.length cl,.slice Ac cs.length cc],.agg #[.slice Aw tw.length cw,.slice Ar tr.length cr]] w λe w'=>e= .returned (.tuple #[.int .i64 (pR Wk R l cs tw tr).1,.int .i64 (pR Wk R l cs tw tr).2])/\Below w.heap.size w w':=by
 have H:=aa.mk h
 have HL:=aa.mk hl
 have Nv:=aa.mk hcs
 have TD:=aa.mk ug
 have HTR:=aa.mk htr
 clear h hl hcs ug htr
 go_enter Tryz.func24,Tryz.ntmps24
 go_wp2_with fail
 have B3:=aa.mk (((aR.new w [.slice A0 Wk.length c0,.slice A1 R.length c1] 78).alloc (.cells #[.slice Al l.length cl,.slice Ac cs.length cc] 80)).alloc (.cells #[.slice Aw tw.length cw,.slice Ar tr.length cr] 86))
 have B4:=aa.mk (show aR _ (w.heap.size+1) _ _ by simpa using (aR.new (w.alloc (.cells #[.slice A0 Wk.length c0,.slice A1 R.length c1] 78)) [.slice Al l.length cl,.slice Ac cs.length cc] 80).alloc (.cells #[.slice Aw tw.length cw,.slice Ar tr.length cr] 86))
 have B5:=aa.mk (show aR _ (w.heap.size+1+1) _ _ by simpa using aR.new ((w.alloc (.cells #[.slice A0 Wk.length c0,.slice A1 R.length c1] 78)).alloc (.cells #[.slice Al l.length cl,.slice Ac cs.length cc] 80)) [.slice Aw tw.length cw,.slice Ar tr.length cr] 86)
 have HB:=aa.mk (ae (ae (ae (Below.refl w.heap.size w) (.cells #[.slice A0 Wk.length c0,.slice A1 R.length c1] 78)) (.cells #[.slice Al l.length cl,.slice Ac cs.length cc] 80)) (.cells #[.slice Aw tw.length cw,.slice Ar tr.length cr] 86))
 generalize(((w.alloc (.cells #[.slice A0 Wk.length c0,.slice A1 R.length c1] 78)).alloc (.cells #[.slice Al l.length cl,.slice Ac cs.length cc] 80)).alloc (.cells #[.slice Aw tw.length cw,.slice Ar tr.length cr] 86))=w0 at B3 B4 B5 HB ⊢
 refine(dM (H.out.below HB.out)).mono ?_
 rintro e w1 ⟨rfl,hb1⟩
 replace B3:=aa.mk (B3.out.below hb1)
 replace B4:=aa.mk (B4.out.below hb1)
 replace B5:=aa.mk (B5.out.below hb1)
 replace HB:=aa.mk (HB.out.trans (hb1.mono HB.out.size))
 clear hb1
 have jB:=B3.out.cell 0
 have h31:=B3.out.cell 1
 have lH:=B4.out.cell 0
 have oI:=B4.out.cell 1
 have h50:=B5.out.cell 0
 have CY:=B5.out.cell 1
 simp only[eP,eO] at jB h31 lH oI h50 CY
 by_cases hc:bD Wk R=0
 rotate_left
 .have hcb:(bD Wk R !=0)=true:=by simp[hc]
  have HF:=aa.mk (show pR Wk R l cs tw tr=(0,bD Wk R) by unfold pR;rw[if_neg hc])
  clear hc
  go_wp2_with fail
  go_ret2
  rw[HF.out]
  exact⟨rfl,HB.out⟩
 have hcb:(bD Wk R !=0)=false:=by simp[hc]
 have HF:=aa.mk (show pR Wk R l cs tw tr=(if eQ R l cs=0 then(if mU Wk R tw tr=true then(kY R l cs tw tr,0) else(0,2)) else(0,eQ R l cs)) by unfold pR;rw[if_pos hc])
 have HC:=aa.mk hc
 rw[hc]
 clear hc hcb
 go_wp2_with fail
 refine(vU (H.out.below HB.out) l cs (Kd.av HL.out HB.out) hll hlb (Kd.av Nv.out HB.out) hcl OV).mono ?_
 rintro e w2 ⟨rfl,hb1⟩
 replace B3:=aa.mk (B3.out.below hb1)
 replace B4:=aa.mk (B4.out.below hb1)
 replace B5:=aa.mk (B5.out.below hb1)
 replace HB:=aa.mk (HB.out.trans (hb1.mono HB.out.size))
 clear hb1 jB h31 lH oI h50 CY
 have jB:=B3.out.cell 0
 have h31:=B3.out.cell 1
 have lH:=B4.out.cell 0
 have oI:=B4.out.cell 1
 have h50:=B5.out.cell 0
 have CY:=B5.out.cell 1
 simp only[eP,eO] at jB h31 lH oI h50 CY
 by_cases hw:eQ R l cs=0
 rotate_left
 .have hwb:(eQ R l cs !=0)=true:=by simp[hw]
  rw[if_neg hw] at HF
  clear hw
  go_wp2_with fail
  go_ret2
  rw[HF.out]
  exact⟨rfl,HB.out⟩
 have hwb:(eQ R l cs !=0)=false:=by simp[hw]
 rw[if_pos hw] at HF
 have HW:=aa.mk hw
 rw[hw]
 clear hw hwb
 go_wp2_with fail
 refine(aQ.calls _ A0 c0 Wk A1 c1 R Aw cw tw Ar cr tr (mU Wk R tw tr) w2 (H.out.below HB.out).work H.out.lw (H.out.below HB.out).roads H.out.lr (Kd.av TD.out HB.out) hcw (Kd.av HTR.out HB.out) hcr (Jf Wk R tw tr ag9 ahb)).mono ?_
 rintro e w3 ⟨rfl,hb1⟩
 replace B3:=aa.mk (B3.out.below hb1)
 replace B4:=aa.mk (B4.out.below hb1)
 replace B5:=aa.mk (B5.out.below hb1)
 replace HB:=aa.mk (HB.out.trans (hb1.mono HB.out.size))
 clear hb1 jB h31 lH oI h50 CY
 have jB:=B3.out.cell 0
 have h31:=B3.out.cell 1
 have lH:=B4.out.cell 0
 have oI:=B4.out.cell 1
 have h50:=B5.out.cell 0
 have CY:=B5.out.cell 1
 simp only[eP,eO] at jB h31 lH oI h50 CY
 cases ht:mU Wk R tw tr
 .rw[ht,if_neg (by simp)] at HF
  go_wp2_with fail
  go_ret2
  rw[HF.out]
  exact⟨rfl,HB.out⟩
 rw[ht,if_pos rfl] at HF
 have DU:=aa.mk (Qe HC.out HW.out ht)
 have hl0:=(wZ HW.out).1
 clear ht
 go_wp2_with fail
 refine(rP (H.out.below HB.out) l cs tw tr (Kd.av HL.out HB.out) hlb hl0 (Kd.av Nv.out HB.out) OV (Kd.av TD.out HB.out) (Kd.av HTR.out HB.out) DU.out).mono ?_
 rintro e w4 ⟨rfl,hb1⟩
 replace HB:=aa.mk (HB.out.trans (hb1.mono HB.out.size))
 go_wp2_with fail
 go_ret2
 rw[HF.out]
 exact⟨rfl,HB.out⟩
def cw.T1:Bool×List (List Nat×List Nat):=(true,[([],[]),([0],[0]),([1],[1]),([],[]),([3],[3]),([4,2],[4]),([2,5],[2,5]),([6,5,0,1,2,3,4,5,6],[6])])
def cw.B1:List Nat:=[0,1,3,0,8,31,63,127]
theorem cw.Ji:dW .any (opsOf Tryz.f22 1)=cw.T1:=by kernel_rfl
theorem cw.Cq:bJ cw.T1.2 cw.B1=true:=by kernel_rfl
def ct.T1:Bool×List (List Nat×List Nat):=(true,[([],[]),([0],[0]),([1],[1]),([],[]),([3],[3]),([4,2],[4]),([2,5],[2,5]),([6,5,0,1,2,3,4,5,6],[6])])
def ct.B1:List Nat:=[0,1,3,0,8,31,63,127]
theorem ct.Ji:dW .any (opsOf Tryz.f25 1)=ct.T1:=by kernel_rfl
theorem ct.Cq:bJ ct.T1.2 ct.B1=true:=by kernel_rfl
set_option maxHeartbeats 4000000 in
theorem rY{A:Option Addr}{c:Nat}{xs:List Int}(w:World)(hC:(Kd.int .i64).C w A xs.length xs)(hx:xs.length<=1000):
  Calls Tryz.prog 56 #[.slice A xs.length c] w λe w'=>∃v,e= .returned v/\(Kd.int .i64).R 3 w' w.heap.size (λ_=>True) v xs/\Below w.heap.size w w':=by
 have HC:=aa.mk hC
 clear hC
 go_enter Tryz.func56,Tryz.ntmps56
 go_wp2_with ((with_reducible refine cz (b:= .append) (xs:=#[.const (.slice none 0 0),.tmp 3]) rfl ?_);refine Kd.lu (Kd.int .i64) (w0:=w) w.heap.size rfl (.const (.slice none 0 0)) (.tmp 3) 22 3 (.int .i64 0) 8 rfl Tryz.underlying22 info3 rfl (by decide) (by omega) (.slice none 0 0) [] xs _ _ _ (λ_=>True) (λ_=>False) rfl rfl (Kd.iK _ _ _ _ _) HC.out (λx cs h=>h) (λ_ hk=>hk.elim) (λ_ _=>trivial) (Below.refl _ _) (Nat.le_refl _) ?aL ?_;(case aL=>(simp only[List.length_nil];omega));intro vn wn hon hbn hgn fP;have Ey:=aa.mk hon;have qK:=aa.mk hbn;clear hon hbn hgn fP)
 go_ret
 exact⟨_,rfl,Ey.out,qK.out⟩
theorem rO{A0 A1:Option Addr}{c0 c1:Nat}(l cs:List Int)(w:World)(h0:Kd.C (Kd.int .i64) w A0 l.length l)(h1:Kd.C (Kd.int .i64) w A1 cs.length cs)(hl:l.length<=1000)(hc:cs.length<=1000):
  Calls Tryz.prog 22 #[.agg #[.slice A0 l.length c0,.slice A1 cs.length c1]] w λe w'=>(∃v0 v1,e= .returned (.agg #[v0,v1])/\(Kd.int .i64).R 3 w' w.heap.size (λ_=>True) v0 l/\(Kd.int .i64).R 3 w' w.heap.size (λ_=>True) v1 cs)/\Below w.heap.size w w':=by
 have HL:=aa.mk h0
 have HC:=aa.mk h1
 clear h0 h1
 go_enter Tryz.func22,Tryz.ntmps22
 go_upto_region 1 with(fail)
 have HB:=aa.mk (ae (ae (Below.refl w.heap.size w) (.cells #[.slice A0 l.length c0,.slice A1 cs.length c1] 64)) (.cells #[.slice none 0 0,.slice none 0 0] 80))
 have B1:=aa.mk ((aR.new w [.slice A0 l.length c0,.slice A1 cs.length c1] 64).alloc (.cells #[.slice none 0 0,.slice none 0 0] 80))
 have B2:=aa.mk (show aR _ (w.heap.size+1) _ _ by simpa using aR.new (w.alloc (.cells #[.slice A0 l.length c0,.slice A1 cs.length c1] 64)) [.slice none 0 0,.slice none 0 0] 80)
 have hs0:w.heap.size+2<=((w.alloc (.cells #[.slice A0 l.length c0,.slice A1 cs.length c1] 64)).alloc (.cells #[.slice none 0 0,.slice none 0 0] 80)).heap.size:=by simp
 generalize(w.alloc (.cells #[.slice A0 l.length c0,.slice A1 cs.length c1] 64)).alloc (.cells #[.slice none 0 0,.slice none 0 0] 80)=w0 at HB B1 B2 hs0 ⊢
 have h10:=B1.out.cell 0
 have h11:=B1.out.cell 1
 simp only[eP,eO] at h10 h11
 refine dB (n:=8) (S:=λw'=>w'.cell? ⟨w.heap.size,0,none⟩=some (.slice A0 l.length c0)/\w'.cell? ⟨w.heap.size,1,none⟩=some (.slice A1 cs.length c1)) (ds:=[5,7]) #[O,O,O,O,O,O,O,O] (by kernel_rfl) rfl rfl ⟨h10,h11⟩ (λhHeld=>?_);refine bu cw.Ji cw.Cq (λak bN=>?_)
 have HB3:=aa.mk (aM HB.out)
 have LM:=aa.mk (B2.out.move rfl:aR w0.drew _ _ _)
 have hs3:w.heap.size+2<=w0.drew.heap.size:=hs0
 clear HB B1 B2 hs0 h10 h11
 generalize w0.drew=wd at HB3 LM hs3 hHeld ⊢
 refine aZ 0 3 #[I,O,O,O,O,O,O,O] ak (h:=?_)
 refine dG 1 4 #[I,I,O,O,O,O,O,O] ak bN hHeld (hy:=by(rintro w' ⟨s0,s1⟩;go_simp;with_reducible rfl)) (h:=?_)
 refine aZ 3 6 #[I,I,O,I,O,O,O,O] ak (h:=?_)
 refine dG 4 7 #[I,I,O,I,I,O,O,O] ak bN hHeld (hy:=by(rintro w' ⟨s0,s1⟩;go_simp;with_reducible rfl)) (h:=?_)
 refine dO (i:=2) (N:=some 5) #[I,I,I,I,I,O,O,O] rfl rfl (aI ak.out (by kernel_rfl)) (by decide) (λK hK=>?_)
 refine bW Tryz.func56 (by kernel_rfl) rfl #[.slice A0 l.length c0] (by rfl) rfl rfl (by(try simp only[List.map_toArray,List.map_cons,List.map_nil]);rfl) ?_
 refine(rY wd (Kd.av HL.out HB3.out) hl).mono ?_
 rintro e_ w_ ⟨v0,rfl,hR,hbx⟩
 refine⟨_,rfl,hK.out _ _ ⟨(hbx.cell (World.block_lt_of_cell? _ _ hHeld.1)).trans hHeld.1,(hbx.cell (World.block_lt_of_cell? _ _ hHeld.2)).trans hHeld.2⟩ (λhHeld=>?_)⟩
 clear hK K
 have IZ:=aa.mk (Kd.bB (Kd.bE hR) (λb hb=>(show w.heap.size+2<=b by have:=hb.2.1;omega)))
 have jd:=aa.mk (HB3.out.trans (hbx.mono HB3.out.size))
 have zV:=aa.mk (LM.out.below hbx)
 have hs4:=Nat.le_trans hs3 hbx.size
 clear hR hbx HB3 LM
 generalize hw4:w_=w4 at IZ jd zV hs4 hHeld ⊢
 clear hw4
 refine iY ?_
 refine dE (i:=5) (N:=some 8) #[I,I,I,I,I,I,O,O] rfl rfl (aI ak.out (by kernel_rfl)) (by decide) (λK hK=>?_)
 refine bW Tryz.func56 (by kernel_rfl) rfl #[.slice A1 cs.length c1] (by rfl) rfl rfl (by(try simp only[List.map_toArray,List.map_cons,List.map_nil]);rfl) ?_
 refine(rY w4 (Kd.av HC.out jd.out) hc).mono ?_
 rintro e_ w_ ⟨v1,rfl,hR,hbx⟩
 refine⟨_,rfl,hK.out _ _ ?_⟩
 clear hK K
 have ZL:=aa.mk (Kd.bB (Kd.bE hR) (λb hb=>(show w.heap.size+2<=b by have:=hb.2.1;omega)))
 have kv:=aa.mk (jd.out.trans (hbx.mono jd.out.size))
 have yF:=aa.mk (zV.out.below hbx)
 have hs5:=Nat.le_trans hs4 hbx.size
 have DT:=aa.mk (Kd.bV IZ.out hbx)
 clear hR hbx jd zV
 clear IZ
 generalize hw5:w_=w5 at ZL DT kv yF hs5 hHeld ⊢
 clear hw5
 have h20:=yF.out.cell 0
 have h21:=yF.out.cell 1
 have U0:=yF.out.frozen 0
 have acF:=yF.out.frozen 1
 simp only[eP,eO] at h20 h21
 obtain⟨Av,nv,cv,rfl⟩:∃A n c,v0= .slice A n c:=by obtain⟨a_,b_,e_,_,_⟩:=Kd.cB DT.out;exact⟨_,_,_,e_⟩
 obtain⟨Au,nu,cu,rfl⟩:∃A n c,v1= .slice A n c:=by obtain⟨a_,b_,e_,_,_⟩:=Kd.cB ZL.out;exact⟨_,_,_,e_⟩
 refine iY ?_
 refine aZ 6 9 #[I,I,I,I,I,I,I,O] ak (h:=?_)
 refine dE (i:=7) (N:=none) #[I,I,I,I,I,I,I,I] rfl rfl (aI ak.out (by kernel_rfl)) (by decide) (λK hK=>?_)
 have eY:=h20
 have ig:=U0
 refine gW (w1:=?_) (by rfl) rfl ?_ ?_
 rotate_left
 .go_simp
  rfl
 refine hK.out _ _ ?_
 clear hK K eY ig
 refine dK (bG ak.out (by kernel_rfl)) ?_
 go_wp2_with fail
 refine bodyPost_ret (results_cell_row rfl _ _ (w.heap.size+1) 80 #[.slice Av nv cv,.slice Au nu cu] (0,0) _ rfl (yF.out.set2 _ _) Tryz.underlying80 rfl (by kernel_rfl)) rfl ?_
 refine⟨⟨_,_,rfl,?_,?_⟩,(kv.out.setCell (p:=⟨w.heap.size+1,0,none⟩) (by simp only;omega) _).setCell (p:=⟨w.heap.size+1,1,none⟩) (by simp only;omega) _⟩
 .exact Kd.bB (Kd.ed (Kd.dx (Kd.dx DT.out (p:=⟨w.heap.size+1,0,none⟩) (λb hb=>by have:=hb;simp only;omega) _) (p:=⟨w.heap.size+1,1,none⟩) (λb hb=>by simp only;omega) _) (by omega)) (λ_ _=>trivial)
 .exact Kd.bB (Kd.ed (Kd.dx (Kd.dx ZL.out (p:=⟨w.heap.size+1,0,none⟩) (λb hb=>by have:=hb;simp only;omega) _) (p:=⟨w.heap.size+1,1,none⟩) (λb hb=>by simp only;omega) _) (by omega)) (λ_ _=>trivial)
theorem vD{A0 A1:Option Addr}{c0 c1:Nat}(l cs:List Int)(w:World)(h0:Kd.C (Kd.int .i64) w A0 l.length l)(h1:Kd.C (Kd.int .i64) w A1 cs.length cs)(hl:l.length<=1000)(hc:cs.length<=1000):
  Calls Tryz.prog 25 #[.agg #[.slice A0 l.length c0,.slice A1 cs.length c1]] w λe w'=>(∃v0 v1,e= .returned (.agg #[v0,v1])/\(Kd.int .i64).R 3 w' w.heap.size (λ_=>True) v0 l/\(Kd.int .i64).R 3 w' w.heap.size (λ_=>True) v1 cs)/\Below w.heap.size w w':=by
 have HL:=aa.mk h0
 have HC:=aa.mk h1
 clear h0 h1
 go_enter Tryz.func25,Tryz.ntmps25
 go_upto_region 1 with(fail)
 have HB:=aa.mk (ae (ae (Below.refl w.heap.size w) (.cells #[.slice A0 l.length c0,.slice A1 cs.length c1] 66)) (.cells #[.slice none 0 0,.slice none 0 0] 86))
 have B1:=aa.mk ((aR.new w [.slice A0 l.length c0,.slice A1 cs.length c1] 66).alloc (.cells #[.slice none 0 0,.slice none 0 0] 86))
 have B2:=aa.mk (show aR _ (w.heap.size+1) _ _ by simpa using aR.new (w.alloc (.cells #[.slice A0 l.length c0,.slice A1 cs.length c1] 66)) [.slice none 0 0,.slice none 0 0] 86)
 have hs0:w.heap.size+2<=((w.alloc (.cells #[.slice A0 l.length c0,.slice A1 cs.length c1] 66)).alloc (.cells #[.slice none 0 0,.slice none 0 0] 86)).heap.size:=by simp
 generalize(w.alloc (.cells #[.slice A0 l.length c0,.slice A1 cs.length c1] 66)).alloc (.cells #[.slice none 0 0,.slice none 0 0] 86)=w0 at HB B1 B2 hs0 ⊢
 have h10:=B1.out.cell 0
 have h11:=B1.out.cell 1
 simp only[eP,eO] at h10 h11
 refine dB (n:=8) (S:=λw'=>w'.cell? ⟨w.heap.size,0,none⟩=some (.slice A0 l.length c0)/\w'.cell? ⟨w.heap.size,1,none⟩=some (.slice A1 cs.length c1)) (ds:=[5,7]) #[O,O,O,O,O,O,O,O] (by kernel_rfl) rfl rfl ⟨h10,h11⟩ (λhHeld=>?_);refine bu ct.Ji ct.Cq (λak bN=>?_)
 have HB3:=aa.mk (aM HB.out)
 have LM:=aa.mk (B2.out.move rfl:aR w0.drew _ _ _)
 have hs3:w.heap.size+2<=w0.drew.heap.size:=hs0
 clear HB B1 B2 hs0 h10 h11
 generalize w0.drew=wd at HB3 LM hs3 hHeld ⊢
 refine aZ 0 3 #[I,O,O,O,O,O,O,O] ak (h:=?_)
 refine dG 1 4 #[I,I,O,O,O,O,O,O] ak bN hHeld (hy:=by(rintro w' ⟨s0,s1⟩;go_simp;with_reducible rfl)) (h:=?_)
 refine aZ 3 6 #[I,I,O,I,O,O,O,O] ak (h:=?_)
 refine dG 4 7 #[I,I,O,I,I,O,O,O] ak bN hHeld (hy:=by(rintro w' ⟨s0,s1⟩;go_simp;with_reducible rfl)) (h:=?_)
 refine dO (i:=2) (N:=some 5) #[I,I,I,I,I,O,O,O] rfl rfl (aI ak.out (by kernel_rfl)) (by decide) (λK hK=>?_)
 refine bW Tryz.func56 (by kernel_rfl) rfl #[.slice A0 l.length c0] (by rfl) rfl rfl (by(try simp only[List.map_toArray,List.map_cons,List.map_nil]);rfl) ?_
 refine(rY wd (Kd.av HL.out HB3.out) hl).mono ?_
 rintro e_ w_ ⟨v0,rfl,hR,hbx⟩
 refine⟨_,rfl,hK.out _ _ ⟨(hbx.cell (World.block_lt_of_cell? _ _ hHeld.1)).trans hHeld.1,(hbx.cell (World.block_lt_of_cell? _ _ hHeld.2)).trans hHeld.2⟩ (λhHeld=>?_)⟩
 clear hK K
 have IZ:=aa.mk (Kd.bB (Kd.bE hR) (λb hb=>(show w.heap.size+2<=b by have:=hb.2.1;omega)))
 have jd:=aa.mk (HB3.out.trans (hbx.mono HB3.out.size))
 have zV:=aa.mk (LM.out.below hbx)
 have hs4:=Nat.le_trans hs3 hbx.size
 clear hR hbx HB3 LM
 generalize hw4:w_=w4 at IZ jd zV hs4 hHeld ⊢
 clear hw4
 refine iY ?_
 refine dE (i:=5) (N:=some 8) #[I,I,I,I,I,I,O,O] rfl rfl (aI ak.out (by kernel_rfl)) (by decide) (λK hK=>?_)
 refine bW Tryz.func56 (by kernel_rfl) rfl #[.slice A1 cs.length c1] (by rfl) rfl rfl (by(try simp only[List.map_toArray,List.map_cons,List.map_nil]);rfl) ?_
 refine(rY w4 (Kd.av HC.out jd.out) hc).mono ?_
 rintro e_ w_ ⟨v1,rfl,hR,hbx⟩
 refine⟨_,rfl,hK.out _ _ ?_⟩
 clear hK K
 have ZL:=aa.mk (Kd.bB (Kd.bE hR) (λb hb=>(show w.heap.size+2<=b by have:=hb.2.1;omega)))
 have kv:=aa.mk (jd.out.trans (hbx.mono jd.out.size))
 have yF:=aa.mk (zV.out.below hbx)
 have hs5:=Nat.le_trans hs4 hbx.size
 have DT:=aa.mk (Kd.bV IZ.out hbx)
 clear hR hbx jd zV
 clear IZ
 generalize hw5:w_=w5 at ZL DT kv yF hs5 hHeld ⊢
 clear hw5
 have h20:=yF.out.cell 0
 have h21:=yF.out.cell 1
 have U0:=yF.out.frozen 0
 have acF:=yF.out.frozen 1
 simp only[eP,eO] at h20 h21
 obtain⟨Av,nv,cv,rfl⟩:∃A n c,v0= .slice A n c:=by obtain⟨a_,b_,e_,_,_⟩:=Kd.cB DT.out;exact⟨_,_,_,e_⟩
 obtain⟨Au,nu,cu,rfl⟩:∃A n c,v1= .slice A n c:=by obtain⟨a_,b_,e_,_,_⟩:=Kd.cB ZL.out;exact⟨_,_,_,e_⟩
 refine iY ?_
 refine aZ 6 9 #[I,I,I,I,I,I,I,O] ak (h:=?_)
 refine dE (i:=7) (N:=none) #[I,I,I,I,I,I,I,I] rfl rfl (aI ak.out (by kernel_rfl)) (by decide) (λK hK=>?_)
 have eY:=h20
 have ig:=U0
 refine gW (w1:=?_) (by rfl) rfl ?_ ?_
 rotate_left
 .go_simp
  rfl
 refine hK.out _ _ ?_
 clear hK K eY ig
 refine dK (bG ak.out (by kernel_rfl)) ?_
 go_wp2_with fail
 refine bodyPost_ret (results_cell_row rfl _ _ (w.heap.size+1) 86 #[.slice Av nv cv,.slice Au nu cu] (0,0) _ rfl (yF.out.set2 _ _) Tryz.underlying86 rfl (by kernel_rfl)) rfl ?_
 refine⟨⟨_,_,rfl,?_,?_⟩,(kv.out.setCell (p:=⟨w.heap.size+1,0,none⟩) (by simp only;omega) _).setCell (p:=⟨w.heap.size+1,1,none⟩) (by simp only;omega) _⟩
 .exact Kd.bB (Kd.ed (Kd.dx (Kd.dx DT.out (p:=⟨w.heap.size+1,0,none⟩) (λb hb=>by have:=hb;simp only;omega) _) (p:=⟨w.heap.size+1,1,none⟩) (λb hb=>by simp only;omega) _) (by omega)) (λ_ _=>trivial)
 .exact Kd.bB (Kd.ed (Kd.dx (Kd.dx ZL.out (p:=⟨w.heap.size+1,0,none⟩) (λb hb=>by have:=hb;simp only;omega) _) (p:=⟨w.heap.size+1,1,none⟩) (λb hb=>by simp only;omega) _) (by omega)) (λ_ _=>trivial)
theorem Q3:(Tryz.prog.info? 80).map (λi=>(i.zero,i.size,i.bytes))=some (some (.agg #[.slice none 0 0,.slice none 0 0]),2,48):=by kernel_rfl
def M4(x:S64):qI:=⟨x.f0,x.f1⟩
def uw(p:List S64):Prop:=∀x ∈ p,x.f0.length<=1000/\x.f1.length<=1000
theorem uw.short{p:List S64}(h:uw p):sO (p.map M4):=by
 intro x hx
 obtain⟨y,hy,rfl⟩:=List.mem_map.1 hx
 have:=h y hy
 exact⟨by show y.f0.length<1000000;omega,by show y.f1.length<1000000;omega⟩
theorem NP(p:List S64)(k:Nat)(h:k<p.length):(p.take (k+1)).map M4=(p.take k).map M4++[M4 (fD p (k:Int))]:=by
 have e:fD p (k:Int)=p[k]:=by simp[fD,List.getD,h]
 rw[e,List.take_succ_eq_append_getElem h,List.map_append]
 rfl
theorem xx(p:List S64){Ap:Option Addr}{cp:Nat}(w:World)(hp:Kd.C IX w Ap p.length p)(hpl:p.length<=1000)(hs:uw p):
  Calls Tryz.prog 23 #[.slice Ap p.length cp] w λe w'=>(∃v,e= .returned v/\PW.R 80 w' w.heap.size (λ_=>True) v (p.map M4))/\Below w.heap.size w w':=by
 have HP:=aa.mk hp
 have HS:=aa.mk hs
 clear hp hs
 go_enter Tryz.func23,Tryz.ntmps23
 go_wp2_with fail
 go_loopw [3,4] (λv3 v4 wr=>∃k:Nat,k<=p.length/\v4= .int .i64 k/\w.heap.size<=wr.heap.size/\aa (Below w.heap.size w wr)/\aa (PW.R 80 wr w.heap.size (λ_=>True) v3 ((p.take k).map M4))) (λ_ v4 _=>p.length-(intOf v4).toNat)
 case atStart=>exact⟨0,Nat.zero_le _,rfl,Nat.le_refl _,⟨Below.refl _ _⟩,⟨Kd.iK _ _ _ _ _⟩⟩
 case round=>
  obtain⟨k,hk,rfl,yT,HB,HR⟩:=hrel
  by_cases hkl:k<p.length
  .obtain⟨ad,A5,c5,A6,c6,e_,hq0,hq1,hl5,OW,Yy,hc6⟩:=KX (Kd.av HP.out HB.out) (k:Int) (by omega) (by omega)
   cases e_
   have htk:=NP p k hkl
   obtain⟨x,hx⟩:∃x,fD p (k:Int)=x:=⟨_,rfl⟩
   have hsx:=HS.out x (by
    have:fD p (k:Int)=p[k]:=by simp[fD,List.getD,hkl]
    rw[<- hx,this]
    exact List.getElem_mem hkl)
   rw[hx] at hq0 hq1 hl5 OW Yy hc6 htk
   simp only[Int.toNat_natCast] at hq0 hq1
   have hkI:(k:Int)<p.length:=by omega
   have hlen:((p.take k).map M4).length<=1000:=by simp;omega
   obtain⟨xs,hxs⟩:∃xs,(p.take k).map M4=xs:=⟨_,rfl⟩
   rw[hxs] at HR htk hlen
   have HTK:=aa.mk htk
   have I7:=aa.mk OW
   have zk:=aa.mk hc6
   clear hx hxs htk OW hc6
   go_wp2_with fail
   refine(rO x.f0 x.f1 wr I7.out zk.out hsx.1 hsx.2).mono ?_
   rintro e w5 ⟨⟨v0,v1,rfl,hr0,hr1⟩,hbx⟩
   have kv:=aa.mk (HB.out.trans (hbx.mono yT))
   have Vv:=aa.mk (Kd.bV HR.out hbx)
   have VC:=aa.mk (Kd.bB (Kd.ed (Kd.bE hr0) yT) (λb hb=>(hb.2.1:wr.heap.size<=b)))
   have HG1:=aa.mk (Kd.bB (Kd.ed (Kd.bE hr1) yT) (λb hb=>(hb.2.1:wr.heap.size<=b)))
   have HOW:=aa.mk (λ(k:Nat) (hk:wr.heap.size<=k)=>(show some k≠u3.ownBlock from λe=>by have:=(Kd.bE HR.out).1 k e.symm;omega))
   have hs5:=Nat.le_trans yT hbx.size
   clear hr0 hr1 hbx HB HR hq0 hq1
   go_wp2_with ((with_reducible refine cz (b:= .append) (xs:=#[.tmp 11,.tmp 17]) rfl ?_);at_builtin;refine Kd.jk PW (w0:=w5) w.heap.size rfl (.tmp 11) (.tmp 17) 82 80 (.agg #[.slice none 0 0,.slice none 0 0]) 48 rfl Tryz.underlying82 Q3 rfl (by decide) (by omega) u3 xs (M4 x) [v0,v1] (λ_=>True) (λb=>wr.heap.size<=b) rfl rfl ?aP (λk hk=>⟨trivial,HOW.out k hk⟩) ?aF ?aO ?aB ?aS ?aL ?_;(case aP=>exact Uh _ _ _ (M4 x) VC.out HG1.out);(case aF=>exact(λb hb=>trivial));(case aO=>exact Vv.out);(case aB=>exact Below.refl _ _);(case aS=>exact hs5);(case aL=>omega);intro vn wn hon hbn hgn fP;have Ey:=aa.mk hon;have qK:=aa.mk (kv.out.trans hbn);have hsn:=Nat.le_trans hs5 hbn.size;clear hon hbn hgn fP)
   exact⟨⟨k+1,by omega,by go_num,hsn,qK,⟨by rw[HTK.out];exact Ey.out⟩⟩,by simp[intOf];omega⟩
  .obtain rfl:k=p.length:=by omega
   rw[List.take_length] at HR
   go_wp2_with fail
   go_ret
   exact⟨⟨_,rfl,HR.out⟩,HB.out⟩
end Go.Proofs.YtkjoilgpmngndaaGreat.Wk
namespace Go.Proofs.YtkjoilgpmngndaaGreat
open Go.RowKit Go.Shelf au YtkjoilgpmngndaaGreatW.aj
def pz(j:Nat):List Int:=(List.range j).map (λi:Nat=>(i:Int))
theorem KL(j:Nat):pz (j+1)=pz j++[(j:Int)]:=by
 unfold pz
 rw[List.range_succ,List.map_append]
 rfl
theorem Eo(j:Nat):(pz j).length=j:=by simp[pz]
theorem Qu{n i:Nat}(h:i<n):rd (pz n) (i:Int)=(i:Int):=by
 simp[rd,pz,List.getD,h]
theorem EN{xs:List Int}{p i:Nat}{v:Int}(h:p<xs.length):rd (xs.set p v) (i:Int)=if i=p then v else rd xs (i:Int):=by
 unfold rd
 simp only[Int.toNat_natCast,List.getD,List.getElem?_set]
 by_cases e:i=p
 .subst e
  simp[h]
 .rw[if_neg (λe'=>e e'.symm),if_neg e]
theorem XC{x:Int}(h1: -1000000<=x)(h2:x<=1000000):wrap64 x=x:=IntWalk.wrap64_in _ (by omega)
theorem Yf(n:Nat)(hn:n<=1000)(ws:List Int)(k:Nat):∀m j:Nat,j+m=n->ai.l0 (m+k+1) (n:Int) ws (pz j) (j:Int)=ai.l1 k (n:Int) ws (pz n) ((n:Int)-1):=by
 intro m
 induction m with
 |zero=>
  intro j hj
  obtain rfl:j=n:=by omega
  rw[show 0+k+1=k+1 by omega,ai.l0,if_neg (by omega),XC (by omega) (by omega)]
 |succ m ih=>
  intro j hj
  rw[show m+1+k+1=(m+k+1)+1 by omega,ai.l0,if_pos (by omega),if_pos (by rw[Eo];omega),XC (by omega) (by omega),<- KL,show((j:Int)+1)=((j+1:Nat):Int) by omega]
  exact ih (j+1) (by omega)
structure uu(n:Nat)(s:Nat->Nat)(xs:List Int):Prop where
 len:xs.length=n
 at_:∀i:Nat,i<n->rd xs (i:Int)=(s i:Int)
def sw(i q x:Nat):Nat:=if x=q then i else if x=i then q else x
theorem V6(i q x:Nat):sw i q (sw i q x)=x:=by
 unfold sw
 by_cases h1:x=q
 .by_cases h2:i=q<;>simp[h1,h2]
 .by_cases h2:x=i
  .simp[h1,h2]
  .simp[h1,h2]
theorem Qk{n i q x:Nat}(hi:i<n)(hq:q<n)(hx:x<n):sw i q x<n:=by
 unfold sw
 by_cases h1:x=q
 .rw[if_pos h1];exact hi
 .rw[if_neg h1]
  by_cases h2:x=i
  .rw[if_pos h2];exact hq
  .rw[if_neg h2];exact hx
theorem Ren.sw{n:Nat}{s t:Nat->Nat}(h:Ren n s t){i q:Nat}(hi:i<n)(hq:q<n):Ren n (λx=>s (sw i q x)) (λy=>sw i q (t y)):=
 ⟨λx hx=>h.EL _ (Qk hi hq hx),λy hy=>Qk hi hq (h.Jj y hy),λx hx=>by
  show Go.Proofs.YtkjoilgpmngndaaGreat.sw i q (t (s (Go.Proofs.YtkjoilgpmngndaaGreat.sw i q x)))=x
  rw[h.ts _ (Qk hi hq hx),V6],λy hy=>by
  show s (Go.Proofs.YtkjoilgpmngndaaGreat.sw i q (Go.Proofs.YtkjoilgpmngndaaGreat.sw i q (t y)))=y
  rw[V6,h.st y hy]⟩
theorem uu.sw{n:Nat}{s:Nat->Nat}{xs:List Int}(h:uu n s xs){i q:Nat}(hi:i<n)(hq:q<n):uu n (λx=>s (sw i q x)) ((xs.set i (rd xs (q:Int))).set q (rd xs (i:Int))):=by
 refine⟨by rw[List.length_set,List.length_set,h.len],λx hx=>?_⟩
 rw[EN (by rw[List.length_set,h.len];exact hq),EN (by rw[h.len];exact hi)]
 unfold Go.Proofs.YtkjoilgpmngndaaGreat.sw
 by_cases h1:x=q
 .rw[if_pos h1,if_pos h1,h.at_ i hi]
 .rw[if_neg h1,if_neg h1]
  by_cases h2:x=i
  .rw[if_pos h2,if_pos h2,h.at_ q hq]
  .rw[if_neg h2,if_neg h2,h.at_ x hx]
def Nn(n:Nat)(xs:List Int):Prop:=∃s t,Ren n s t/\uu n s xs
theorem vV{a b:Int}(ha:0<=a)(hb:0<b):0<=Int.tmod a b/\Int.tmod a b<b:=⟨Int.tmod_nonneg _ ha,Int.tmod_lt_of_pos _ hb⟩
theorem Ye(n:Nat)(hn:n<=1000)(ws:List Int)(hws:∀j:Nat,j<ws.length->0<=rd ws (j:Int)/\rd ws (j:Int)<65536)(k:Nat):∀(i:Nat) (xs:List Int),i<n->Nn n xs->∃ys k',k<=k'/\Nn n ys/\ai.l1 (i+1+k) (n:Int) ws xs (i:Int)=ai.j2 k' (n:Int) ys:=by
 intro i
 induction i with
 |zero=>
  intro xs _ hx
  refine⟨xs,k,Nat.le_refl _,hx,?_⟩
  rw[show 0+1+k=k+1 by omega,ai.l1,if_neg (by omega)]
 |succ i ih=>
  intro xs hi hx
  by_cases hw:ws.length=0
  .refine⟨xs,i+1+k,by omega,hx,?_⟩
   rw[show i+1+1+k=(i+1+k)+1 by omega,ai.l1,if_pos (by omega),if_neg (by omega)]
  .obtain⟨s,t,hr,ht⟩:=hx
   have hm:=vV (a:=((i+1:Nat):Int)) (b:=(ws.length:Int)) (by omega) (by omega)
   obtain⟨jw,hjw⟩:∃j:Nat,Int.tmod ((i+1:Nat):Int) (ws.length:Int)=(j:Int):=⟨(Int.tmod ((i+1:Nat):Int) (ws.length:Int)).toNat,by omega⟩
   have hwj:=hws jw (by omega)
   have e1:wrap64 (rd ws (jw:Int))=rd ws (jw:Int):=XC (by omega) (by omega)
   have e2:wrap64 (((i+1:Nat):Int)+1)=((i+1:Nat):Int)+1:=XC (by omega) (by omega)
   have e3:wrap64 (((i+1:Nat):Int)-1)=(i:Int):=by rw[XC (by omega) (by omega)];omega
   have hq:=vV (a:=rd ws (jw:Int)) (b:=((i+1:Nat):Int)+1) hwj.1 (by omega)
   obtain⟨q,hqe⟩:∃j:Nat,Int.tmod (rd ws (jw:Int)) (((i+1:Nat):Int)+1)=(j:Int):=⟨(Int.tmod (rd ws (jw:Int)) (((i+1:Nat):Int)+1)).toNat,by omega⟩
   have hqn:q<n:=by omega
   have hl:=ht.len
   obtain⟨ys,k',h1,h2,h3⟩:=ih ((xs.set (i+1) (rd xs (q:Int))).set q (rd xs ((i+1:Nat):Int))) (by omega) ⟨_,_,hr.sw hi hqn,ht.sw hi hqn⟩
   refine⟨ys,k',h1,h2,?_⟩
   rw[show i+1+1+k=(i+1+k)+1 by omega,ai.l1,if_pos (by omega),if_pos (by omega),if_neg (by omega),if_pos (by omega),if_pos (by omega),hjw,e1,e2,e3,hqe,if_neg (by omega),if_pos (by omega),if_pos (by omega),if_pos (by omega),if_pos (by omega)]
   simp only[Int.toNat_natCast]
   exact h3
theorem Yd(n:Nat)(hn:n<=1000){s t:Nat->Nat}(hr:Ren n s t){xs:List Int}(hx:uu n s xs)(k:Nat):∀(m j:Nat) (bs:List Int),j+m=n->bs.length=n->(∀i:Nat,i<j->rd bs (s i:Int)=(i:Int))->∃cs,cs.length=n/\(∀i:Nat,i<n->rd cs (s i:Int)=(i:Int))/\ai.l2 (m+k+1) (n:Int) xs bs (j:Int)=some (xs,cs):=by
 intro m
 induction m with
 |zero=>
  intro j bs hj hb hs
  obtain rfl:j=n:=by omega
  refine⟨bs,hb,hs,?_⟩
  rw[show 0+k+1=k+1 by omega,ai.l2,if_neg (by omega)]
 |succ m ih=>
  intro j bs hj hb hs
  have hjn:j<n:=by omega
  have hsj:=hr.EL j hjn
  have e1:=hx.at_ j hjn
  have hl:=hx.len
  obtain⟨cs,h1,h2,h3⟩:=ih (j+1) (bs.set (s j) (j:Int)) (by omega) (by rw[List.length_set,hb]) (λi hi=>by
   rw[EN (by rw[hb];exact hsj)]
   by_cases e:s i=s j
   .rw[if_pos e,hr.inj (by omega) hjn e]
   .rw[if_neg e]
    exact hs i (by
     have:i≠j:=λh=>e (by rw[h])
     omega))
  refine⟨cs,h1,h2,?_⟩
  rw[show m+1+k+1=(m+k+1)+1 by omega,ai.l2,if_pos (by omega),if_pos (by omega),if_pos (by omega),e1,if_pos (by omega),if_pos (by omega),XC (by omega) (by omega)]
  simp only[Int.toNat_natCast]
  exact h3
theorem Pq(n:Nat)(hn:n<=1000)(ws:List Int)(hws:∀j:Nat,j<ws.length->0<=rd ws (j:Int)/\rd ws (j:Int)<65536):∃k xs cs s t,ai.f k (n:Int) ws=some (xs,cs)/\Ren n s t/\uu n s xs/\uu n t cs:=by
 have h0:Nn n (pz n):=⟨λi=>i,λi=>i,⟨λ_ h=>h,λ_ h=>h,λ_ _=>rfl,λ_ _=>rfl⟩,⟨Eo n,λi hi=>Qu hi⟩⟩
 have hj:∀(k':Nat) (ys:List Int),n+3<=k'->Nn n ys->∃cs s t,ai.j2 k' (n:Int) ys=some (ys,cs)/\Ren n s t/\uu n s ys/\uu n t cs:=by
  rintro k' ys hk ⟨s,t,hr,ht⟩
  obtain⟨cs,h1,h2,h3⟩:=Yd n hn hr ht (k'-n-2) n 0 (List.replicate n 0) (by omega) (by simp) (λi hi=>by omega)
  refine⟨cs,s,t,?_,hr,ht,h1,λi hi=>?_⟩
  .rw[show k'=(n+(k'-n-2)+1)+1 by omega,ai.j2,if_pos (by omega),if_pos (by omega)]
   simpa using h3
  .have:=h2 (t i) (hr.Jj i hi)
   rw[hr.st i hi] at this
   exact this
 have hf:∀K,ai.f (n+K+1) (n:Int) ws=ai.l1 K (n:Int) ws (pz n) ((n:Int)-1):=λK=>by
  unfold ai.f
  have:=Yf n hn ws K n 0 (by omega)
  simpa[pz] using this
 by_cases h:n=0
 .obtain⟨cs,s,t,h1,h2,h3,h4⟩:=hj (n+3) (pz n) (Nat.le_refl _) h0
  refine⟨n+(n+3+1)+1,pz n,cs,s,t,?_,h2,h3,h4⟩
  rw[hf,ai.l1,if_neg (by omega),h1]
 .obtain⟨ys,k',h1,h2,h3⟩:=Ye n hn ws hws (n+3) (n-1) (pz n) (by omega) h0
  obtain⟨cs,s,t,h4,h5,h6,h7⟩:=hj k' ys h1 h2
  refine⟨n+(n-1+1+(n+3))+1,ys,cs,s,t,?_,h5,h6,h7⟩
  rw[hf,show((n:Int)-1)=((n-1:Nat):Int) by omega,h3,h4]
theorem Gp(ws:List Int)(i:Nat)(hi:i<=1000):∃b,gG.f ws (i:Int)=some b:=by
 unfold gG.f
 by_cases hw:ws.length=0
 .exact⟨false,by rw[if_neg (by omega)]⟩
 .have hm:=vV (a:=(i:Int)) (b:=(ws.length:Int)) (by omega) (by omega)
  exact⟨_,by rw[if_pos (by omega),if_neg (by omega),if_pos (by omega),if_pos (by omega)]⟩
theorem Qq(xs:List Int)(hx:xs.length<=1000)(k:Nat):∀(m j:Nat),j+m=xs.length->bn.l0 (m+k+1) xs xs (j:Int)=some true:=by
 intro m
 induction m with
 |zero=>
  intro j hj
  rw[show 0+k+1=k+1 by omega,bn.l0,if_neg (by omega)]
 |succ m ih=>
  intro j hj
  rw[show m+1+k+1=(m+k+1)+1 by omega,bn.l0,if_pos (by omega),if_pos (by omega),if_pos (by omega),if_pos rfl,XC (by omega) (by omega),show((j:Int)+1)=((j+1:Nat):Int) by omega]
  exact ih (j+1) (by omega)
theorem uG(xs:List Int)(hx:xs.length<=1000):bn.f (xs.length+1) xs xs=some true:=by
 unfold bn.f
 rw[if_pos rfl]
 exact Qq xs hx 0 xs.length 0 (by omega)
end Go.Proofs.YtkjoilgpmngndaaGreat
