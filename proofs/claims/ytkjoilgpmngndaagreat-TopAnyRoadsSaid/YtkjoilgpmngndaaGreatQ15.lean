import Derived.Laws.EntriesVeiled
import Derived.Test.YtkjoilgpmngndaaGreatQ14
set_option maxHeartbeats 40000000
set_option maxRecDepth 100000
set_option linter.all false
namespace Go.Proofs.YtkjoilgpmngndaaGreat.Wk
open Go.RowKit Go.Shelf au YtkjoilgpmngndaaGreatW.aj YtkjoilgpmngndaaGreatW.aJ
attribute [local go_sem] EK Jm
def dc.T4:Bool×List (List Nat×List Nat):=(true,[([],[]),([],[]),([1],[1]),([2],[2]),([3],[3]),([4],[4]),([0,5,5],[0,5]),([6,6,0,1,2,3,4,5,6],[6])])
def dc.B4:List Nat:=[0,0,2,6,14,30,63,127]
theorem dc.yI:dW .any (opsOf Tryz.f79 4)=dc.T4:=by kernel_rfl
theorem dc.rC:bJ dc.T4.2 dc.B4=true:=by kernel_rfl
theorem Q4:(Tryz.prog.info? 166).map (λi=>(i.zero,i.size,i.bytes))=some (some (.slice none 0 0),1,24):=by kernel_rfl
theorem TR(W:World)(mb N m:Nat)(hm:2^N=m+1):Cx (W.alloc (.cells (madeCells #[.slice none 0 0] (m+1)) 166)) mb W.heap.size N (λ_=>none):=by
 refine⟨_,heap_alloc_new W _,?_,λt ht=>⟨.slice none 0 0,?_,rfl⟩⟩
 .rw[hm]
  simp[madeCells]
 .rw[hm] at ht
  simp[madeCells,ht,Nat.mod_one]
theorem NY(W:World)(m:Nat)(hm:m<256):(Instr.makeSlice 208 (.int .i64 ((m:Int)+1)) (.int .i64 ((m:Int)+1))).run Tryz.prog W= .ok (.slice (some ⟨W.heap.size,0,none⟩) (m+1) (m+1)) (W.alloc (.cells (madeCells #[.slice none 0 0] (m+1)) 166)):=by
 obtain⟨i0,hi,hzz⟩:=Option.map_eq_some_iff.1 Q4
 simp only[Prod.mk.injEq] at hzz
 obtain⟨hz0,hz1,hz2⟩:=hzz
 have hr:=run_make (P:=Tryz.prog) W 208 166 i0 _ Tryz.underlying208 hi hz0 .i64 .i64 ((m:Int)+1) ((m:Int)+1) (by omega) (by omega) (by rw[hz2];omega) (by omega)
 rw[hz1,show(Value.slice none 0 0).cells=#[.slice none 0 0] from rfl] at hr
 simpa using hr
theorem DC.later{w0 w w':World}{A0:Option Addr}{c0:Nat}{Wk:List dP}{A1:Option Addr}{c1:Nat}{R:List aV}{ga mb:Nat}{T F:Nat->Nat->Int}{gt b1 b2 b3 b4:Nat}{limit:Int}(h:DC w0 w A0 c0 Wk A1 c1 R ga mb T F gt b1 b2 b3 b4 limit)(hb:Below w.heap.size w w'):DC w0 w' A0 c0 Wk A1 c1 R ga mb T F gt b1 b2 b3 b4 limit:=
 h.keep (Nat.le_refl _) (bq.of_below hb (Nat.le_refl _)) (h.eZ.eZ.keep hb)
theorem xW{w0 w:World}{A0:Option Addr}{c0:Nat}{Wk:List dP}{A1:Option Addr}{c1:Nat}{R:List aV}{ga mb:Nat}{T F:Nat->Nat->Int}(limit:Int)(hN:Wk.length<=8)(hT:kL T)(hW:Cv Wk)(h:lD w0 w A0 c0 Wk A1 c1 R ga mb T F):
  Calls Tryz.prog 79 #[.pointer (some ⟨ga,0,none⟩),.int .i64 limit] w λe w'=>∃A c,e= .returned (.tuple #[.slice A ((split (ll T Wk limit) (2^Wk.length-1)).getD 0) c,.bool (split (ll T Wk limit) (2^Wk.length-1)).isSome])/\lD w0 w' A0 c0 Wk A1 c1 R ga mb T F/\bq w.heap.size (λb=>b=mb) w w':=by
 have HT:=aa.mk hT
 have HW:=aa.mk hW
 have HA:=aa.mk h
 have hga:=h.eZ.eZ.lt
 have hmb:=h.eZ.memo.lt
 have hw0:=h.gt
 have hm0:=h.eZ.eZ.map.1
 have hm1:=h.eZ.eZ.map.2.1
 clear hT hW h
 go_enter Tryz.func79,Tryz.ntmps79
 go_wp2_with fail
 refine(tN hN _).mono ?_
 rintro e w1 ⟨rfl,hb1⟩
 obtain⟨m,hm⟩:∃m,2^Wk.length-1=m:=⟨_,rfl⟩
 have abS:m<256:=by
  have:=Nat.pow_le_pow_right (n:=2) (by omega) hN
  omega
 have hmp:2^Wk.length=m+1:=by have:=Nat.two_pow_pos Wk.length;omega
 rw[hm]
 have hmk:=NY w1 m abS
 have hs2:((w.alloc (.cells #[.pointer (some ⟨ga,0,none⟩)] 151)).alloc (.cells #[.int .i64 limit] 3)).heap.size=w.heap.size+1+1:=by simp
 go_wp2_with fail
 have hb1':Below w.heap.size w w1:=(ae (ae (Below.refl _ _) _) _).trans (hb1.mono (by simp;omega))
 rw[hs2] at hb1
 have hsz1:=hb1.size
 rw[hs2] at hsz1
 have hD:∀ws,ws=((w1.alloc (.cells (madeCells #[.slice none 0 0] (m+1)) 166)).alloc (.cells #[.slice (some ⟨w1.heap.size,0,none⟩) (m+1) (m+1)] 208)).alloc (.cells #[.func (.func 111) #[] #[.pointer (some ⟨w1.heap.size+1,0,none⟩),.pointer (some ⟨w.heap.size,0,none⟩),.pointer (some ⟨w.heap.size+1,0,none⟩),.pointer (some ⟨w1.heap.size+1+1,0,none⟩)]] 209)->DC w0 ws A0 c0 Wk A1 c1 R ga mb T F w1.heap.size (w1.heap.size+1) w.heap.size (w.heap.size+1) (w1.heap.size+1+1) limit/\Cx ws mb w1.heap.size Wk.length (λ_=>none)/\bq w.heap.size (Wr mb w1.heap.size) w ws:=by
  rintro ws rfl
  have B2:=(((((aR.new w [.pointer (some ⟨ga,0,none⟩)] 151).alloc (.cells #[.int .i64 limit] 3)).below (by rw[hs2];exact hb1)).alloc (.cells (madeCells #[.slice none 0 0] (m+1)) 166)).alloc (.cells #[.slice (some ⟨w1.heap.size,0,none⟩) (m+1) (m+1)] 208)).alloc (.cells #[.func (.func 111) #[] #[.pointer (some ⟨w1.heap.size+1,0,none⟩),.pointer (some ⟨w.heap.size,0,none⟩),.pointer (some ⟨w.heap.size+1,0,none⟩),.pointer (some ⟨w1.heap.size+1+1,0,none⟩)]] 209)
  have B3:=((((aR.new (w.alloc (.cells #[.pointer (some ⟨ga,0,none⟩)] 151)) [.int .i64 limit] 3).below (by rw[hs2];exact hb1)).alloc (.cells (madeCells #[.slice none 0 0] (m+1)) 166)).alloc (.cells #[.slice (some ⟨w1.heap.size,0,none⟩) (m+1) (m+1)] 208)).alloc (.cells #[.func (.func 111) #[] #[.pointer (some ⟨w1.heap.size+1,0,none⟩),.pointer (some ⟨w.heap.size,0,none⟩),.pointer (some ⟨w.heap.size+1,0,none⟩),.pointer (some ⟨w1.heap.size+1+1,0,none⟩)]] 209)
  have B1:=(aR.new (w1.alloc (.cells (madeCells #[.slice none 0 0] (m+1)) 166)) [.slice (some ⟨w1.heap.size,0,none⟩) (m+1) (m+1)] 208).alloc (.cells #[.func (.func 111) #[] #[.pointer (some ⟨w1.heap.size+1,0,none⟩),.pointer (some ⟨w.heap.size,0,none⟩),.pointer (some ⟨w.heap.size+1,0,none⟩),.pointer (some ⟨w1.heap.size+1+1,0,none⟩)]] 209)
  have B4:=aR.new ((w1.alloc (.cells (madeCells #[.slice none 0 0] (m+1)) 166)).alloc (.cells #[.slice (some ⟨w1.heap.size,0,none⟩) (m+1) (m+1)] 208)) [.func (.func 111) #[] #[.pointer (some ⟨w1.heap.size+1,0,none⟩),.pointer (some ⟨w.heap.size,0,none⟩),.pointer (some ⟨w.heap.size+1,0,none⟩),.pointer (some ⟨w1.heap.size+1+1,0,none⟩)]] 209
  simp only[World.size_alloc] at B3 B1 B4
  have hT1:=TR w1 mb Wk.length m hmp
  have hne:w1.heap.size≠mb:=by omega
  have hT2:=(hT1.keep (S:=λb=>b=mb) (bq.of_below (ae (Below.refl _ _) (.cells #[.slice (some ⟨w1.heap.size,0,none⟩) (m+1) (m+1)] 208)) (Nat.le_refl _)) (Nat.le_refl _) (λ_ h=>h) hne).keep (S:=λb=>b=mb) (bq.of_below (ae (Below.refl _ _) (.cells #[.func (.func 111) #[] #[.pointer (some ⟨w1.heap.size+1,0,none⟩),.pointer (some ⟨w.heap.size,0,none⟩),.pointer (some ⟨w.heap.size+1,0,none⟩),.pointer (some ⟨w1.heap.size+1+1,0,none⟩)]] 209)) (Nat.le_refl _)) (Nat.le_refl _) (λ_ h=>h) hne
  have hbs:=ae (ae (ae hb1' (.cells (madeCells #[.slice none 0 0] (m+1)) 166)) (.cells #[.slice (some ⟨w1.heap.size,0,none⟩) (m+1) (m+1)] 208)) (.cells #[.func (.func 111) #[] #[.pointer (some ⟨w1.heap.size+1,0,none⟩),.pointer (some ⟨w.heap.size,0,none⟩),.pointer (some ⟨w.heap.size+1,0,none⟩),.pointer (some ⟨w1.heap.size+1+1,0,none⟩)]] 209)
  refine⟨⟨HA.out.later hbs,by rw[hmp];exact B1,B2,B3,B4,by omega,⟨hne,by omega⟩,⟨by omega,by omega⟩,⟨by omega,by omega⟩,⟨by omega,by omega⟩,⟨by omega,by omega⟩⟩,hT2,bq.of_below hbs (Nat.le_refl _)⟩
 obtain⟨ws,hws⟩:∃ws,ws=((w1.alloc (.cells (madeCells #[.slice none 0 0] (m+1)) 166)).alloc (.cells #[.slice (some ⟨w1.heap.size,0,none⟩) (m+1) (m+1)] 208)).alloc (.cells #[.func (.func 111) #[] #[.pointer (some ⟨w1.heap.size+1,0,none⟩),.pointer (some ⟨w.heap.size,0,none⟩),.pointer (some ⟨w.heap.size+1,0,none⟩),.pointer (some ⟨w1.heap.size+1+1,0,none⟩)]] 209):=⟨_,rfl⟩
 obtain⟨hD1,hD2,hD3⟩:=hD ws hws
 rw[<- hws]
 have hgt:w.heap.size<=w1.heap.size:=by omega
 have hgt2:w.heap.size<w1.heap.size:=by omega
 clear hws hD hmk hb1 hb1' hsz1 hs2 hm0 hm1
 generalize w1.heap.size+1+1=b4 at hD1 ⊢
 generalize w1.heap.size+1=b1 at hD1 ⊢
 generalize w1.heap.size=gt at hD1 hD2 hD3 hgt hgt2 ⊢
 generalize w.heap.size+1=b3 at hD1 ⊢
 obtain⟨b2,hb2⟩:∃b,w.heap.size=b:=⟨_,rfl⟩
 rw[hb2] at hD1 ⊢
 have HD:=aa.mk hD1
 have I4:=aa.mk hD2
 have KW:=aa.mk hD3
 obtain⟨hc1,hc2,hc3,hc4⟩:=hD1.cells
 have hm0:=hD1.eZ.eZ.eZ.map.1
 have hm1:=hD1.eZ.eZ.eZ.map.2.1
 clear hD1 hD2 hD3
 refine dB (n:=8) (S:=λw'=>w'.cell? ⟨b4,0,none⟩=some (.func (.func 111) #[] #[.pointer (some ⟨b1,0,none⟩),.pointer (some ⟨b2,0,none⟩),.pointer (some ⟨b3,0,none⟩),.pointer (some ⟨b4,0,none⟩)])/\w'.cell? ⟨b2,0,none⟩=some (.pointer (some ⟨ga,0,none⟩))/\w'.cell? ⟨ga,0,none⟩=some (.slice A0 Wk.length c0)/\w'.cell? ⟨ga,1,none⟩=some (.slice A1 R.length c1)) (ds:=[6]) #[O,O,O,O,O,O,O,O] (by kernel_rfl) rfl rfl ⟨hc4,hc2,hm0,hm1⟩ (λhHeld=>?_);refine bu dc.yI dc.rC (λak bN=>?_)
 have Aj:=aa.mk HD.out.drew
 have Sy:=aa.mk (I4.out.drew HD.out.nt.1)
 have CZ:=aa.mk KW.out.drew
 clear HD I4 KW
 generalize ws.drew=wd at Aj Sy CZ hHeld ⊢
 refine dG 0 17 #[I,O,O,O,O,O,O,O] ak bN hHeld (hy:=by(rintro w' ⟨s0,s1,s2,s3⟩;go_simp;with_reducible rfl)) (h:=?_)
 refine dG 1 18 #[I,I,O,O,O,O,O,O] ak bN hHeld (hy:=by(rintro w' ⟨s0,s1,s2,s3⟩;go_simp;with_reducible rfl)) (h:=?_)
 refine aZ 2 19 #[I,I,I,O,O,O,O,O] ak (h:=?_)
 refine aZ 3 20 #[I,I,I,I,O,O,O,O] ak (h:=?_)
 refine dG 4 21 #[I,I,I,I,I,O,O,O] ak bN hHeld (hy:=by(rintro w' ⟨s0,s1,s2,s3⟩;go_simp;with_reducible rfl)) (h:=?_)
 refine dO (i:=5) (N:=some 22) #[I,I,I,I,I,I,O,O] rfl rfl (aI ak.out (by kernel_rfl)) (by decide) (λK hK=>?_)
 refine bW Tryz.func78 (by kernel_rfl) rfl #[.agg #[.slice A0 Wk.length c0,.slice A1 R.length c1]] (by rfl) rfl rfl (by(try simp only[List.map_toArray,List.map_cons,List.map_nil]);rfl) ?_
 refine(tN hN _).mono ?_
 rintro e_ w_ ⟨rfl,Rt⟩
 refine⟨_,rfl,hK.out _ _ ⟨(Aj.out.later Rt).cells.2.2.2,(Aj.out.later Rt).cells.2.1,(Aj.out.later Rt).eZ.eZ.eZ.map.1,(Aj.out.later Rt).eZ.eZ.eZ.map.2.1⟩ (λhHeld=>?_)⟩
 clear hK K
 have HD5:=aa.mk (Aj.out.later Rt)
 have I5:=aa.mk (Sy.out.keep (S:=λb=>b=mb) (bq.of_below Rt (Nat.le_refl _)) (Nat.le_refl _) (λ_ h=>h) Aj.out.nt.1)
 have K5:=aa.mk (CZ.out.trans (bq.of_below (S:=Wr mb gt) Rt CZ.out.size))
 clear Rt Aj Sy CZ
 refine iY ?_
 refine dE (i:=6) (N:=some 23) #[I,I,I,I,I,I,I,O] rfl rfl (aI ak.out (by kernel_rfl)) (by decide) (λK hK=>?_)
 refine call_ 111 #[.int .i64 (m:Int),.pointer (some ⟨b1,0,none⟩),.pointer (some ⟨b2,0,none⟩),.pointer (some ⟨b3,0,none⟩),.pointer (some ⟨b4,0,none⟩)] (by rfl) rfl ?_ ?_
 .have he:=uU Tryz.func111 (by kernel_rfl) rfl #[.int .i64 (m:Int),.pointer (some ⟨b1,0,none⟩),.pointer (some ⟨b2,0,none⟩),.pointer (some ⟨b3,0,none⟩),.pointer (some ⟨b4,0,none⟩)]
  go_simp
 refine(Gw hN HT.out HW.out m (by omega) _ _ HD5.out I5.out (λ_ _=> .inl rfl)).mono ?_
 rintro e_ w_ ⟨vr,Er,rfl,hEr,hDr,hTr,_,_,hKr⟩
 refine⟨_,rfl,hK.out _ _ ?_⟩
 clear hK K
 have HAr:=aa.mk hDr.eZ
 have HEr:=aa.mk hEr
 have KWr:=aa.mk ((K5.out.trans (hKr.mono K5.out.size (λ_ _ h=>h))).mono (T:=λb=>b=mb) (Nat.le_refl _) (λb hb hs=>by rcases hs with e|e<;>omega))
 clear hDr hEr hTr hKr HD5 I5 K5
 refine iY ?_
 refine aZ 7 8 #[I,I,I,I,I,I,I,I] ak (h:=?_)
 refine dK (bG ak.out (by kernel_rfl)) ?_
 obtain⟨og,hog⟩:∃o,split (ll T Wk limit) m=o:=⟨_,rfl⟩
 rw[hog] at HEr
 have HOG:=aa.mk hog
 clear hog hc1 hc2 hc3 hc4 hm0 hm1
 cases og with
 |none=>
  obtain rfl:vr= .slice none 0 0:=HEr.out
  go_wp2_with fail
  go_ret2
  rw[hm,HOG.out]
  exact⟨none,0,rfl,HAr.out,KWr.out⟩
 |some k=>
  obtain⟨ad,c,xs,rfl,_⟩:=HEr.out
  go_wp2_with fail
  go_ret2
  rw[hm,HOG.out]
  exact⟨some ad,c,rfl,HAr.out,KWr.out⟩
end Go.Proofs.YtkjoilgpmngndaaGreat.Wk
namespace Go.Proofs.YtkjoilgpmngndaaGreat.Wk
open Go.RowKit Go.Shelf au YtkjoilgpmngndaaGreatW.aj YtkjoilgpmngndaaGreatW.aJ
theorem qC(n:Int)(w:World):Calls Tryz.prog 74 #[.int .i64 n] w λe w'=>e= .returned (.bool (aK n 0 10000))/\Below w.heap.size w w':=by
 refine(om.calls n (aK n 0 10000) w ?_).mono ?_
 .unfold om.f eu.f aK
  by_cases h:0<=n<;>simp[h]
 .rintro e w' ⟨h1,h2⟩
  exact⟨h1,h2.below⟩
def tJ(W:List dP)(R:List aV)(limit:Int):Nat×Int:=
 if bD W R=0 then(if aK limit 0 10000=true then(match split (ll (tm R W.length) W limit) (2^W.length-1) with|none=>(0,9)|some k=>(k,0)) else(0,2)) else(0,bD W R)
theorem DI{A0:Option Addr}{c0:Nat}{Wk:List dP}{A1:Option Addr}{c1:Nat}{R:List aV}{w:World}(limit:Int)(h:IsMap w A0 c0 Wk A1 c1 R):
  Calls Tryz.prog 75 #[.agg #[.slice A0 Wk.length c0,.slice A1 R.length c1],.int .i64 limit] w λe w'=>(∃p A c,e= .returned (.tuple #[.pointer p,.slice A (tJ Wk R limit).1 c,.int .i64 (tJ Wk R limit).2]))/\Below w.heap.size w w':=by
 have H:=aa.mk h
 clear h
 go_enter Tryz.func75,Tryz.ntmps75
 go_wp2_with fail
 have hb0:=ae (Below.refl w.heap.size w) (.cells #[.slice A0 Wk.length c0,.slice A1 R.length c1] 78)
 have B0:=aR.new w [.slice A0 Wk.length c0,.slice A1 R.length c1] 78
 have H0:=aa.mk (H.out.below hb0)
 refine(dM H0.out).mono ?_
 rintro e w1 ⟨rfl,hb1⟩
 have B1:=aa.mk (B0.below hb1)
 have HB1:=aa.mk (hb0.trans (hb1.mono (by simp)))
 have H1:=aa.mk (H.out.below HB1.out)
 have h10:=B1.out.cell 0
 have h11:=B1.out.cell 1
 simp only[eP,eO] at h10 h11
 clear hb0 hb1 B0 H0
 by_cases hc:bD Wk R=0
 .have hcb:(bD Wk R !=0)=false:=by simp[hc]
  obtain⟨hN0,hN,_,hW,hR,_⟩:=mD hc
  have zP:tJ Wk R limit=((if aK limit 0 10000=true then(match split (ll (tm R Wk.length) Wk limit) (2^Wk.length-1) with|none=>(0,9)|some k=>(k,0)) else(0,2)):Nat×Int):=by unfold tJ;rw[if_pos hc]
  have mI:=aa.mk zP
  rw[hc]
  clear hc zP
  go_wp2_with fail
  refine(qC limit w1).mono ?_
  rintro e w2 ⟨rfl,hb2⟩
  have B2:=aa.mk (B1.out.below hb2)
  have HB2:=aa.mk (HB1.out.trans (hb2.mono HB1.out.size))
  have H2:=aa.mk (H.out.below HB2.out)
  have h20:=B2.out.cell 0
  have h21:=B2.out.cell 1
  simp only[eP,eO] at h20 h21
  clear hb2 B1 HB1 H1 h10 h11
  cases hl:aK limit 0 10000
  .rw[hl,if_neg (by simp)] at mI
   go_wp2_with fail
   go_ret3
   rw[mI.out]
   exact⟨⟨none,none,0,rfl⟩,HB2.out⟩
  .rw[hl,if_pos rfl] at mI
   go_wp2_with fail
   refine(nO H2.out hN hR).mono ?_
   rintro e w3 ⟨ga,mb,rfl,hga,hA3,hb3⟩
   have HB3:=aa.mk (HB2.out.trans (hb3.mono HB2.out.size))
   go_wp2_with fail
   refine(xW limit hN (jo hR) hW hA3).mono ?_
   rintro e w4 ⟨Al,cl,rfl,WM,hK4⟩
   have jd:=aa.mk (HB2.out.trans (WM.below.mono HB2.out.size))
   clear WM hK4 hA3 hb3 HB3
   cases hsp:split (ll (tm R Wk.length) Wk limit) (2^Wk.length-1) with
   |none=>
    rw[hsp] at mI
    simp only[Option.getD_none,Option.isSome_none]
    go_wp2_with fail
    go_ret3
    rw[mI.out]
    exact⟨⟨none,none,0,rfl⟩,jd.out⟩
   |some k=>
    rw[hsp] at mI
    simp only[Option.getD_some,Option.isSome_some]
    go_wp2_with fail
    go_ret3
    rw[mI.out]
    exact⟨⟨_,Al,cl,rfl⟩,jd.out⟩
 .have hcb:(bD Wk R !=0)=true:=by simp[hc]
  go_wp2_with fail
  have zP:tJ Wk R limit=(0,bD Wk R):=by unfold tJ;rw[if_neg hc]
  go_ret3
  rw[zP]
  exact⟨⟨none,none,0,rfl⟩,HB1.out⟩
theorem yx{A0:Option Addr}{c0:Nat}{Wk:List dP}{A1:Option Addr}{c1:Nat}{R:List aV}{w:World}(limit:Int)(h:IsMap w A0 c0 Wk A1 c1 R):
  Calls Tryz.prog 32 #[.agg #[.slice A0 Wk.length c0,.slice A1 R.length c1],.int .i64 limit] w λe w'=>e= .returned (.tuple #[.int .i64 (tJ Wk R limit).1,.int .i64 (tJ Wk R limit).2])/\Below w.heap.size w w':=by
 have H:=aa.mk h
 clear h
 go_enter Tryz.func32,Tryz.ntmps32
 go_wp2_with fail
 have hb0:=ae (Below.refl w.heap.size w) (.cells #[.slice A0 Wk.length c0,.slice A1 R.length c1] 78)
 refine(DI limit (H.out.below hb0)).mono ?_
 rintro e w1 ⟨⟨p,A,c,rfl⟩,hb1⟩
 have HB1:=aa.mk (hb0.trans (hb1.mono (by simp)))
 clear hb0 hb1
 go_wp2_with fail
 go_ret2
 exact⟨rfl,HB1.out⟩
def wy.T9:Bool×List (List Nat×List Nat):=(true,[([],[]),([],[]),([],[]),([0,1,2],[0,1,2]),([],[]),([],[]),([],[]),([4],[4]),([7],[7]),([8,5],[5,8]),([9,6],[6,9]),([10],[10]),([3,3,0,1,2,3],[3]),([11,12,0,1,2,3,4,5,6,7,8,9,10,11,12],[11]),([13,0,1,2,3,4,5,6,7,8,9,10,11,12,13],[])])
def wy.B9:List Nat:=[0,0,0,7,0,0,0,16,144,432,1008,2032,15,8191,16383]
theorem wy.Dk:dW .any (opsOf Tryz.f27 9)=wy.T9:=by kernel_rfl
theorem wy.vO:bJ wy.T9.2 wy.B9=true:=by kernel_rfl
def wY(W:List dP)(R:List aV)(fr jH:Int):Int×Int:=
 if bD W R=0 then(if(ib W.length fr&&ib W.length jH)=true then(if 1048576<=tm R W.length fr.toNat jH.toNat then(0,7) else(tm R W.length fr.toNat jH.toNat,0)) else(0,2)) else(0,bD W R)
theorem Eu{A0:Option Addr}{c0:Nat}{Wk:List dP}{A1:Option Addr}{c1:Nat}{R:List aV}{w:World}(fi ti:Int)(h:IsMap w A0 c0 Wk A1 c1 R):
  Calls Tryz.prog 27 #[.agg #[.slice A0 Wk.length c0,.slice A1 R.length c1],.int .i64 fi,.int .i64 ti] w λe w'=>(∃A n c,e= .returned (.tuple #[.slice A n c,.int .i64 (wY Wk R fi ti).1,.int .i64 (wY Wk R fi ti).2]))/\Below w.heap.size w w':=by
 have H:=aa.mk h
 clear h
 go_enter Tryz.func27,Tryz.ntmps27
 go_wp2_with fail
 have hb0:=ae (Below.refl w.heap.size w) (.cells #[.slice A0 Wk.length c0,.slice A1 R.length c1] 78)
 have B0:=aR.new w [.slice A0 Wk.length c0,.slice A1 R.length c1] 78
 refine(dM (H.out.below hb0)).mono ?_
 rintro e w1 ⟨rfl,hb1⟩
 have B1:=aa.mk (B0.below hb1)
 have HB1:=aa.mk (hb0.trans (hb1.mono (by simp)))
 have H1:=aa.mk (H.out.below HB1.out)
 have h10:=B1.out.cell 0
 have h11:=B1.out.cell 1
 simp only[eP,eO] at h10 h11
 clear hb0 hb1 B0
 by_cases hc:bD Wk R=0
 .have hcb:(bD Wk R !=0)=false:=by simp[hc]
  obtain⟨hN0,hN,_,hW,hR,_⟩:=mD hc
  have mI:=aa.mk (show wY Wk R fi ti=((if(ib Wk.length fi&&ib Wk.length ti)=true then(if 1048576<=tm R Wk.length fi.toNat ti.toNat then(0,7) else(tm R Wk.length fi.toNat ti.toNat,0)) else(0,2)):Int×Int) by unfold wY;rw[if_pos hc])
  rw[hc]
  clear hc
  cases hp1:ib Wk.length fi
  .rw[hp1,if_neg (by simp)] at mI
   go_wp2_with fail
   refine(lS fi H1.out).mono ?_
   rintro e w2 ⟨rfl,hb2⟩
   have HB2:=aa.mk (HB1.out.trans (hb2.mono HB1.out.size))
   rw[hp1]
   go_wp2_with fail
   go_ret3
   rw[mI.out]
   exact⟨⟨none,0,0,rfl⟩,HB2.out⟩
  .go_wp2_with fail
   refine(lS fi H1.out).mono ?_
   rintro e w2 ⟨rfl,hb2⟩
   have B2:=aa.mk (B1.out.below hb2)
   have HB2:=aa.mk (HB1.out.trans (hb2.mono HB1.out.size))
   have H2:=aa.mk (H.out.below HB2.out)
   have h20:=B2.out.cell 0
   have h21:=B2.out.cell 1
   simp only[eP,eO] at h20 h21
   rw[hp1]
   go_wp2_with fail
   refine(lS ti H2.out).mono ?_
   rintro e w3 ⟨rfl,hb3⟩
   have B3:=aa.mk (B2.out.below hb3)
   have HB3:=aa.mk (HB2.out.trans (hb3.mono HB2.out.size))
   have H3:=aa.mk (H.out.below HB3.out)
   have jB:=B3.out.cell 0
   have h31:=B3.out.cell 1
   simp only[eP,eO] at jB h31
   clear hb2 hb3 B1 B2 HB1 HB2 H1 H2 h10 h11 h20 h21
   cases hp2:ib Wk.length ti
   .rw[hp1,hp2,if_neg (by simp)] at mI
    go_wp2_with fail
    go_ret3
    rw[mI.out]
    exact⟨⟨none,0,0,rfl⟩,HB3.out⟩
   .rw[hp1,hp2,Bool.and_self,if_pos rfl] at mI
    obtain⟨f0,f1⟩:=qQ hp1
    obtain⟨t0,t1⟩:=qQ hp2
    obtain⟨fr,rfl⟩:∃n:Nat,fi=n:=⟨fi.toNat,by omega⟩
    obtain⟨jH,rfl⟩:∃n:Nat,ti=n:=⟨ti.toNat,by omega⟩
    simp only[Int.toNat_natCast] at mI
    have hfr:fr<Wk.length:=by omega
    have hto:jH<Wk.length:=by omega
    go_wp2_with fail
    refine(nO H3.out hN hR).mono ?_
    rintro e w4 ⟨ga,mb,rfl,hga,WM,hb4⟩
    have CJ:=aa.mk WM
    have jd:=aa.mk (HB3.out.trans (hb4.mono HB3.out.size))
    clear HB3
    have HB3:=jd
    clear jd WM hb4
    have hf8:(fr:Int)<8:=by omega
    have ht8:(jH:Int)<8:=by omega
    have hTt:=CJ.out.eZ.eZ.time (i:=fr) (j:=jH) (by omega) (by omega)
    obtain⟨tt,htt⟩:∃x,tm R Wk.length fr jH=x:=⟨_,rfl⟩
    rw[htt] at hTt mI
    have HTT:=aa.mk htt
    clear htt
    by_cases yY:1048576<=tt
    .have YJ:decide (1048576<=tt)=true:=by simpa using yY
     rw[if_pos yY] at mI
     clear yY
     go_wp2_with fail
     go_ret3
     rw[mI.out]
     exact⟨⟨none,0,0,rfl⟩,HB3.out⟩
    .have YJ:decide (1048576<=tt)=false:=by simpa using yY
     rw[if_neg yY] at mI
     have HLT:=aa.mk (show tm R Wk.length fr jH<1048576 by rw[HTT.out];omega)
     clear yY
     go_wp2_with fail
     refine dB (n:=15) (S:=λw'=>w'.cell? ⟨ga,2+fr*8+jH,none⟩=some (.int .i64 tt)) (ds:=[]) #[O,O,O,O,O,O,O,O,O,O,O,O,O,O,O] (by kernel_rfl) rfl rfl hTt (λhHeld=>?_);refine bu wy.Dk wy.vO (λak bN=>?_)
     have PM:=aa.mk CJ.out.drew
     have Da:=aa.mk (aM HB3.out)
     clear CJ HB3
     generalize w4.drew=wd at PM Da hHeld ⊢
     refine aZ 0 37 #[I,O,O,O,O,O,O,O,O,O,O,O,O,O,O] ak (h:=?_)
     refine aZ 1 38 #[I,I,O,O,O,O,O,O,O,O,O,O,O,O,O] ak (h:=?_)
     refine aZ 2 39 #[I,I,I,O,O,O,O,O,O,O,O,O,O,O,O] ak (h:=?_)
     refine aZ 4 41 #[I,I,I,O,I,O,O,O,O,O,O,O,O,O,O] ak (h:=?_)
     refine aZ 5 42 #[I,I,I,O,I,I,O,O,O,O,O,O,O,O,O] ak (h:=?_)
     refine aZ 6 43 #[I,I,I,O,I,I,I,O,O,O,O,O,O,O,O] ak (h:=?_)
     refine aZ 7 44 #[I,I,I,O,I,I,I,I,O,O,O,O,O,O,O] ak (h:=?_)
     refine aZ 8 45 #[I,I,I,O,I,I,I,I,I,O,O,O,O,O,O] ak (h:=?_)
     refine aZ 9 46 #[I,I,I,O,I,I,I,I,I,I,O,O,O,O,O] ak (h:=?_)
     refine aZ 10 47 #[I,I,I,O,I,I,I,I,I,I,I,O,O,O,O] ak (h:=?_)
     refine dG 11 48 #[I,I,I,O,I,I,I,I,I,I,I,I,O,O,O] ak bN hHeld (hy:=by(rintro w' s0;go_simp;with_reducible rfl)) (h:=?_)
     refine dO (i:=3) (N:=some 40) #[I,I,I,I,I,I,I,I,I,I,I,I,O,O,O] rfl rfl (aI ak.out (by kernel_rfl)) (by decide) (λK hK=>?_)
     refine bW Tryz.func65 (by kernel_rfl) rfl #[.pointer (some ⟨ga,0,none⟩),.int .i64 (fr:Int),.int .i64 (jH:Int)] (by rfl) rfl rfl (by(try simp only[List.map_toArray,List.map_cons,List.map_nil]);rfl) ?_
     refine(DZ hN (jo hR) (Gl hR) fr jH hfr hto HLT.out _ PM.out.eZ).mono ?_
     rintro e_ w_ ⟨vw,xw,rfl,hRw,anY,anX,-,hBw⟩
     refine⟨_,rfl,hK.out _ _ (((PM.out.later hBw).eZ.eZ.time (i:=fr) (j:=jH) (by omega) (by omega)).trans (by rw[HTT.out])) (λhHeld=>?_)⟩
     clear hK K
     obtain⟨Aw,cw,rfl⟩:=Kd.kP hRw
     have jd:=aa.mk (Da.out.trans (hBw.mono Da.out.size))
     clear hRw hBw PM Da
     refine iY ?_
     refine aZ 12 6 #[I,I,I,I,I,I,I,I,I,I,I,I,I,O,O] ak (h:=?_)
     refine aZ 13 7 #[I,I,I,I,I,I,I,I,I,I,I,I,I,I,O] ak (h:=?_)
     refine aZ 14 8 #[I,I,I,I,I,I,I,I,I,I,I,I,I,I,I] ak (h:=?_)
     refine dK (bG ak.out (by kernel_rfl)) ?_
     go_wp2_with fail
     go_ret3
     rw[mI.out]
     exact⟨⟨_,_,_,rfl⟩,jd.out⟩
 .have hcb:(bD Wk R !=0)=true:=by simp[hc]
  go_wp2_with fail
  have zP:wY Wk R fi ti=(0,bD Wk R):=by unfold wY;rw[if_neg hc]
  go_ret3
  rw[zP]
  exact⟨⟨none,0,0,rfl⟩,HB1.out⟩
def mh(W:List dP)(R:List aV)(limit:Int)(k:Nat):List Int:=((List.range k).filter (λn=>decide (jA (tm R W.length) W (2^n)<=limit))).map (λn:Nat=>(n:Int))
theorem EM(W:List dP)(R:List aV)(limit:Int)(k:Nat):mh W R limit (k+1)=if jA (tm R W.length) W (2^k)<=limit then mh W R limit k++[(k:Int)] else mh W R limit k:=by
 unfold mh
 rw[List.range_succ,List.filter_append,List.map_append]
 by_cases h:jA (tm R W.length) W (2^k)<=limit
 .rw[if_pos h]
  simp[List.filter_cons,h]
 .rw[if_neg h]
  simp[List.filter_cons,h]
theorem zw(W:List dP)(R:List aV)(limit:Int)(k:Nat):(mh W R limit k).length<=k:=by
 unfold mh
 rw[List.length_map]
 have:=List.length_filter_le (λn=>decide (jA (tm R W.length) W (2^n)<=limit)) (List.range k)
 rwa [List.length_range] at this
def j3(W:List dP)(R:List aV)(limit:Int):List Int×Int:=
 if bD W R=0 then(if aK limit 0 10000=true then(mh W R limit W.length,0) else([],2)) else([],bD W R)
theorem zG{A0:Option Addr}{c0:Nat}{Wk:List dP}{A1:Option Addr}{c1:Nat}{R:List aV}{w:World}(limit:Int)(h:IsMap w A0 c0 Wk A1 c1 R):
  Calls Tryz.prog 31 #[.agg #[.slice A0 Wk.length c0,.slice A1 R.length c1],.int .i64 limit] w λe w'=>(∃v,e= .returned (.tuple #[v,.int .i64 (j3 Wk R limit).2])/\(Kd.int .i64).R 3 w' w.heap.size (λ_=>True) v (j3 Wk R limit).1)/\Below w.heap.size w w':=by
 have H:=aa.mk h
 clear h
 go_enter Tryz.func31,Tryz.ntmps31
 go_wp2_with fail
 have hb0:=ae (Below.refl w.heap.size w) (.cells #[.slice A0 Wk.length c0,.slice A1 R.length c1] 78)
 have B0:=aR.new w [.slice A0 Wk.length c0,.slice A1 R.length c1] 78
 refine(dM (H.out.below hb0)).mono ?_
 rintro e w1 ⟨rfl,hb1⟩
 have B1:=aa.mk (B0.below hb1)
 have HB1:=aa.mk (hb0.trans (hb1.mono (by simp)))
 have H1:=aa.mk (H.out.below HB1.out)
 have h10:=B1.out.cell 0
 have h11:=B1.out.cell 1
 simp only[eP,eO] at h10 h11
 clear hb0 hb1 B0
 by_cases hc:bD Wk R=0
 .have hcb:(bD Wk R !=0)=false:=by simp[hc]
  obtain⟨hN0,hN,_,hW,hR,_⟩:=mD hc
  have mI:=aa.mk (show j3 Wk R limit=((if aK limit 0 10000=true then(mh Wk R limit Wk.length,0) else([],2)):List Int×Int) by unfold j3;rw[if_pos hc])
  rw[hc]
  clear hc
  go_wp2_with fail
  refine(qC limit w1).mono ?_
  rintro e w2 ⟨rfl,hb2⟩
  have B2:=aa.mk (B1.out.below hb2)
  have HB2:=aa.mk (HB1.out.trans (hb2.mono HB1.out.size))
  have H2:=aa.mk (H.out.below HB2.out)
  have h20:=B2.out.cell 0
  have h21:=B2.out.cell 1
  simp only[eP,eO] at h20 h21
  clear hb2 B1 HB1 H1 h10 h11
  cases hl:aK limit 0 10000
  .rw[hl,if_neg (by simp)] at mI
   go_wp2_with fail
   go_ret2
   rw[mI.out]
   exact⟨⟨_,rfl,Kd.iK _ _ _ _ _⟩,HB2.out⟩
  .rw[hl,if_pos rfl] at mI
   go_wp2_with fail
   refine(nO H2.out hN hR).mono ?_
   rintro e w3 ⟨ga,mb,rfl,hga,hA3,hb3⟩
   have HB3:=aa.mk (HB2.out.trans (hb3.mono HB2.out.size))
   have B3:=aa.mk (B2.out.below hb3)
   have jB:=B3.out.cell 0
   have h31:=B3.out.cell 1
   simp only[eP,eO] at jB h31
   have CJ:=aa.mk hA3
   have Yo:=hb3.size
   have hw2:=HB2.out.size
   clear h20 h21 hb3 hA3 B2
   go_wp2_with fail
   go_loopw [8,23] (λv8 v23 wr=>∃k:Nat,k<=Wk.length/\v23= .int .i64 k/\aa (lD w2 wr A0 c0 Wk A1 c1 R ga mb (tm R Wk.length) (fs R Wk.length))/\aa (Below w.heap.size w wr)/\w3.heap.size<=wr.heap.size/\aa ((Kd.int .i64).R 3 wr w3.heap.size (λb=>w3.heap.size<=b) v8 (mh Wk R limit k))) (λ_ v23 _=>Wk.length-(intOf v23).toNat)
   case atStart=>exact⟨0,Nat.zero_le _,rfl,CJ,HB3,Nat.le_refl _,⟨Kd.iK _ _ _ _ _⟩⟩
   case round=>
    have ahJ:ga<w3.heap.size:=CJ.out.eZ.eZ.lt
    have aht:mb<w3.heap.size:=CJ.out.eZ.memo.lt
    have ahe:w2.heap.size<=w3.heap.size:=Yo
    have hw3:w.heap.size<=w3.heap.size:=by omega
    have hlo:=CJ.out.lo
    clear CJ HB3 B3 jB h31
    obtain⟨k,hk,rfl,HA,HB,yT,HR⟩:=hrel
    by_cases hkl:k<Wk.length
    .obtain⟨ho1,ho2,ho3⟩:=JY (n:=k) (by omega)
     have hle:=zw Wk R limit k
     have hsu:=EM Wk R limit k
     by_cases hlm:jA (tm R Wk.length) Wk (2^k)<=limit
     .have ahB:decide (jA (tm R Wk.length) Wk (2^k)<=limit)=true:=by simpa using hlm
      rw[if_pos hlm] at hsu
      have HSU:=aa.mk hsu
      clear hsu hlm
      go_wp2_with fail
      refine(jq (jo hR) hW (2^k) ho3 (by rw[ho2];simpa using hkl) HA.out).mono ?_
      rintro e w5 ⟨rfl,Ru,tL⟩
      have F9:=aa.mk Ru
      have kv:=aa.mk (HB.out.trans ⟨tL.os,tL.tape,tL.output,tL.size,λi hi=>tL.block i (by omega) (by omega)⟩)
      have Vv:=aa.mk (Kd.gQ HR.out (λb hb hlt=>tL.block b hlt (by omega)))
      have hs5:=Nat.le_trans yT tL.size
      clear Ru tL HA HB HR
      go_wp2_with ((with_reducible refine cz (b:= .append) (xs:=#[.tmp 32,.tmp 34]) rfl ?_);at_builtin;refine Kd.jk (Kd.int .i64) (w0:=w5) w3.heap.size rfl (.tmp 32) (.tmp 34) 22 3 (.int .i64 0) 8 rfl Tryz.underlying22 info3 rfl (by decide) (by omega) u8 (mh Wk R limit k) (k:Int) [.int .i64 (k:Int)] (λb=>w3.heap.size<=b) (λ_=>False) rfl rfl ?aP (λ_ hk=>hk.elim) ?aF ?aO ?aB ?aS ?aL ?_;(case aP=>exact rfl);(case aF=>exact(λb hb=>Nat.le_trans hs5 hb));(case aO=>exact Vv.out);(case aB=>exact Below.refl _ _);(case aS=>exact hs5);(case aL=>omega);intro vn wn hon hbn hgn fP;have Ey:=aa.mk hon;have HAn:=aa.mk (⟨F9.out.map,F9.out.below.trans (hbn.mono ahe),F9.out.lo,F9.out.eZ.eZ.move (hbn.block ga ahJ),F9.out.eZ.memo.move (hbn.block mb aht),F9.out.eZ.ne⟩:lD w2 wn A0 c0 Wk A1 c1 R ga mb (tm R Wk.length) (fs R Wk.length));have qK:=aa.mk (kv.out.trans (hbn.mono hw3));have hsn:=Nat.le_trans hs5 hbn.size;clear hon hbn hgn fP)
      go_roundw
      case rel=>exact⟨k+1,by omega,by go_num,HAn,qK,hsn,⟨by rw[HSU.out];exact Ey.out⟩⟩
      case measure=>simp[intOf];omega
     .have ahB:decide (jA (tm R Wk.length) Wk (2^k)<=limit)=false:=by simpa using hlm
      rw[if_neg hlm] at hsu
      have HSU:=aa.mk hsu
      clear hsu hlm
      go_wp2_with fail
      refine(jq (jo hR) hW (2^k) ho3 (by rw[ho2];simpa using hkl) HA.out).mono ?_
      rintro e w5 ⟨rfl,Ru,tL⟩
      have F9:=aa.mk Ru
      have kv:=aa.mk (HB.out.trans ⟨tL.os,tL.tape,tL.output,tL.size,λi hi=>tL.block i (by omega) (by omega)⟩)
      have Vv:=aa.mk (Kd.gQ HR.out (λb hb hlt=>tL.block b hlt (by omega)))
      have hs5:=Nat.le_trans yT tL.size
      clear Ru tL HA HB HR
      go_wp2_with fail
      go_roundw
      case rel=>exact⟨k+1,by omega,by go_num,F9,kv,hs5,⟨by rw[HSU.out];exact Vv.out⟩⟩
      case measure=>simp[intOf];omega
    .obtain rfl:k=Wk.length:=by omega
     go_wp2_with fail
     go_ret2
     rw[mI.out]
     exact⟨⟨_,rfl,Kd.bB (Kd.ed HR.out hw3) (λ_ _=>trivial)⟩,HB.out⟩
 .have hcb:(bD Wk R !=0)=true:=by simp[hc]
  go_wp2_with fail
  have zP:j3 Wk R limit=([],bD Wk R):=by unfold j3;rw[if_neg hc]
  go_ret2
  rw[zP]
  exact⟨⟨_,rfl,Kd.iK _ _ _ _ _⟩,HB1.out⟩
open Go.RowKit Go.Shelf au YtkjoilgpmngndaaGreatW.aj
set_option maxHeartbeats 4000000 in
theorem zi(g:Nat)(x y:Int)(w:World)(hx:w.cell? ⟨g,0,none⟩=some (.int .i64 x))(hy:w.cell? ⟨g,1,none⟩=some (.int .i64 y)):
  Calls Tryz.prog 110 #[.slice (some ⟨g,0,none⟩) 2 2] w λe w'=>e= .returned (.int .i64 (min x y))/\w'=w:=by
 go_enter Tryz.func110,Tryz.ntmps110
 go_wp2_with fail
 go_loopw [3,4] (λv3 v4 wr=>((v3= .int .i64 x/\v4= .int .i64 1)\/(v3= .int .i64 (min x y)/\v4= .int .i64 2))/\wr=w) (λ_ v4 _=>2-(intOf v4).toNat)
 case atStart=>exact⟨.inl ⟨rfl,rfl⟩,rfl⟩
 case round=>
  obtain⟨⟨rfl,rfl⟩|⟨rfl,rfl⟩,rfl⟩:=hrel
  .go_wp2_with fail
   have hmin:(if y<x then y else x)=min x y:=by
    by_cases h:y<x
    .rw[if_pos h];omega
    .rw[if_neg h];omega
   exact⟨⟨.inr ⟨by rw[hmin],rfl⟩,trivial⟩,by simp[intOf]⟩
  .go_wp2_with fail
   go_ret
   exact⟨rfl,rfl⟩
set_option maxHeartbeats 4000000 in
theorem oP(g:Nat)(x y:Int)(w:World)(hx:w.cell? ⟨g,0,none⟩=some (.int .i64 x))(hy:w.cell? ⟨g,1,none⟩=some (.int .i64 y)):
  Calls Tryz.prog 77 #[.slice (some ⟨g,0,none⟩) 2 2] w λe w'=>e= .returned (.int .i64 (min x y))/\w'=w:=by
 go_enter Tryz.func77,Tryz.ntmps77
 go_wp2_with fail
 refine(zi g x y w hx hy).mono ?_
 rintro e w' ⟨rfl,rfl⟩
 go_wp2_with fail
 go_ret
 exact⟨rfl,rfl⟩
end Go.Proofs.YtkjoilgpmngndaaGreat.Wk
