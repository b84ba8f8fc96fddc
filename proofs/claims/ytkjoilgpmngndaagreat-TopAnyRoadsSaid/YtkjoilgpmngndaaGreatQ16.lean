import Derived.WalkMore
import Derived.Test.YtkjoilgpmngndaaGreatQ15
set_option maxHeartbeats 40000000
set_option maxRecDepth 100000
set_option linter.all false
namespace Go.Proofs.YtkjoilgpmngndaaGreat.Wk
open Go.RowKit Go.Shelf au YtkjoilgpmngndaaGreatW.aj YtkjoilgpmngndaaGreatW.aJ
def kZ(W:List dP)(R:List aV):Nat->Int
 |0=>0
 |k+1=>max (kZ W R k) (jA (tm R W.length) W (2^k))
theorem wE(W:List dP)(R:List aV)(k:Nat):∀n,kZ W R k<=kZ W R (k+n)
 |0=>Int.le_refl _
 |n+1=>by
  have:=wE W R k n
  rw[<- Nat.add_assoc,kZ]
  omega
theorem EU(W:List dP)(R:List aV)(k:Nat):0<=kZ W R k:=by
 have:=wE W R 0 k
 rw[Nat.zero_add] at this
 exact this
def o8(W:List dP)(R:List aV)(many half:Int):Bool:=
 match split (ll (tm R W.length) W half) (2^W.length-1) with
 |none=>false
 |some k=>decide ((k:Int)<=many)
def bs(fit:Int->Bool):Nat->Int->Int->Int
 |0,low,_=>low
 |f+1,low,high=>if low<high then(if fit ((low+high)/2)=true then bs fit f low ((low+high)/2) else bs fit f ((low+high)/2+1) high) else low
theorem Ag(fit:Int->Bool):∀(f g:Nat) (low high:Int),(high-low).toNat<=f->(high-low).toNat<=g->bs fit f low high=bs fit g low high
 |0,0,_,_,_,_=>rfl
 |0,g+1,low,high,h,_=>by
  rw[bs,bs,if_neg (by omega)]
 |f+1,0,low,high,_,h=>by
  rw[bs,bs,if_neg (by omega)]
 |f+1,g+1,low,high,h,h'=>by
  rw[bs,bs]
  by_cases e:low<high
  .rw[if_pos e,if_pos e]
   by_cases e2:fit ((low+high)/2)=true
   .rw[if_pos e2,if_pos e2]
    exact Ag fit f g _ _ (by omega) (by omega)
   .rw[if_neg e2,if_neg e2]
    exact Ag fit f g _ _ (by omega) (by omega)
  .rw[if_neg e,if_neg e]
theorem Vb(fit:Int->Bool)(low high:Int)(h0:0<=low)(h1:high<=10000)(h:low<high):bs fit 10000 low high=if fit ((low+high)/2)=true then bs fit 10000 low ((low+high)/2) else bs fit 10000 ((low+high)/2+1) high:=by
 rw[show bs fit 10000 low high=bs fit (9999+1) low high from rfl,bs,if_pos h]
 by_cases e2:fit ((low+high)/2)=true
 .rw[if_pos e2,if_pos e2]
  exact Ag fit _ _ _ _ (by omega) (by omega)
 .rw[if_neg e2,if_neg e2]
  exact Ag fit _ _ _ _ (by omega) (by omega)
theorem Zn(fit:Int->Bool)(low high:Int)(h:¬low<high):bs fit 10000 low high=low:=by
 rw[show bs fit 10000 low high=bs fit (9999+1) low high from rfl,bs,if_neg h]
def kU(W:List dP)(R:List aV)(many:Int):Int×Int:=
 if bD W R=0 then(if aK many 1 8=true then(if 1048576<=kZ W R W.length then(0,7) else(bs (o8 W R many) 10000 (kZ W R W.length) (min (jA (tm R W.length) W (2^W.length-1)) 10000),0)) else(0,2)) else(0,bD W R)
theorem NL(n a b:Int)(w:World):Calls Tryz.prog 76 #[.int .i64 n,.int .i64 a,.int .i64 b] w λe w'=>e= .returned (.bool (aK n a b))/\Below w.heap.size w w':=iM n a b w
theorem zH{A0:Option Addr}{c0:Nat}{Wk:List dP}{A1:Option Addr}{c1:Nat}{R:List aV}{w:World}(many:Int)(h:IsMap w A0 c0 Wk A1 c1 R):
  Calls Tryz.prog 33 #[.agg #[.slice A0 Wk.length c0,.slice A1 R.length c1],.int .i64 many] w λe w'=>e= .returned (.tuple #[.int .i64 (kU Wk R many).1,.int .i64 (kU Wk R many).2])/\Below w.heap.size w w':=by
 have H:=aa.mk h
 clear h
 go_enter Tryz.func33,Tryz.ntmps33
 go_wp2_with fail
 go_step3
 go_wp2_with fail
 have hb0:=ae (Below.refl w.heap.size w) (.cells #[.slice A0 Wk.length c0,.slice A1 R.length c1] 78)
 have B0:=aR.new w [.slice A0 Wk.length c0,.slice A1 R.length c1] 78
 refine(dM (H.out.below hb0)).mono ?_
 rintro e w1 ⟨rfl,hb1⟩
 have B1:=aa.mk (B0.below hb1)
 have HB1:=aa.mk (hb0.trans (hb1.mono (by simp)))
 have H1:=aa.mk (H.out.below HB1.out)
 have h10:=B1.out.cell 0
 have h11:=B1.out.cell 1
 simp only[eP,eO] at h10 h11
 clear hb0 hb1 B0
 by_cases hc:bD Wk R=0
 .have hcb:(bD Wk R !=0)=false:=by simp[hc]
  obtain⟨hN0,hN,_,hW,hR,_⟩:=mD hc
  have mI:=aa.mk (show kU Wk R many=((if aK many 1 8=true then(if 1048576<=kZ Wk R Wk.length then(0,7) else(bs (o8 Wk R many) 10000 (kZ Wk R Wk.length) (min (jA (tm R Wk.length) Wk (2^Wk.length-1)) 10000),0)) else(0,2)):Int×Int) by unfold kU;rw[if_pos hc])
  rw[hc]
  clear hc
  go_wp2_with fail
  refine(NL many 1 8 w1).mono ?_
  rintro e w2 ⟨rfl,hb2⟩
  have B2:=aa.mk (B1.out.below hb2)
  have HB2:=aa.mk (HB1.out.trans (hb2.mono HB1.out.size))
  have H2:=aa.mk (H.out.below HB2.out)
  have h20:=B2.out.cell 0
  have h21:=B2.out.cell 1
  simp only[eP,eO] at h20 h21
  clear hb2 B1 HB1 H1 h10 h11
  cases hl:aK many 1 8
  .rw[hl,if_neg (by simp)] at mI
   go_wp2_with fail
   rw[Exit.noGoto_ret]
   go_ret2
   rw[mI.out]
   exact⟨rfl,HB2.out⟩
  .rw[hl,if_pos rfl] at mI
   go_wp2_with fail
   refine(nO H2.out hN hR).mono ?_
   rintro e w3 ⟨ga,mb,rfl,hga,hA3,hb3⟩
   have HB3:=aa.mk (HB2.out.trans (hb3.mono HB2.out.size))
   have B3:=aa.mk (B2.out.below hb3)
   have jB:=B3.out.cell 0
   have h31:=B3.out.cell 1
   simp only[eP,eO] at jB h31
   have CJ:=aa.mk hA3
   have Yo:=hb3.size
   have hw2:=HB2.out.size
   have hlo:=hA3.lo
   clear h20 h21 hb3 hA3 B2
   go_wp2_with fail
   go_step3
   go_wp2_with fail
   go_loopw [8,27] (λv8 v27 wr=>∃k:Nat,k<=Wk.length/\v27= .int .i64 k/\v8= .int .i64 (kZ Wk R k)/\(kZ Wk R k<1048576\/k=Wk.length)/\aa (lD w2 wr A0 c0 Wk A1 c1 R ga mb (tm R Wk.length) (fs R Wk.length))/\aa (Below w.heap.size w wr)) (λ_ v27 _=>Wk.length-(intOf v27).toNat)
   case atStart=>exact⟨0,Nat.zero_le _,rfl,rfl,.inl (by simp[kZ]),CJ,HB3⟩
   case round=>
    clear CJ HB3 B3 jB h31
    obtain⟨k,hk,rfl,rfl,hlk,HA,HB⟩:=hrel
    by_cases hkl:k<Wk.length
    .obtain⟨ho1,ho2,ho3⟩:=JY (n:=k) (by omega)
     have hll:kZ Wk R (k+1)=max (kZ Wk R k) (jA (tm R Wk.length) Wk (2^k)):=rfl
     have SH:=aa.mk hll
     clear hll
     go_wp2_with fail
     refine(jq (jo hR) hW (2^k) ho3 (by rw[ho2];simpa using hkl) HA.out).mono ?_
     rintro e w5 ⟨rfl,Ru,tL⟩
     have F9:=aa.mk Ru
     have kv:=aa.mk (HB.out.trans ⟨tL.os,tL.tape,tL.output,tL.size,λi hi=>tL.block i (by have:=HB.out.size;omega) (by omega)⟩)
     clear Ru tL HA HB
     obtain⟨lg,Yw⟩:∃x,jA (tm R Wk.length) Wk (2^k)=x:=⟨_,rfl⟩
     obtain⟨l0,hl0⟩:∃x,kZ Wk R k=x:=⟨_,rfl⟩
     obtain⟨l1,hl1⟩:∃x,kZ Wk R (k+1)=x:=⟨_,rfl⟩
     rw[Yw,hl0,hl1] at SH
     rw[Yw,hl0]
     have hmax:(if l0<lg then lg else l0)=l1:=by
      rw[SH.out]
      by_cases h:l0<lg
      .rw[if_pos h];omega
      .rw[if_neg h];omega
     have HL1:=aa.mk hl1
     clear Yw hl0 hl1
     by_cases hf:1048576<=l1
     .have YJ:decide (1048576<=l1)=true:=by simpa using hf
      have yY:1048576<=kZ Wk R Wk.length:=by
       have:=wE Wk R (k+1) (Wk.length-(k+1))
       rw[HL1.out,show k+1+(Wk.length-(k+1))=Wk.length by omega] at this
       omega
      rw[if_pos yY] at mI
      clear hf
      go_wp2_with fail
      rw[Exit.noGoto_ret]
      go_ret2
      rw[mI.out]
      exact⟨rfl,kv.out⟩
     .have YJ:decide (1048576<=l1)=false:=by simpa using hf
      have HF:=aa.mk hf
      clear hf
      go_wp2_with fail
      exact⟨⟨k+1,by omega,by go_num,by rw[HL1.out],.inl (by rw[HL1.out];have:=HF.out;omega),F9,kv⟩,by simp[intOf];omega⟩
    .obtain rfl:k=Wk.length:=by omega
     obtain⟨l1,hl1⟩:∃x,kZ Wk R Wk.length=x:=⟨_,rfl⟩
     rw[hl1] at mI
     rw[hl1]
     have abV:=EU Wk R Wk.length
     rw[hl1] at abV
     clear hlk hl1
     by_cases hf:1048576<=l1
     .have YJ:decide (1048576<=l1)=true:=by simpa using hf
      rw[if_pos hf] at mI
      clear hf
      go_wp2_with fail
      rw[Exit.noGoto_ret]
      go_ret2
      rw[mI.out]
      exact⟨rfl,HB.out⟩
     .have YJ:decide (1048576<=l1)=false:=by simpa using hf
      rw[if_neg hf] at mI
      have hm0:=HA.out.eZ.eZ.map.1
      have hm1:=HA.out.eZ.eZ.map.2.1
      go_wp2_with fail
      refine(tN hN wr).mono ?_
      rintro e w5 ⟨rfl,hb5⟩
      have hfull:2^Wk.length-1<256:=by
       have:=Nat.pow_le_pow_right (n:=2) (by omega) hN
       omega
      have hfp:∀p ∈ places (2^Wk.length-1),p<Wk.length:=λp hp=>by
       have h1:=Nat.ge_two_pow_of_testBit (kC.1 hp).2
       have h2:=Nat.two_pow_pos Wk.length
       exact(Nat.pow_lt_pow_iff_right (by omega)).1 (Nat.lt_of_le_of_lt h1 (by omega))
      have F9:=aa.mk (HA.out.later hb5)
      have kv:=aa.mk (HB.out.trans (hb5.mono HB.out.size))
      clear hb5 HA HB hm0 hm1
      go_wp2_with fail
      refine(jq (jo hR) hW (2^Wk.length-1) hfull hfp F9.out).mono ?_
      rintro e w6 ⟨rfl,hA6,Kw⟩
      have HA6:=aa.mk hA6
      have uz:=aa.mk (kv.out.trans ⟨Kw.os,Kw.tape,Kw.output,Kw.size,λi hi=>Kw.block i (by have:=kv.out.size;omega) (by omega)⟩)
      clear hA6 Kw F9 kv
      have hib:0<=jA (tm R Wk.length) Wk (2^Wk.length-1):=by
       have h1:=(jT (jo hR) 0 (2^Wk.length-1)).1
       have h2:=(ni hW (2^Wk.length-1) hfp _ (Nat.le_refl _)).1
       unfold jA
       omega
      obtain⟨hi,hhi⟩:∃x,jA (tm R Wk.length) Wk (2^Wk.length-1)=x:=⟨_,rfl⟩
      rw[hhi] at mI hib
      rw[hhi]
      clear hhi
      go_wp2_with fail
      have BM:=aR.new w6 [.int .i64 hi,.int .i64 10000] 3
      have HA7:=aa.mk (HA6.out.later (ae (Below.refl _ _) (.cells #[.int .i64 hi,.int .i64 10000] 3)))
      have Gi:=aa.mk (ae uz.out (.cells #[.int .i64 hi,.int .i64 10000] 3))
      refine(oP w6.heap.size hi 10000 _ (by simpa using BM.cell 0) (by simpa using BM.cell 1)).mono ?_
      rintro e w7 ⟨rfl,rfl⟩
      clear BM HA6 uz
      generalize w6.alloc (.cells #[.int .i64 hi,.int .i64 10000] 3)=w7 at HA7 Gi ⊢
      go_wp2_with fail
      go_loopw [8,10] (λv8 v10 wr=>∃low high:Int,v8= .int .i64 low/\v10= .int .i64 high/\0<=low/\low<=1048576/\ -10000000<=high/\high<=10000/\bs (o8 Wk R many) 10000 low high=bs (o8 Wk R many) 10000 l1 (min hi 10000)/\aa (lD w2 wr A0 c0 Wk A1 c1 R ga mb (tm R Wk.length) (fs R Wk.length))/\aa (Below w.heap.size w wr)) (λv8 v10 _=>(intOf v10-intOf v8).toNat)
      case atStart=>exact⟨l1,min hi 10000,rfl,rfl,abV,by omega,by omega,by omega,rfl,HA7,Gi⟩
      case round=>
       clear HA7 Gi
       obtain⟨low,high,rfl,rfl,q0,q1,q2,q3,hbs,HA,HB⟩:=hrel
       have HBS:=aa.mk hbs
       clear hbs
       by_cases hlh:low<high
       .have Yv:decide (low<high)=true:=by simpa using hlh
        have hst:=Vb (o8 Wk R many) low high q0 q3 hlh
        rw[HBS.out] at hst
        have HST:=aa.mk hst
        clear hst HBS
        obtain⟨half,Wz⟩:∃x,(low+high)/2=x:=⟨_,rfl⟩
        have hr1:low<=half:=by omega
        have hr2:half<high:=by omega
        rw[Wz] at HST
        have ZZ:=aa.mk (show o8 Wk R many half=(match split (ll (tm R Wk.length) Wk half) (2^Wk.length-1) with|none=>false|some k=>decide ((k:Int)<=many)) from rfl)
        go_wp2_with fail
        refine(xW half hN (jo hR) hW HA.out).mono ?_
        rintro e w8 ⟨Al,cl,rfl,hA8,YY⟩
        have HA8:=aa.mk hA8
        have HB8:=aa.mk (HB.out.trans ⟨YY.os,YY.tape,YY.output,YY.size,λi hi=>YY.block i (by have:=HB.out.size;omega) (by omega)⟩)
        clear hA8 YY HA HB
        cases hsp:split (ll (tm R Wk.length) Wk half) (2^Wk.length-1) with
        |none=>
         rw[hsp] at ZZ
         rw[ZZ.out,if_neg (by simp)] at HST
         simp only[Option.getD_none,Option.isSome_none]
         go_wp2_with fail
         exact⟨⟨half+1,high,by go_num,rfl,by omega,by omega,by omega,by omega,HST.out.symm,HA8,HB8⟩,by simp[intOf];omega⟩
        |some k=>
         rw[hsp] at ZZ
         simp only[Option.getD_some,Option.isSome_some]
         by_cases Ww:(k:Int)<=many
         .have hkb:decide ((k:Int)<=many)=true:=by simpa using Ww
          simp only[hkb] at ZZ
          rw[ZZ.out,if_pos rfl] at HST
          clear Ww
          go_wp2_with fail
          exact⟨⟨low,half,rfl,by rw[Wz],by omega,by omega,by omega,by omega,HST.out.symm,HA8,HB8⟩,by simp[intOf];omega⟩
         .have hkb:decide ((k:Int)<=many)=false:=by simpa using Ww
          simp only[hkb] at ZZ
          rw[ZZ.out,if_neg (by simp)] at HST
          clear Ww
          go_wp2_with fail
          exact⟨⟨half+1,high,by go_num,rfl,by omega,by omega,by omega,by omega,HST.out.symm,HA8,HB8⟩,by simp[intOf];omega⟩
       .have Yv:decide (low<high)=false:=by simpa using hlh
        go_wp2_with fail
        go_ret2
        rw[mI.out,<- HBS.out,Zn _ _ _ (by omega)]
        exact⟨rfl,HB.out⟩
 .have hcb:(bD Wk R !=0)=true:=by simp[hc]
  go_wp2_with fail
  have zP:kU Wk R many=(0,bD Wk R):=by unfold kU;rw[if_neg hc]
  rw[Exit.noGoto_ret]
  go_ret2
  rw[zP]
  exact⟨rfl,HB1.out⟩
open Go.RowKit Go.Shelf au YtkjoilgpmngndaaGreatW.aj
def oU(l:List Int):Bool:=(eD.f (l.length+1) l).getD false
theorem Js(l:List Int)(hl:l.length<1000000):∀(d:Nat) (i:Nat),1<=i->l.length+1-i<=d->∃r,eD.l0 (d+1) l i=some r:=by
 intro d
 induction d with
 |zero=>
  intro i h1 h2
  unfold eD.l0
  rw[if_neg (by omega)]
  exact⟨_,rfl⟩
 |succ d ih=>
  intro i h1 h2
  unfold eD.l0
  by_cases h:(i:Int)<l.length
  .have e1:wrap64 ((i:Int)-1)=(i:Int)-1:=by unfold wrap64;omega
   have e2:wrap64 ((i:Int)+1)=((i+1:Nat):Int):=by unfold wrap64;omega
   rw[if_pos h,if_pos (by omega),e1,if_pos (by omega),if_pos (by omega),e2]
   by_cases h3:rd l (i:Int)<=rd l ((i:Int)-1)
   .rw[if_pos h3];exact⟨_,rfl⟩
   .rw[if_neg h3];exact ih (i+1) (by omega) (by omega)
  .rw[if_neg h]
   exact⟨_,rfl⟩
theorem GQ(l:List Int)(hl:l.length<1000000):eD.f (l.length+1) l=some (oU l):=by
 obtain⟨r,h⟩:=Js l hl l.length 1 (by omega) (by omega)
 have h':eD.f (l.length+1) l=some r:=h
 unfold oU
 rw[h']
 rfl
set_option maxHeartbeats 1000000 in
theorem IC(v:Int)(A:Option Addr)(c:Nat)(xs:List Int)(w:World)
  (hr:Kd.C (Kd.int .i64) w A xs.length xs) (hlen:xs.length<=9223372036854775807):
  Calls Tryz.prog 129 #[.slice A xs.length c,.int .i64 v] w λe w'=>e= .returned (.int .i64 (fi (λy=>v==y) xs 0))/\Below w.heap.size w w':=by
 have HR:=aa.mk hr
 clear hr
 go_enter Tryz.func129,Tryz.ntmps129
 go_wp2
 go_loopw [8] (λv8 wr=>∃k:Nat,k<=xs.length/\v8= .int .i64 k/\aa (Below w.heap.size w wr)/\aa (fi (λy=>v==y) xs 0=fi (λy=>v==y) (xs.drop k) k)) (λv8 _=>xs.length-(intOf v8).toNat)
 case atStart=>exact⟨0,Nat.zero_le _,rfl,⟨Below.refl _ _⟩,⟨rfl⟩⟩
 case round=>
  obtain⟨k,hk,rfl,HB,HF⟩:=hrel
  by_cases hlt:k<xs.length
  .obtain⟨ad,e,h0⟩:=Kd.cK HR.out k (by omega) (by omega)
   cases e
   have hb:=HB.out
   replace h0:=(hb.cell (World.block_lt_of_cell? w _ h0)).trans h0
   simp only[Int.toNat_natCast] at h0
   have hfs:=aa.mk (nC (λy=>v==y) xs k 0 hlt)
   rw[show xs.getD k 0=rd xs k from by simp[rd,Int.toNat_natCast]] at hfs
   obtain⟨y,hy⟩:∃y,rd xs k=y:=⟨_,rfl⟩
   rw[hy] at h0 hfs
   clear hb HR hy
   cases hv:(v==y)
   .go_wp2_with fail
    go_roundw
    case rel=>exact⟨k+1,by omega,by go_num,HB,⟨by rw[HF.out,hfs.out,if_neg (by simp[hv])]⟩⟩
    case measure=>simp[intOf];omega
   .go_wp2_with fail
    go_ret
    exact⟨fC (by rw[HF.out,hfs.out,if_pos (by simp[hv])]),HB.out⟩
  .have hk':k=xs.length:=by omega
   subst hk'
   go_wp2
   go_ret
   exact⟨fC (by rw[HF.out,List.drop_length];rfl),HB.out⟩
theorem CK(v:Int)(A:Option Addr)(c:Nat)(xs:List Int)(w:World)
  (hr:Kd.C (Kd.int .i64) w A xs.length xs) (hlen:xs.length<=9223372036854775807):
  Calls Tryz.prog 99 #[.slice A xs.length c,.int .i64 v] w λe w'=>e= .returned (.bool (xs.any (λy=>v==y)))/\Below w.heap.size w w':=by
 go_enter Tryz.func99,Tryz.ntmps99
 go_wp2_with fail
 refine(IC v A c xs w hr hlen).mono ?_
 rintro e w' ⟨rfl,hb⟩
 have hf:=aa.mk (jY (λy=>v==y) xs 0)
 obtain⟨j,hj⟩:∃j,fi (λy=>v==y) xs 0=j:=⟨_,rfl⟩
 rw[hj] at hf ⊢
 clear hj
 go_wp2
 go_ret
 exact⟨bP hf.out,hb⟩
theorem Dj(g:Nat)(v:Int)(A:Option Addr)(c:Nat)(xs:List Int)(u:Value)(w:World)
  (hB:aR w g [.slice A xs.length c,u] 80) (hr:Kd.C (Kd.int .i64) w A xs.length xs) (hlen:xs.length<=9223372036854775807):
  Calls Tryz.prog 98 #[.int .i64 v,.pointer (some ⟨g,0,none⟩)] w λe w'=>e= .returned (.bool (xs.any (λy=>v==y)))/\Below w.heap.size w w':=by
 have h0:=hB.cell 0
 simp only[List.getElem?_cons_zero] at h0
 have hg:=hB.lt
 go_enter Tryz.func98,Tryz.ntmps98
 go_wp2_with fail
 refine(CK v A c xs w hr hlen).mono ?_
 rintro e w' ⟨rfl,hb⟩
 obtain⟨b,hb1⟩:∃b,xs.any (λy=>v==y)=b:=⟨_,rfl⟩
 rw[hb1]
 have HX:=aa.mk hb1
 clear hb1
 go_wp2
 go_ret
 exact⟨bP HX.out.symm,hb⟩
def setAt(l:List Int)(k:Nat):Nat:=(l.take k).foldl (λs n=>s|||2^n.toNat) 0
theorem Jn(l:List Int):setAt l 0=0:=rfl
theorem AZ(l:List Int)(k:Nat)(h:k<l.length):setAt l (k+1)=setAt l k|||2^(l.getD k 0).toNat:=by
 unfold setAt
 rw[List.take_succ_eq_append_getElem h,List.foldl_append]
 simp[List.getD,h]
theorem vZ{l:List Int}{N:Nat}(hN:N<=8)(hl:∀x ∈ l,0<=x/\x<N):∀k,k<=l.length->∀p,(setAt l k).testBit p=true->p<N
 |0,_,p,h=>by simp[Jn] at h
 |k+1,hk,p,h=>by
  rw[AZ l k (by omega),Nat.testBit_or] at h
  rw[Bool.or_eq_true] at h
  rcases h with h|h
  .exact vZ hN hl k (by omega) p h
  .have hm:=hl (l.getD k 0) (by
    have:l.getD k 0=l[k]:=by simp[List.getD,show k<l.length by omega]
    rw[this];exact List.getElem_mem _)
   rw[Nat.testBit_two_pow] at h
   have:=of_decide_eq_true h
   omega
theorem GI{l:List Int}{N:Nat}(hN:N<=8)(hl:∀x ∈ l,0<=x/\x<N)(k:Nat)(hk:k<=l.length):setAt l k<256:=by
 have:setAt l k<2^8:=Nat.lt_pow_two_of_testBit _ (λi hi=>by
  cases h:(setAt l k).testBit i
  .rfl
  .have:=vZ hN hl k hk i h
   omega)
 simpa using this
theorem X0:∀a:Fin 256,∀n:Fin 8,Go.bits .or .i64 (a.1:Int) ((2^n.1:Nat):Int)=((a.1|||2^n.1:Nat):Int):=by decide +kernel
theorem aba{a n:Nat}(ha:a<256)(hn:n<8):Go.bits .or .i64 (a:Int) ((2^n:Nat):Int)=((a|||2^n:Nat):Int):=X0 ⟨a,ha⟩ ⟨n,hn⟩
def nW(W:List dP)(R:List aV)(l:List Int):Int×Int:=
 if bD W R=0 then(if(oU l&&l.all (ib W.length))=true then(if 1048576<=jA (tm R W.length) W (setAt l l.length) then(0,7) else(jA (tm R W.length) W (setAt l l.length),0)) else(0,2)) else(0,bD W R)
theorem wM{A0:Option Addr}{c0:Nat}{Wk:List dP}{A1:Option Addr}{c1:Nat}{R:List aV}{w:World}(l:List Int){Al:Option Addr}{cl:Nat}(hl:Kd.C (Kd.int .i64) w Al l.length l)(hcl:l.length<=cl)(hll:l.length<1000000)(h:IsMap w A0 c0 Wk A1 c1 R):
  Calls Tryz.prog 28 #[.agg #[.slice A0 Wk.length c0,.slice A1 R.length c1],.slice Al l.length cl] w λe w'=>(∃a1 n1 d1 a2 n2 d2,e= .returned (.tuple #[.agg #[.slice a1 n1 d1,.slice a2 n2 d2],.int .i64 (nW Wk R l).1,.int .i64 (nW Wk R l).2])/\((nW Wk R l).2=0->Wk.length=1->n1=1))/\Below w.heap.size w w':=by
 have H:=aa.mk h
 have HL:=aa.mk hl
 clear h hl
 go_enter Tryz.func28,Tryz.ntmps28
 go_wp2_with fail
 have hb0:=ae (ae (Below.refl w.heap.size w) (.cells #[.slice A0 Wk.length c0,.slice A1 R.length c1] 78)) (.cells #[.slice none 0 0,.slice none 0 0] 80)
 have B2:=(aR.new w [.slice A0 Wk.length c0,.slice A1 R.length c1] 78).alloc (.cells #[.slice none 0 0,.slice none 0 0] 80)
 have B4:=aR.new (w.alloc (.cells #[.slice A0 Wk.length c0,.slice A1 R.length c1] 78)) [.slice none 0 0,.slice none 0 0] 80
 have HB0:=aa.mk hb0
 refine(dM (H.out.below hb0)).mono ?_
 rintro e w1 ⟨rfl,hb1⟩
 have yC:=aa.mk (B2.below hb1)
 have LK:=aa.mk (show aR w1 (w.heap.size+1) [.slice none 0 0,.slice none 0 0] 80 by simpa using B4.below hb1)
 have HB1:=aa.mk (hb0.trans (hb1.mono (by simp;omega)))
 have hs1:w.heap.size+2<=w1.heap.size:=by simpa using hb1.size
 have h20:=yC.out.cell 0
 have h21:=yC.out.cell 1
 have lH:=LK.out.cell 0
 have oI:=LK.out.cell 1
 have o6:=LK.out.frozen 0
 have tH:=LK.out.frozen 1
 simp only[eP,eO] at h20 h21 lH oI
 clear hb0 hb1 B2 B4 HB0
 by_cases hc:bD Wk R=0
 .have hcb:(bD Wk R !=0)=false:=by simp[hc]
  obtain⟨hN0,hN,_,hW,hR,_⟩:=mD hc
  have mI:=aa.mk (show nW Wk R l=((if(oU l&&l.all (ib Wk.length))=true then(if 1048576<=jA (tm R Wk.length) Wk (setAt l l.length) then(0,7) else(jA (tm R Wk.length) Wk (setAt l l.length),0)) else(0,2)):Int×Int) by unfold nW;rw[if_pos hc])
  rw[hc]
  clear hc
  go_wp2_with fail
  refine(eD.calls (l.length+1) Al cl l (oU l) w1 (Kd.av HL.out HB1.out) hcl (GQ l hll)).mono ?_
  rintro e w2 ⟨rfl,hd2⟩
  have hb2:=hd2.below
  have HB2:=aa.mk (HB1.out.trans (hb2.mono HB1.out.size))
  have Qb:=aa.mk (yC.out.below hb2)
  have zJ:=aa.mk (LK.out.below hb2)
  have hs2:=Nat.le_trans hs1 hb2.size
  clear hb2 hd2 yC LK h20 h21 lH oI o6 tH HB1
  have h20:=Qb.out.cell 0
  have h21:=Qb.out.cell 1
  have lH:=zJ.out.cell 0
  have oI:=zJ.out.cell 1
  have o6:=zJ.out.frozen 0
  have tH:=zJ.out.frozen 1
  simp only[eP,eO] at h20 h21 lH oI
  cases hrs:oU l
  .rw[hrs,Bool.false_and,if_neg (by simp)] at mI
   go_wp2_with fail
   refine bodyPost_ret (nI rfl _ _ (w.heap.size+1) 80 #[.slice none 0 0,.slice none 0 0] (0,0) _ rfl (zJ.out.set2 _ _) Tryz.underlying80 rfl (by kernel_rfl)) rfl ?_
   rw[mI.out]
   exact⟨⟨_,_,_,_,_,_,rfl,λh=>absurd h (by decide)⟩,(HB2.out.setCell (p:=⟨w.heap.size+1,0,none⟩) (by simp) _).setCell (p:=⟨w.heap.size+1,1,none⟩) (by simp) _⟩
  .rw[hrs,Bool.true_and] at mI
   clear hrs
   go_wp2_with fail
   refine(Ah 63 #[.agg #[.slice A0 Wk.length c0,.slice A1 R.length c1]] #[] (enters Tryz.func63 (by kernel_rfl) rfl) (ib Wk.length) Al cl l _ (Kd.av HL.out HB2.out) (by omega) ?_).mono ?_
   .intro W x hW
    exact lS x (H.out.below (HB2.out.trans (hW.mono HB2.out.size)))
   rintro e w3 ⟨rfl,hb3⟩
   have HB3:=aa.mk (HB2.out.trans (hb3.mono HB2.out.size))
   have LM:=aa.mk (Qb.out.below hb3)
   have I9:=aa.mk (zJ.out.below hb3)
   have hs3:=Nat.le_trans hs2 hb3.size
   clear hb3 Qb zJ h20 h21 lH oI o6 tH HB2 hs2 hs1
   have h20:=LM.out.cell 0
   have h21:=LM.out.cell 1
   have lH:=I9.out.cell 0
   have oI:=I9.out.cell 1
   have o6:=I9.out.frozen 0
   have tH:=I9.out.frozen 1
   simp only[eP,eO] at h20 h21 lH oI
   cases hal:l.all (ib Wk.length)
   .rw[hal,if_neg (by simp)] at mI
    go_wp2_with fail
    refine bodyPost_ret (nI rfl _ _ (w.heap.size+1) 80 #[.slice none 0 0,.slice none 0 0] (0,0) _ rfl (I9.out.set2 _ _) Tryz.underlying80 rfl (by kernel_rfl)) rfl ?_
    rw[mI.out]
    exact⟨⟨_,_,_,_,_,_,rfl,λh=>absurd h (by decide)⟩,(HB3.out.setCell (p:=⟨w.heap.size+1,0,none⟩) (by simp) _).setCell (p:=⟨w.heap.size+1,1,none⟩) (by simp) _⟩
   .rw[hal,if_pos rfl] at mI
    have HP:=aa.mk (show ∀x ∈ l,0<=x/\x<Wk.length from λx hx=>qQ (List.all_eq_true.1 hal x hx))
    clear hal h20 h21 lH oI o6 tH
    go_wp2_with fail
    go_loopw [9,33] (λv9 v33 wr=>∃k:Nat,k<=l.length/\v33= .int .i64 k/\v9= .int .i64 (setAt l k:Nat)/\wr=w3) (λ_ v33 _=>l.length-(intOf v33).toNat)
    case atStart=>exact⟨0,Nat.zero_le _,rfl,rfl,rfl⟩
    case round=>
     obtain⟨k,hk,rfl,rfl,rfl⟩:=hrel
     by_cases hkl:k<l.length
     .obtain⟨ad,e,hx⟩:=Kd.cK (Kd.av HL.out HB3.out) (k:Int) (by omega) (by omega)
      cases e
      simp only[Int.toNat_natCast] at hx
      have hxm:=HP.out (rd l (k:Int)) (by
       have e:rd l (k:Int)=l[k]:=by simp[rd,List.getD,hkl]
       rw[e];exact List.getElem_mem hkl)
      have hst:=AZ l k hkl
      rw[show l.getD k 0=rd l (k:Int) by simp[rd]] at hst
      have hlt:=GI hN HP.out k hk
      obtain⟨x,hxx⟩:∃x,rd l (k:Int)=x:=⟨_,rfl⟩
      rw[hxx] at hx hxm hst
      obtain⟨n,rfl⟩:∃n:Nat,x=n:=⟨x.toNat,by omega⟩
      simp only[Int.toNat_natCast] at hst
      have PX:n<8:=by omega
      have ho1:=(JY PX).1
      have hor:=aba hlt PX
      rw[show((2^n:Nat):Int)=(2:Int)^n by simp] at hor
      have HOR:=aa.mk hor
      have hnp:(0:Int)<=n:=by omega
      have HST:=aa.mk hst
      obtain⟨sk,hsk⟩:∃s,setAt l k=s:=⟨_,rfl⟩
      rw[hsk] at hor HST HOR
      rw[hsk]
      clear hst hxx hsk hlt
      go_wp2_with fail
      go_roundw
      case rel=>exact⟨k+1,by omega,by go_num,by rw[HST.out],trivial⟩
      case measure=>simp[intOf];omega
     .obtain rfl:k=l.length:=by omega
      have h20:=LM.out.cell 0
      have h21:=LM.out.cell 1
      simp only[eP,eO] at h20 h21
      go_wp2_with fail
      refine(nO (H.out.below HB3.out) hN hR).mono ?_
      rintro e w4 ⟨ga,mb,rfl,hga,WM,hb4⟩
      have HA4:=aa.mk WM
      have jd:=aa.mk (HB3.out.trans (hb4.mono HB3.out.size))
      have DX:=aa.mk (I9.out.below hb4)
      have hs4:=Nat.le_trans hs3 hb4.size
      have hlt:=GI hN HP.out l.length (Nat.le_refl _)
      have HPS:=aa.mk (show ∀p ∈ places (setAt l l.length),p<Wk.length from λp hp=>vZ hN HP.out l.length (Nat.le_refl _) p (kC.1 hp).2)
      obtain⟨s,hs⟩:∃s,setAt l l.length=s:=⟨_,rfl⟩
      rw[hs] at mI HPS hlt ⊢
      clear hs WM hb4 h20 h21 I9
      go_wp2_with fail
      refine(jq (jo hR) hW s hlt HPS.out HA4.out).mono ?_
      rintro e w5 ⟨rfl,Ru,tL⟩
      have hlo:=HA4.out.lo
      have hgt:=HA4.out.gt
      have hmb:=HA4.out.eZ.memo.lt
      have aou:=HA4.out.eZ.eZ.lt
      have hw3:=HB3.out.size
      have kv:=aa.mk (jd.out.trans ⟨tL.os,tL.tape,tL.output,tL.size,λi hi=>tL.block i (by omega) (by omega)⟩)
      have AA:=aa.mk (DX.out.move (tL.block (w.heap.size+1) (by omega) (by omega)))
      have F9:=aa.mk Ru
      have hs5:=Nat.le_trans hs4 tL.size
      have hws:=ni hW s HPS.out (places s).length (Nat.le_refl _)
      have VA:=aa.mk (show(rest (tm R Wk.length) 0 s).1<=jA (tm R Wk.length) Wk s by unfold jA;omega)
      obtain⟨lg,Yw⟩:∃x,jA (tm R Wk.length) Wk s=x:=⟨_,rfl⟩
      rw[Yw] at mI VA
      rw[Yw]
      have h50:=AA.out.cell 0
      have CY:=AA.out.cell 1
      have aii:=AA.out.frozen 0
      have aih:=AA.out.frozen 1
      simp only[eP,eO] at h50 CY
      clear Yw hws Ru tL HA4 jd DX
      by_cases yY:1048576<=lg
      .have YJ:decide (1048576<=lg)=true:=by simpa using yY
       rw[if_pos yY] at mI
       go_wp2_with fail
       refine bodyPost_ret (nI rfl _ _ (w.heap.size+1) 80 #[.slice none 0 0,.slice none 0 0] (0,0) _ rfl (AA.out.set2 _ _) Tryz.underlying80 rfl (by kernel_rfl)) rfl ?_
       rw[mI.out]
       exact⟨⟨_,_,_,_,_,_,rfl,λh=>absurd h (by decide)⟩,(kv.out.setCell (p:=⟨w.heap.size+1,0,none⟩) (by simp) _).setCell (p:=⟨w.heap.size+1,1,none⟩) (by simp) _⟩
      .have YJ:decide (1048576<=lg)=false:=by simpa using yY
       rw[if_neg yY] at mI
       go_wp2_with fail
       refine(Jg hN hN0 (jo hR) (Gl hR) s hlt HPS.out (by have:=VA.out;omega) F9.out).mono ?_
       rintro e w6 ⟨⟨a1,n1,d1,a2,n2,d2,rfl,hn1⟩,hA6,Kw⟩
       have HN1:=aa.mk hn1
       clear hn1
       have Ri:=F9.out.gt
       have uz:=aa.mk (kv.out.trans ⟨Kw.os,Kw.tape,Kw.output,Kw.size,λi hi=>Kw.block i (by omega) (by omega)⟩)
       have I8:=aa.mk (AA.out.move (Kw.block (w.heap.size+1) (by omega) (by omega)))
       clear h50 CY aii aih AA hA6 F9 kv
       have hs6:=Nat.le_trans hs5 Kw.size
       clear Kw
       have xN:=I8.out.cell 0
       have DD:=I8.out.cell 1
       have Y4:=I8.out.frozen 0
       have Y3:=I8.out.frozen 1
       simp only[eP,eO] at xN DD
       go_wp2_with fail
       refine bodyPost_ret (nI rfl _ _ (w.heap.size+1) 80 #[.slice a1 n1 d1,.slice a2 n2 d2] (0,0) _ rfl (I8.out.set2 _ _) Tryz.underlying80 rfl (by kernel_rfl)) rfl ?_
       rw[mI.out]
       exact⟨⟨_,_,_,_,_,_,rfl,λ_=>HN1.out⟩,(uz.out.setCell (p:=⟨w.heap.size+1,0,none⟩) (by simp) _).setCell (p:=⟨w.heap.size+1,1,none⟩) (by simp) _⟩
 .have hcb:(bD Wk R !=0)=true:=by simp[hc]
  have mI:=aa.mk (show nW Wk R l=(0,bD Wk R) by unfold nW;rw[if_neg hc])
  go_wp2_with fail
  refine bodyPost_ret (nI rfl _ _ (w.heap.size+1) 80 #[.slice none 0 0,.slice none 0 0] (0,0) _ rfl (LK.out.set2 _ _) Tryz.underlying80 rfl (by kernel_rfl)) rfl ?_
  rw[mI.out]
  exact⟨⟨_,_,_,_,_,_,rfl,λh=>absurd h hc⟩,(HB1.out.setCell (p:=⟨w.heap.size+1,0,none⟩) (by simp) _).setCell (p:=⟨w.heap.size+1,1,none⟩) (by simp) _⟩
def wk.T8:Bool×List (List Nat×List Nat):=(true,[([],[]),([],[]),([1],[1]),([],[]),([3],[3]),([2,4],[2,4]),([5],[5]),([],[]),([7],[7]),([],[]),([8,9],[8,9]),([10],[10]),([0,6,11],[0,6,11]),([12],[12])])
def wk.B8:List Nat:=[0,0,2,0,8,30,62,0,128,0,896,1920,4095,8191]
theorem wk.Jh:dW .any (opsOf Tryz.f57 8)=wk.T8:=by kernel_rfl
theorem wk.Co:bJ wk.T8.2 wk.B8=true:=by kernel_rfl
def q9(R:List aV)(l:List Int)(k:Nat):Bool:=(List.range k).all (λi=>!decide (il R (rd l (i:Int)) (rd l ((i+1:Nat):Int))<0))
theorem J7(R:List aV)(l:List Int)(k:Nat):q9 R l (k+1)=(q9 R l k&&!decide (il R (rd l (k:Int)) (rd l ((k+1:Nat):Int))<0)):=by
 unfold q9
 rw[List.range_succ,List.all_append]
 simp
theorem Hq{R:List aV}{l:List Int}{k n:Nat}(h:il R (rd l (k:Int)) (rd l ((k+1:Nat):Int))<0)(hk:k<n):q9 R l n=false:=by
 unfold q9
 rw[List.all_eq_false]
 exact⟨k,by simpa using hk,by simpa using h⟩
def eQ(R:List aV)(l cs:List Int):Int:=
 if 64<l.length then 3 else if l.length=0 then 2 else if rd l 0≠0 then 2 else if rd l ((l.length:Int)-1)≠0 then 2 else if q9 R l (l.length-1)=false then 2 else if oU cs=false then 2 else if cs.all (λv=>l.any (λy=>v==y))=true then 0 else 2
theorem vU{A0:Option Addr}{c0:Nat}{Wk:List dP}{A1:Option Addr}{c1:Nat}{R:List aV}{w:World}(h:IsMap w A0 c0 Wk A1 c1 R)
  (l cs:List Int) {Al Ac:Option Addr} {cl cc:Nat} (hl:Kd.C (Kd.int .i64) w Al l.length l) (hll:l.length<=cl) (hlb:l.length<1000000) (hcs:Kd.C (Kd.int .i64) w Ac cs.length cs) (hcl:cs.length<=cc) (hcb:cs.length<1000000):
  Calls Tryz.prog 57 #[.agg #[.slice A0 Wk.length c0,.slice A1 R.length c1],.agg #[.slice Al l.length cl,.slice Ac cs.length cc]] w λe w'=>e= .returned (.int .i64 (eQ R l cs))/\Below w.heap.size w w':=by
 have H:=aa.mk h
 have HL:=aa.mk hl
 have Nv:=aa.mk hcs
 clear h hl hcs
 go_enter Tryz.func57,Tryz.ntmps57
 have hb0:=ae (ae (Below.refl w.heap.size w) (.cells #[.slice A0 Wk.length c0,.slice A1 R.length c1] 78)) (.cells #[.slice Al l.length cl,.slice Ac cs.length cc] 80)
 have B2:=aa.mk ((aR.new w [.slice A0 Wk.length c0,.slice A1 R.length c1] 78).alloc (.cells #[.slice Al l.length cl,.slice Ac cs.length cc] 80))
 have B3:=aa.mk (show aR _ (w.heap.size+1) _ _ by simpa using aR.new (w.alloc (.cells #[.slice A0 Wk.length c0,.slice A1 R.length c1] 78)) [.slice Al l.length cl,.slice Ac cs.length cc] 80)
 have HB:=aa.mk hb0
 clear hb0
 have jB:=B3.out.cell 0
 have h31:=B3.out.cell 1
 simp only[eP,eO] at jB h31
 by_cases hbig:64<l.length
 .have hb:decide (64<(l.length:Int))=true:=by simp;omega
  have IE:eQ R l cs=3:=by unfold eQ;rw[if_pos hbig]
  go_wp2_with fail
  go_ret
  rw[IE]
  exact⟨rfl,HB.out⟩
 .have hb:decide (64<(l.length:Int))=false:=by simp;omega
  by_cases hz:l.length=0
  .have IE:eQ R l cs=2:=by unfold eQ;rw[if_neg hbig,if_pos hz]
   have hz1:((l.length:Int)==0)=true:=by simp[hz]
   clear hz
   go_wp2_with fail
   go_ret
   rw[IE]
   exact⟨rfl,HB.out⟩
  .have hz1:((l.length:Int)==0)=false:=by rw[beq_eq_false_iff_ne];omega
   have hlz:(0:Int)<l.length:=by omega
   have ahx:(0:Int)<=(l.length:Int)-1:=by omega
   have ahw:(l.length:Int)-1<l.length:=by omega
   have hlw:wrap64 ((l.length:Int)-1)=(l.length:Int)-1:=by unfold wrap64;omega
   obtain⟨ad,e,ha⟩:=Kd.cK (Kd.av HL.out HB.out) 0 (by omega) (by omega)
   cases e
   obtain⟨ad',e,hz'⟩:=Kd.cK (Kd.av HL.out HB.out) ((l.length:Int)-1) (by omega) (by omega)
   cases e
   rw[show ad.add (Int.toNat 0)=ad from by cases ad;simp[Addr.add]] at ha
   rw[show((l.length:Int)-1).toNat=l.length-1 by omega] at hz'
   obtain⟨x0,hx0⟩:∃x,rd l 0=x:=⟨_,rfl⟩
   obtain⟨x1,hx1⟩:∃x,rd l ((l.length:Int)-1)=x:=⟨_,rfl⟩
   rw[hx0] at ha
   rw[hx1] at hz'
   by_cases he0:x0=0
   .have heb:(x0 !=0)=false:=by simp[he0]
    by_cases he1:x1=0
    .have ab0:(x1 !=0)=false:=by simp[he1]
     have IE:=aa.mk (show eQ R l cs=if q9 R l (l.length-1)=false then 2 else if oU cs=false then 2 else if cs.all (λv=>l.any (λy=>v==y))=true then 0 else 2 by unfold eQ;rw[if_neg hbig,if_neg hz,if_neg (by rw[hx0];simp[he0]),if_neg (by rw[hx1];simp[he1])])
     clear he0 he1 hx0 hx1
     go_wp2_with fail
     clear ha hz' hz1 heb ab0 hlw ahx ahw hb jB h31
     have hs0:w.heap.size+2<=((w.alloc (.cells #[.slice A0 Wk.length c0,.slice A1 R.length c1] 78)).alloc (.cells #[.slice (some ad) l.length cl,.slice Ac cs.length cc] 80)).heap.size:=by simp
     generalize(w.alloc (.cells #[.slice A0 Wk.length c0,.slice A1 R.length c1] 78)).alloc (.cells #[.slice (some ad) l.length cl,.slice Ac cs.length cc] 80)=w2 at B2 B3 HB hs0 ⊢
     go_loopw [5] (λv5 wr=>∃(j:Nat) (i:Int),i=(j:Int)+1/\j+1<=l.length/\v5= .int .i64 i/\aa (q9 R l j=true)/\aa (Below w2.heap.size w2 wr)) (λv5 _=>l.length-(intOf v5).toNat)
     case atStart=>exact⟨0,1,rfl,by omega,rfl,⟨rfl⟩,⟨Below.refl _ _⟩⟩
     case round=>
      obtain⟨j,i,hi,hjl,rfl,HJ,HR⟩:=hrel
      have F8:=aa.mk (HB.out.trans (HR.out.mono HB.out.size))
      have B2r:=aa.mk (B2.out.below HR.out)
      have Xz:=aa.mk (B3.out.below HR.out)
      have yT:=HR.out.size
      have h20:=B2r.out.cell 0
      have h21:=B2r.out.cell 1
      have jB:=Xz.out.cell 0
      have h31:=Xz.out.cell 1
      simp only[eP,eO] at h20 h21 jB h31
      by_cases hij:i<l.length
      .obtain⟨ad0,e,hp⟩:=Kd.cK (Kd.av HL.out F8.out) (j:Int) (by omega) (by omega)
       cases e
       obtain⟨ad0,e,hq⟩:=Kd.cK (Kd.av HL.out F8.out) i (by omega) (by omega)
       cases e
       simp only[Int.toNat_natCast] at hp
       have hi0:(0:Int)<=i:=by omega
       have hj0:(j:Int)<l.length:=by omega
       have hw:wrap64 (i-1)=(j:Int):=by unfold wrap64;omega
       have hi1:i=((j+1:Nat):Int):=by omega
       obtain⟨y0,hy0⟩:∃x,rd l (j:Int)=x:=⟨_,rfl⟩
       obtain⟨y1,hy1⟩:∃x,rd l i=x:=⟨_,rfl⟩
       have hls:=J7 R l j
       have hlf:=Hq (R:=R) (l:=l) (k:=j) (n:=l.length-1)
       rw[<- hi1] at hls hlf
       rw[hy0] at hp hls hlf
       rw[hy1] at hq hls hlf
       have SG:=aa.mk hls
       have ZW:=aa.mk hlf
       have HI:=aa.mk hi
       clear hls hlf hy0 hy1 hi1 hi
       go_wp2_with fail
       refine dB (n:=14) (S:=λw'=>w'.cell? ⟨w.heap.size,0,none⟩=some (.slice A0 Wk.length c0)/\w'.cell? ⟨w.heap.size,1,none⟩=some (.slice A1 R.length c1)/\w'.cell? ⟨w.heap.size+1,0,none⟩=some (.slice (some ad) l.length cl)/\w'.cell? (ad.add j)=some (.int .i64 y0)/\w'.cell? (ad.add i.toNat)=some (.int .i64 y1)) (ds:=[12]) #[O,O,O,O,O,O,O,O,O,O,O,O,O,O] (by kernel_rfl) rfl rfl ⟨h20,h21,jB,hp,hq⟩ (λhHeld=>?_);refine bu wk.Jh wk.Co (λak bN=>?_)
       have HH:=aa.mk (H.out.below (aM F8.out))
       have PI:=aa.mk (aM HR.out)
       clear F8 HR B2r Xz h20 h21 jB h31 hp hq
       generalize wr.drew=wd at HH PI hHeld ⊢
       refine dG 0 40 #[I,O,O,O,O,O,O,O,O,O,O,O,O,O] ak bN hHeld (hy:=by(rintro w' ⟨s0,s1,s2,s3,s4⟩;go_simp;with_reducible rfl)) (h:=?_)
       refine aZ 1 41 #[I,I,O,O,O,O,O,O,O,O,O,O,O,O] ak (h:=?_)
       refine dG 2 42 #[I,I,I,O,O,O,O,O,O,O,O,O,O,O] ak bN hHeld (hy:=by(rintro w' ⟨s0,s1,s2,s3,s4⟩;go_simp;with_reducible rfl)) (h:=?_)
       refine aZ 3 43 #[I,I,I,I,O,O,O,O,O,O,O,O,O,O] ak (h:=?_)
       refine aZ 4 44 #[I,I,I,I,I,O,O,O,O,O,O,O,O,O] ak (h:=?_)
       refine aZ 5 45 #[I,I,I,I,I,I,O,O,O,O,O,O,O,O] ak (h:=?_)
       refine dG 6 46 #[I,I,I,I,I,I,I,O,O,O,O,O,O,O] ak bN hHeld (hy:=by(rintro w' ⟨s0,s1,s2,s3,s4⟩;go_simp;with_reducible rfl)) (h:=?_)
       refine aZ 7 47 #[I,I,I,I,I,I,I,I,O,O,O,O,O,O] ak (h:=?_)
       refine dG 8 48 #[I,I,I,I,I,I,I,I,I,O,O,O,O,O] ak bN hHeld (hy:=by(rintro w' ⟨s0,s1,s2,s3,s4⟩;go_simp;with_reducible rfl)) (h:=?_)
       refine aZ 9 49 #[I,I,I,I,I,I,I,I,I,I,O,O,O,O] ak (h:=?_)
       refine aZ 10 50 #[I,I,I,I,I,I,I,I,I,I,I,O,O,O] ak (h:=?_)
       refine dG 11 51 #[I,I,I,I,I,I,I,I,I,I,I,I,O,O] ak bN hHeld (hy:=by(rintro w' ⟨s0,s1,s2,s3,s4⟩;go_simp;with_reducible rfl)) (h:=?_)
       refine dE (i:=12) (N:=some 52) #[I,I,I,I,I,I,I,I,I,I,I,I,I,O] rfl rfl (aI ak.out (by kernel_rfl)) (by decide) (λK hK=>?_)
       refine bW Tryz.func97 (by kernel_rfl) rfl #[.agg #[.slice A0 Wk.length c0,.slice A1 R.length c1],.int .i64 y0,.int .i64 y1] (by rfl) rfl rfl (by(try simp only[List.map_toArray,List.map_cons,List.map_nil]);rfl) ?_
       refine(wo y0 y1 HH.out).mono ?_
       rintro e_ w_ ⟨rfl,hbx⟩
       refine⟨_,rfl,hK.out _ _ ?_⟩
       clear hK K
       have HRx:=aa.mk (PI.out.trans (hbx.mono PI.out.size))
       clear hbx HH PI
       refine iY ?_
       refine aZ 13 53 #[I,I,I,I,I,I,I,I,I,I,I,I,I,I] ak (h:=?_)
       refine dK (bG ak.out (by kernel_rfl)) ?_
       generalize il R y0 y1=ri at SG ZW ⊢
       by_cases Yq:ri<0
       .have hrb:decide (ri<0)=true:=by simpa using Yq
        go_wp2_with fail
        go_ret
        rw[IE.out,ZW.out Yq (by have:=HI.out;omega),if_pos rfl]
        exact⟨rfl,HB.out.trans (HRx.out.mono HB.out.size)⟩
       .have hrb:decide (ri<0)=false:=by simpa using Yq
        go_wp2_with fail
        go_roundw
        case rel=>exact⟨j+1,i+1,by have:=HI.out;omega,by have:=HI.out;omega,by have:=HI.out;go_num,⟨by rw[SG.out,HJ.out,hrb];rfl⟩,HRx⟩
        case measure=>have:=HI.out;simp[intOf];omega
      .have hij1:decide (i<(l.length:Int))=false:=by simpa using hij
       have SH:=aa.mk (show l.length-1=j by omega)
       have HI:=aa.mk hi
       clear hi hij
       go_wp2_with fail
       refine(eD.calls (cs.length+1) Ac cc cs (oU cs) wr (Kd.av Nv.out F8.out) hcl (GQ cs hcb)).mono ?_
       rintro e w5 ⟨rfl,hd5⟩
       have hb5:=hd5.below
       have kv:=aa.mk (F8.out.trans (hb5.mono F8.out.size))
       have EA:=aa.mk (Xz.out.below hb5)
       have hs5:=hb5.size
       have h50:=EA.out.cell 0
       have CY:=EA.out.cell 1
       simp only[eP,eO] at h50 CY
       rw[SH.out,HJ.out,if_neg (by simp)] at IE
       clear hd5 hb5 h20 h21 jB h31
       cases hrs:oU cs
       .rw[hrs,if_pos rfl] at IE
        go_wp2_with fail
        go_ret
        rw[IE.out]
        exact⟨rfl,kv.out⟩
       .rw[hrs,if_neg (by simp)] at IE
        clear hrs
        go_wp2_with fail
        refine(Ah 98 #[] #[.pointer (some ⟨w.heap.size+1,0,none⟩)] (enters Tryz.func98 (by kernel_rfl) rfl) (λv=>l.any (λy=>v==y)) Ac cc cs _ (Kd.av Nv.out kv.out) (by omega) ?_).mono ?_
        .intro W x hW
         exact Dj (w.heap.size+1) x (some ad) cl l _ W (EA.out.below hW) (Kd.av HL.out (kv.out.trans (hW.mono kv.out.size))) (by omega)
        rintro e w6 ⟨rfl,hb6⟩
        have uz:=aa.mk (kv.out.trans (hb6.mono kv.out.size))
        clear hb6 EA
        cases hal:(cs.all (λv=>l.any (λy=>v==y)))
        .rw[hal,if_neg (by simp)] at IE
         go_wp2_with fail
         go_ret
         rw[IE.out]
         exact⟨rfl,uz.out⟩
        .rw[hal,if_pos rfl] at IE
         go_wp2_with fail
         go_ret
         rw[IE.out]
         exact⟨rfl,uz.out⟩
    .have ab0:(x1 !=0)=true:=by simp[he1]
     have IE:eQ R l cs=2:=by unfold eQ;rw[if_neg hbig,if_neg hz,if_neg (by rw[hx0];simp[he0]),if_pos (by rw[hx1];simp[he1])]
     clear he0 he1 hx0 hx1 hz
     go_wp2_with fail
     go_ret
     rw[IE]
     exact⟨rfl,HB.out⟩
   .have heb:(x0 !=0)=true:=by simp[he0]
    have IE:eQ R l cs=2:=by unfold eQ;rw[if_neg hbig,if_neg hz,if_pos (by rw[hx0];simp[he0])]
    clear he0 hx0 hz
    go_wp2_with fail
    go_ret
    rw[IE]
    exact⟨rfl,HB.out⟩
end Go.Proofs.YtkjoilgpmngndaaGreat.Wk
