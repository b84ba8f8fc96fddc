/- The given statement is proved in full, for every input, with no condition; the other files of the claim (merged and written in short by pack.py) hold the lemmas. -/
import Derived.ChangeOld
import Derived.ChangeSame
import Derived.Deep.Slices
import Derived.Deep.Strs
import Derived.JoinedOf
import Derived.Lib.SmallJoins
import Derived.OpenShut
import Derived.ProofKit
import Derived.ShutString
import Derived.SizedLaws
import Derived.Test.YtdekaocdmjndaaaGreatRows
import Derived.Test.YtdekaocdmjndaaaGreatQ34
set_option maxHeartbeats 40000000
set_option maxRecDepth 100000
set_option linter.all false
namespace Go.Proofs.YtdekaocdmjndaaaGreat
open Go.RowKit Go.Shelf ah YtdekaocdmjndaaaGreatW.aj YtdekaocdmjndaaaGreatW.aH YtdekaocdmjndaaaGreatW.eu Ag
namespace Ag
def lc.T9:Bool×List (List Nat×List Nat):=(true,[([],[]),([0],[0]),([],[]),([2],[2]),([],[]),([],[]),([4,5],[4,5]),([6],[6]),([3,7],[3,7]),([8],[8]),([9],[9]),([1,10],[1,10]),([0,1,2,3,4,5,6,7,8,9,10,11],[]),([12,11,11,0,1,2,3,4,5,6,7,8,9,10,11],[11,12])])
def lc.B9:List Nat:=[0,1,0,4,0,0,48,112,252,508,1020,2047,4095,8191]
theorem lc.Cr:eB .any (opsOf Tryz.f4 9)=lc.T9:=by kernel_rfl
theorem lc.uf:bI lc.T9.2 lc.B9=true:=by kernel_rfl
theorem qX{α:Type}{d:Kd α}{e:Nat}{w:World}{base:Nat}{ok:Nat->Prop}{v:Value}{xs:List α}(h:d.R e w base ok v xs):∃A n c,v= .slice A n c:=by
 obtain⟨a_,b_,e_,_,_⟩:=Kd.dB h
 exact⟨_,_,_,e_⟩
theorem size_set(w:World)(p:Addr)(u:Value):(w.setCell p u).heap.size=w.heap.size:=by simp[World.setCell]
theorem Ny{α:Type}{xs:List α}{k:Nat}{r:α}(h:xs.length=k):(xs++[r]).length=k+1:=by simp[h]
theorem slice_inj{A B:Option Addr}{n m c d:Nat}(h:Value.slice A n c=Value.slice B m d):A=B/\n=m/\c=d:=by
 cases h
 exact⟨rfl,rfl,rfl⟩
theorem XW{w wr:World}{base b14:Nat}{A:Option Addr}{c:Nat}{xs:List Int}{m:Nat}(R:(Kd.int .i64).R 3 w base (λb=>b≠b14) (.slice A xs.length c) xs)(hk:aY m (λb=>b=b14) w wr)(hm:m=w.heap.size):(Kd.int .i64).C wr A xs.length xs/\xs.length<=c:=by
 subst hm
 have h:=Kd.gz R (λb hb hlt=>hk.block b hlt hb)
 obtain⟨_,_,e0,hd0,hC0⟩:=Kd.dB h
 obtain⟨rfl,_,rfl⟩:=slice_inj e0
 exact⟨hC0,hd0⟩
theorem NI:(Tryz.prog.info? 62).map (λi=>(i.zero,i.size,i.bytes))=some (some (.agg #[.int .i64 0,.int .i64 0,.int .i64 0]),3,24):=by kernel_rfl
theorem MR{rs xs:List Qe}{s:Nat->Nat}{i:Nat}(hl:xs.length=i)(h:∀m,m<i->xs.getD m z62=rs.getD (s m) z62){r:Qe}(hr:rs.getD (s i) z62=r):∀m,m<i+1->(xs++[r]).getD m z62=rs.getD (s m) z62:=by
 intro m hm
 by_cases e:m<i
 .rw[<- h m e]
  simp only[List.getD]
  rw[List.getElem?_append_left (by omega)]
 .obtain rfl:m=i:=by omega
  rw[hr]
  simp only[List.getD]
  rw[List.getElem?_append_right (by omega),hl]
  simp
theorem Qn{rc xs:List Qe}{s:Nat->Nat}(hl:xs.length=rc.length)(h:∀m,m<rc.length->xs.getD m z62=rc.getD (s m) z62):xs=(List.range rc.length).map (λi=>rc.getD (s i) z62):=by
 apply List.ext_getElem
 .simp[hl]
 .intro i h1 h2
  have:=h i (by omega)
  simp only[List.getElem_map,List.getElem_range]
  rw[<- this]
  simp[List.getD,h1]
theorem adZ{w0 w:World}{lo hi lo2 hi2:Int}{rr sr:List Qu}{rc sc:List Qe}{b11 ZM:Nat}{Ar Ac Br Bc Af:Option Addr}{cr cc dr dc cf:Nat}{fr:List Int}{s t:Nat->Nat}(day:Int)(a:Act)(ha:a={tmps:=Rn (.int .i64 day) (a.tmps.getD 3 undef) (.pointer (some ⟨w0.heap.size,0,none⟩)) (.pointer (some ⟨w0.heap.size+1,0,none⟩)) (.slice Af fr.length cf) (.pointer (some ⟨b11,0,none⟩)) (a.tmps.getD 13 undef) (a.tmps.getD 14 undef) (a.tmps.getD 15 undef) (λi=>a.tmps.getD i undef),defers:=[]})
  (HB:aa (Below w0.heap.size w0 w)) (B4:aa (aV w w0.heap.size [.int .i64 lo,.int .i64 hi,.slice Ar rr.length cr,.slice Ac rc.length cc] 59)) (B5:aa (aV w (w0.heap.size+1) [.int .i64 lo2,.int .i64 hi2,.slice Br sr.length dr,.slice Bc sc.length dc] 59)) (h14:w0.heap.size+1<b11)
  (RF:aa ((Kd.int .i64).R 3 w ZM (λb=>b≠b11) (.slice Af fr.length cf) fr))
  (KR:aa (rD.C w0 Ar rr.length rr)) (KC:aa (AX.C w0 Ac rc.length rc)) (KS:aa (rD.C w0 Br sr.length sr)) (KQ:aa (AX.C w0 Bc sc.length sc))
  (hcr:rr.length<=cr) (hcc:rc.length<=cc) (hdr:sr.length<=dr) (Q9:sc.length<=dc)
  (TF:aa (rU fr.length s fr)) (hR:aa (Ren rc.length s t)) (hfl:aa (fr.length=rc.length)) (s1:rr.length<=7) (s2:rc.length<=11) (s4:sr.length<=7) (s5:sc.length<=11)
  (BX:aa (aV w b11 [.int .i64 lo,.int .i64 hi,.slice Ar rr.length cr,.slice none 0 0] 59)):Code.wp Tryz.prog (kI 5) (rC w0) a w:=by
 obtain⟨u,hu⟩:∃u:Nat->Value,a={tmps:=Rn (.int .i64 day) (u 3) (.pointer (some ⟨w0.heap.size,0,none⟩)) (.pointer (some ⟨w0.heap.size+1,0,none⟩)) (.slice Af fr.length cf) (.pointer (some ⟨b11,0,none⟩)) (u 13) (u 14) (u 15) u,defers:=[]}:=⟨λi=>a.tmps.getD i undef,ha⟩
 clear ha
 subst hu
 unfold Rn
 refine fw 5 (by kernel_rfl) (λK hK=>?_)
 have U6:=BX.out.lt
 have hlw:=HB.out.size
 unfold kI
 conv=>arg 2;whnf
 unfold rC
 go_wp2_with fail
 go_loopw [12] (λv12 wr=>∃(i:Nat) (v2:Value) (xs:List Qe),i<=fr.length/\v12= .int .i64 i/\w.heap.size<=wr.heap.size/\aa (xs.length=i)/\aa (∀m,m<i->xs.getD m z62=rc.getD (s m) z62)/\aa (aY w.heap.size (λb=>b=b11) w wr)/\aa (aV wr b11 [.int .i64 lo,.int .i64 hi,.slice Ar rr.length cr,v2] 59)/\aa (AX.R 62 wr w.heap.size (λb=>w.heap.size<=b) v2 xs)) (λv12 _=>fr.length-(intOf v12).toNat)
 case atStart=>exact⟨0,.slice none 0 0,[],Nat.zero_le _,rfl,Nat.le_refl _,⟨rfl⟩,⟨λm hm=>absurd hm (Nat.not_lt_zero _)⟩,⟨aY.refl _ _ _⟩,BX,⟨Kd.iH _ _ _ _ _⟩⟩
 case round=>
  clear BX
  obtain⟨i,v2,xs,Xe,rfl,KM,HXL,HXR,HK,B11,Xn⟩:=hrel
  have B4r:=aa.mk (B4.out.move (HK.out.block _ (by omega) (by omega)))
  have h43:=B4r.out.cell 3
  simp only[dZ,dY] at h43
  have P6:=aa.mk (show Below w0.heap.size w0 wr from⟨HK.out.os.trans HB.out.os,HK.out.tape.trans HB.out.tape,HK.out.output.trans HB.out.output,Nat.le_trans HB.out.size HK.out.size,λk hk=>(HK.out.block k (by omega) (by omega)).trans (HB.out.block k hk)⟩)
  by_cases hil:i<fr.length
  .have Yo:=hR.out.MN i (by have:=hfl.out;omega)
   have htj:=TF.out.at_ i hil
   obtain⟨q,hq⟩:∃q,s i=q:=⟨_,rfl⟩
   rw[hq] at Yo htj
   obtain⟨af,e,hf0⟩:=Kd.gu (XW RF.out HK.out rfl).1 (i:Int) (by omega) (by omega)
   cases e
   rw[htj] at hf0
   obtain⟨ad,e,hq0,hq1,hq2⟩:=OU (Kd.aC KC.out P6.out) (q:Int) (by omega) (by omega)
   cases e
   simp only[Int.toNat_natCast] at hq0 hq1 hq2 hf0
   have hre:rc.getD q z62=dD rc (q:Int):=by simp[dD]
   obtain⟨r,hr⟩:∃r,dD rc (q:Int)=r:=⟨_,rfl⟩
   rw[hr] at hq0 hq1 hq2 hre
   have LP:=aa.mk (MR (rs:=rc) HXL.out HXR.out (r:=r) (by rw[hq];exact hre))
   have hiF:(i:Int)<(fr.length:Int):=by omega
   have hqI:(q:Int)<rc.length:=by omega
   have hi0:(0:Int)<=(i:Int):=by omega
   have akG:(0:Int)<=(q:Int):=by omega
   have HLE:=aa.mk (show xs.length<=11 by have:=HXL.out;have:=hfl.out;omega)
   have HI1:=aa.mk (show i+1<=fr.length by omega)
   have HWI:=aa.mk (show i<=11 by have:=hfl.out;omega)
   have HME:=aa.mk (show fr.length-(intOf (.int .i64 ((i:Int)+1))).toNat<fr.length-(intOf (.int .i64 (i:Int))).toNat by simp[intOf];omega)
   clear hr hre hq htj Yo B4r P6
   go_wp2_with fail
   refine fF (n:=14) (S:=λw'=>w'.cell? ⟨b11,3,none⟩=some v2/\w'.cell? ⟨w0.heap.size,3,none⟩=some (.slice (some ad) rc.length cc)/\w'.cell? (af.add i)=some (.int .i64 (q:Int))/\w'.cell? (ad.add (q*3))=some (.int .i64 r.f0)/\w'.cell? ⟨(ad.add (q*3)).block,(ad.add (q*3)).off+1,none⟩=some (.int .i64 r.f1)/\w'.cell? ⟨(ad.add (q*3)).block,(ad.add (q*3)).off+2,none⟩=some (.int .i64 r.f2)) (ds:=[11,13]) #[O,O,O,O,O,O,O,O,O,O,O,O,O,O] (by kernel_rfl) rfl rfl ⟨(by simpa using B11.out.cell 3),h43,hf0,hq0,hq1,hq2⟩ (λhHeld=>?_);refine bG lc.Cr lc.uf (λau cz=>?_)
   have II:=aa.mk (B11.out.move rfl:aV wr.drew _ _ _)
   have HKd:=aa.mk HK.out.drew
   have HRd:=aa.mk (Kd.bX Xn.out)
   have hsd:w.heap.size<=wr.drew.heap.size:=KM
   have Yy:b11<wr.drew.heap.size:=Nat.lt_of_lt_of_le U6 KM
   clear B11 HK Xn KM h43 hf0 hq0 hq1 hq2
   generalize wr.drew=wd1 at II HKd HRd hsd Yy hHeld ⊢
   refine bq 0 61 #[I,O,O,O,O,O,O,O,O,O,O,O,O,O] au (h:=?_)
   refine fJ 1 62 #[I,I,O,O,O,O,O,O,O,O,O,O,O,O] au cz hHeld (hy:=by(rintro w' ⟨s0,s1,s2,s3,s4,s5⟩;go_simp;with_reducible rfl)) (h:=?_)
   refine bq 2 63 #[I,I,I,O,O,O,O,O,O,O,O,O,O,O] au (h:=?_)
   refine fJ 3 64 #[I,I,I,I,O,O,O,O,O,O,O,O,O,O] au cz hHeld (hy:=by(rintro w' ⟨s0,s1,s2,s3,s4,s5⟩;go_simp;with_reducible rfl)) (h:=?_)
   refine bq 4 65 #[I,I,I,I,I,O,O,O,O,O,O,O,O,O] au (h:=?_)
   refine bq 5 66 #[I,I,I,I,I,I,O,O,O,O,O,O,O,O] au (h:=?_)
   refine bq 6 67 #[I,I,I,I,I,I,I,O,O,O,O,O,O,O] au (h:=?_)
   refine fJ 7 68 #[I,I,I,I,I,I,I,I,O,O,O,O,O,O] au cz hHeld (hy:=by(rintro w' ⟨s0,s1,s2,s3,s4,s5⟩;go_simp;with_reducible rfl)) (h:=?_)
   refine bq 8 69 #[I,I,I,I,I,I,I,I,I,O,O,O,O,O] au (h:=?_)
   refine fJ 9 70 #[I,I,I,I,I,I,I,I,I,I,O,O,O,O] au cz hHeld (hy:=by(rintro w' ⟨s0,s1,s2,s3,s4,s5⟩;go_simp;with_reducible rfl)) (h:=?_)
   refine gB (i:=10) (N:=some 71) #[I,I,I,I,I,I,I,I,I,I,I,O,O,O] rfl rfl (aM au.out (by kernel_rfl)) (by decide) (λK hK=>?_)
   refine bD (w1:=?_) (v:=?_) (by rfl) rfl ?_ ?_
   rotate_left 2
   .go_simp
    constructor<;>rfl
   refine hK.out _ _ ⟨((ae (Below.refl _ _) (.cells #[.int .i64 r.f0,.int .i64 r.f1,.int .i64 r.f2] 62)).cell (World.block_lt_of_cell? _ _ hHeld.1)).trans hHeld.1,((ae (Below.refl _ _) (.cells #[.int .i64 r.f0,.int .i64 r.f1,.int .i64 r.f2] 62)).cell (World.block_lt_of_cell? _ _ hHeld.2.1)).trans hHeld.2.1,((ae (Below.refl _ _) (.cells #[.int .i64 r.f0,.int .i64 r.f1,.int .i64 r.f2] 62)).cell (World.block_lt_of_cell? _ _ hHeld.2.2.1)).trans hHeld.2.2.1,((ae (Below.refl _ _) (.cells #[.int .i64 r.f0,.int .i64 r.f1,.int .i64 r.f2] 62)).cell (World.block_lt_of_cell? _ _ hHeld.2.2.2.1)).trans hHeld.2.2.2.1,((ae (Below.refl _ _) (.cells #[.int .i64 r.f0,.int .i64 r.f1,.int .i64 r.f2] 62)).cell (World.block_lt_of_cell? _ _ hHeld.2.2.2.2.1)).trans hHeld.2.2.2.2.1,((ae (Below.refl _ _) (.cells #[.int .i64 r.f0,.int .i64 r.f1,.int .i64 r.f2] 62)).cell (World.block_lt_of_cell? _ _ hHeld.2.2.2.2.2)).trans hHeld.2.2.2.2.2⟩ (λ_=>?_)
   clear hK K
   refine j4 ?_
   refine fB (i:=11) (N:=some 72) #[I,I,I,I,I,I,I,I,I,I,I,I,O,O] rfl rfl (aM au.out (by kernel_rfl)) (by decide) (λK hK=>?_)
   refine Kd.ui AX (w0:=wd1) w.heap.size (by rfl) (.tmp 62) (.tmp 71) 57 62 (.agg #[.int .i64 0,.int .i64 0,.int .i64 0]) 24 rfl Tryz.underlying57 NI rfl (by decide) (by omega) v2 xs r [.int .i64 r.f0,.int .i64 r.f1,.int .i64 r.f2] (λb=>w.heap.size<=b) (λ_=>False) rfl rfl (QC _ _ _ r) (λ_ hk=>hk.elim) (λb hb=>Nat.le_trans hsd hb) HRd.out (Below.refl _ _) hsd (by have:=HLE.out;omega) ?_
   intro vn wn hon hbn hgn iP
   obtain⟨An,nn,cn,rfl⟩:=qX hon
   have FJ:=aa.mk hon
   have B3n:=aa.mk (II.out.move (hbn.block _ U6))
   have TJ:=aa.mk (HKd.out.trans (aY.of_below hbn (Nat.le_refl _)))
   have hsn:=Nat.le_trans hsd hbn.size
   clear hon hbn hgn iP II HKd HRd hsd
   refine hK.out _ _ ?_
   clear hK K
   refine j4 ?_
   refine bq 12 73 #[I,I,I,I,I,I,I,I,I,I,I,I,I,O] au (h:=?_)
   refine fB (i:=13) (N:=none) #[I,I,I,I,I,I,I,I,I,I,I,I,I,I] rfl rfl (aM au.out (by kernel_rfl)) (by decide) (λK hK=>?_)
   have iD:=(show wn.cell? ⟨b11,3,none⟩=some v2 by simpa using B3n.out.cell 3)
   have lG:=B3n.out.frozen 3
   refine kg (w1:=?_) (by rfl) rfl ?_ ?_
   rotate_left
   .go_simp
    rfl
   refine hK.out _ _ ?_
   clear hK K iD lG
   have B3z:=aa.mk (show aV _ b11 [.int .i64 lo,.int .i64 hi,.slice Ar rr.length cr,.slice An nn cn] _ from fV B3n.out 3 (.slice An nn cn))
   have Xt:=aa.mk (TJ.out.setCell (p:=⟨b11,3,none⟩) (.inl rfl) (.slice An nn cn))
   have HRz:=aa.mk (Kd.gP FJ.out (p:=⟨b11,3,none⟩) (λb hb=>Nat.ne_of_gt (Nat.lt_of_lt_of_le U6 hb)) (.slice An nn cn))
   have hsz:w.heap.size<=(wn.setCell ⟨b11,3,none⟩ (.slice An nn cn)).heap.size:=by rw[size_set];exact hsn
   clear B3n TJ FJ hsn
   generalize wn.setCell ⟨b11,3,none⟩ (.slice An nn cn)=wz at B3z Xt HRz hsz ⊢
   refine fM (bP au.out (by kernel_rfl)) ?_
   clear au cz
   have hwi:=HWI.out
   go_wp2_with fail
   exact⟨⟨i+1,.slice An nn cn,xs++[r],HI1.out,congrArg (Value.int .i64) (Int.natCast_succ i).symm,hsz,⟨Ny HXL.out⟩,LP,Xt,B3z,HRz⟩,HME.out⟩
  .obtain rfl:i=fr.length:=by omega
   obtain⟨Z2,nz,zc,rfl⟩:=qX Xn.out
   obtain⟨_,_,e3,hd3,hC3⟩:=Kd.dB Xn.out
   obtain⟨rfl,rfl,rfl⟩:=slice_inj e3
   have B5r:=aa.mk (B5.out.move (HK.out.block _ (by omega) (by omega)))
   have aak:=HXL.out.trans hfl.out
   have HPM:=aa.mk (Qn aak (λm hm=>HXR.out m (by have:=hfl.out;omega))▸JV hR.out rc z62 rfl:xs.Perm rc)
   have L:=aa.mk (LX.mk P6.out B4r.out B5r.out B11.out (Kd.aC KR.out P6.out) (Kd.aC KC.out P6.out) hC3 (Kd.aC KS.out P6.out) (Kd.aC KQ.out P6.out))
   have s3:xs.length<=11:=by omega
   have aeM:=aa.mk hd3
   clear hC3 e3 aak hd3
   go_wp2_with fail
   refine adY day _ ?_ L.out hcr hcc aeM.out hdr Q9 (by omega) (by omega) (by omega) (by omega) (by omega) HPM.out
   rfl
end Ag
namespace Ag
theorem Kv(lo hi lo2 hi2 day:Int){Ar Ac Br Bc Aw:Option Addr}{cr cc dr dc cw:Nat}(rr sr:List Qu)(rc sc:List Qe)(ws:List Int)(w:World)
  (h1:rD.C w Ar rr.length rr) (hcr:rr.length<=cr) (h2:AX.C w Ac rc.length rc) (hcc:rc.length<=cc)
  (h3:rD.C w Br sr.length sr) (hdr:sr.length<=dr) (h4:AX.C w Bc sc.length sc) (Q9:sc.length<=dc)
  (hw:(Kd.int .u16).C w Aw ws.length ws) (hcw:ws.length<=cw) (hws:∀j:Nat,j<ws.length->0<=rd ws (j:Int)/\rd ws (j:Int)<65536):
  Calls Tryz.prog 4 #[.agg #[.int .i64 lo,.int .i64 hi,.slice Ar rr.length cr,.slice Ac rc.length cc],.agg #[.int .i64 lo2,.int .i64 hi2,.slice Br sr.length dr,.slice Bc sc.length dc],.int .i64 day,.slice Aw ws.length cw] w λe w'=>e= .returned (.bool true)/\Below w.heap.size w w':=by
 have KR:=aa.mk h1
 have KC:=aa.mk h2
 have KS:=aa.mk h3
 have KQ:=aa.mk h4
 have KW:=aa.mk hw
 have HWS:=aa.mk hws
 clear h1 h2 h3 h4 hw hws
 go_enter Tryz.func4,Tryz.ntmps4
 refine fw 0 (by kernel_rfl) (λK hK=>?_)
 unfold kI
 conv=>arg 2;whnf
 go_wp2_with fail
 refine fw 1 (by kernel_rfl) (λK1 hK1=>?_)
 unfold kI
 conv=>arg 2;whnf
 have HB:=aa.mk (ae (ae (Below.refl w.heap.size w) (.cells #[.int .i64 lo,.int .i64 hi,.slice Ar rr.length cr,.slice Ac rc.length cc] 59)) (.cells #[.int .i64 lo2,.int .i64 hi2,.slice Br sr.length dr,.slice Bc sc.length dc] 59))
 have B4:=aa.mk ((aV.new w [.int .i64 lo,.int .i64 hi,.slice Ar rr.length cr,.slice Ac rc.length cc] 59).alloc (.cells #[.int .i64 lo2,.int .i64 hi2,.slice Br sr.length dr,.slice Bc sc.length dc] 59))
 have B5:=aa.mk (aV.second w (.cells #[.int .i64 lo,.int .i64 hi,.slice Ar rr.length cr,.slice Ac rc.length cc] 59) [.int .i64 lo2,.int .i64 hi2,.slice Br sr.length dr,.slice Bc sc.length dc] 59)
 have hs0:w.heap.size+1<((w.alloc (.cells #[.int .i64 lo,.int .i64 hi,.slice Ar rr.length cr,.slice Ac rc.length cc] 59)).alloc (.cells #[.int .i64 lo2,.int .i64 hi2,.slice Br sr.length dr,.slice Bc sc.length dc] 59)).heap.size:=by simp
 generalize(w.alloc (.cells #[.int .i64 lo,.int .i64 hi,.slice Ar rr.length cr,.slice Ac rc.length cc] 59)).alloc (.cells #[.int .i64 lo2,.int .i64 hi2,.slice Br sr.length dr,.slice Bc sc.length dc] 59)=w0 at HB B4 B5 hs0 ⊢
 have uI:=B4.out.cell 0
 have uH:=B4.out.cell 1
 have uG:=B4.out.cell 2
 have uF:=B4.out.cell 3
 have uE:=B5.out.cell 0
 have uD:=B5.out.cell 1
 have uC:=B5.out.cell 2
 have uB:=B5.out.cell 3
 simp only[dZ,dY] at uI uH uG uF uE uD uC uB
 have QB:=B4.out.lt
 have QA:=B5.out.lt
 go_wp2_with fail
 refine(fQ.calls lo hi Ar cr rr Ac cc rc _ w0 (Kd.aC KR.out HB.out) hcr (Kd.aC KC.out HB.out) hcc (Sr lo hi rr rc)).mono ?_
 rintro e w1 ⟨rfl,hb1⟩
 clear uI uH uG uF uE uD uC uB QB QA
 replace HB:=aa.mk (HB.out.trans (hb1.mono HB.out.size))
 replace B4:=aa.mk (B4.out.below hb1)
 replace B5:=aa.mk (B5.out.below hb1)
 replace hs0:=Nat.lt_of_lt_of_le hs0 hb1.size
 clear hb1
 cases hth:(decide (rr.length<=7)&&decide (rc.length<=11))
 .have uI:=B4.out.cell 0
  have uH:=B4.out.cell 1
  have uG:=B4.out.cell 2
  have uF:=B4.out.cell 3
  have uE:=B5.out.cell 0
  have uD:=B5.out.cell 1
  have uC:=B5.out.cell 2
  have uB:=B5.out.cell 3
  simp only[dZ,dY] at uI uH uG uF uE uD uC uB
  have QB:=B4.out.lt
  have QA:=B5.out.lt
  go_wp2_with fail
  refine(mX _).mono ?_
  rintro e wq ⟨rfl,hbq⟩
  have HQ:=aa.mk (HB.out.trans (hbq.mono HB.out.size))
  go_wp2_with fail
  go_ret
  exact⟨rfl,HQ.out⟩
 .simp only[Bool.and_eq_true,decide_eq_true_eq] at hth
  obtain⟨ht1,ht2⟩:=hth
  have uI:=B4.out.cell 0
  have uH:=B4.out.cell 1
  have uG:=B4.out.cell 2
  have uF:=B4.out.cell 3
  have uE:=B5.out.cell 0
  have uD:=B5.out.cell 1
  have uC:=B5.out.cell 2
  have uB:=B5.out.cell 3
  simp only[dZ,dY] at uI uH uG uF uE uD uC uB
  have QB:=B4.out.lt
  have QA:=B5.out.lt
  go_wp2_with fail
  refine(fQ.calls lo2 hi2 Br dr sr Bc dc sc _ w1 (Kd.aC KS.out HB.out) hdr (Kd.aC KQ.out HB.out) Q9 (Sr lo2 hi2 sr sc)).mono ?_
  rintro e w2 ⟨rfl,hb1⟩
  clear uI uH uG uF uE uD uC uB QB QA
  replace HB:=aa.mk (HB.out.trans (hb1.mono HB.out.size))
  replace B4:=aa.mk (B4.out.below hb1)
  replace B5:=aa.mk (B5.out.below hb1)
  replace hs0:=Nat.lt_of_lt_of_le hs0 hb1.size
  clear hb1
  cases hth:(decide (sr.length<=7)&&decide (sc.length<=11))
  .have uI:=B4.out.cell 0
   have uH:=B4.out.cell 1
   have uG:=B4.out.cell 2
   have uF:=B4.out.cell 3
   have uE:=B5.out.cell 0
   have uD:=B5.out.cell 1
   have uC:=B5.out.cell 2
   have uB:=B5.out.cell 3
   simp only[dZ,dY] at uI uH uG uF uE uD uC uB
   have QB:=B4.out.lt
   have QA:=B5.out.lt
   go_wp2_with fail
   refine(mX _).mono ?_
   rintro e wq ⟨rfl,hbq⟩
   have HQ:=aa.mk (HB.out.trans (hbq.mono HB.out.size))
   go_wp2_with fail
   go_ret
   exact⟨rfl,HQ.out⟩
  .simp only[Bool.and_eq_true,decide_eq_true_eq] at hth
   obtain⟨ht3,ht4⟩:=hth
   go_wp2_with fail
   refine fw 2 (by kernel_rfl) (λK2_ hK2=>?_)
   unfold kI
   conv=>arg 2;whnf
   obtain⟨k1,fr,bk,s,t,hf1,hr1,hTf,_⟩:=Lr rc.length (by omega) ws HWS.out
   have HF1:=aa.mk hf1
   have HR1:=aa.mk hr1
   have TF:=aa.mk hTf
   have HFL:=aa.mk hTf.len
   clear hf1 hr1 hTf
   have uI:=B4.out.cell 0
   have uH:=B4.out.cell 1
   have uG:=B4.out.cell 2
   have uF:=B4.out.cell 3
   have uE:=B5.out.cell 0
   have uD:=B5.out.cell 1
   have uC:=B5.out.cell 2
   have uB:=B5.out.cell 3
   simp only[dZ,dY] at uI uH uG uF uE uD uC uB
   have QB:=B4.out.lt
   have QA:=B5.out.lt
   go_wp2_with fail
   refine(ai.calls k1 (rc.length:Int) Aw cw ws fr bk w2 (Kd.aC KW.out HB.out) hcw HF1.out).mono ?_
   rintro e w3 ⟨v0,v1,rfl,hRf,hRk,hb1⟩
   obtain⟨Af,cf,rfl,hcf,_⟩:=Kd.dB hRf
   obtain⟨Ak,ck,rfl,_,_⟩:=Kd.dB hRk
   have RF:=aa.mk (Kd.bM hRf (λ_ _=>trivial):(Kd.int .i64).R 3 w3 w2.heap.size (λ_=>True) (.slice Af fr.length cf) fr)
   clear uI uH uG uF uE uD uC uB QB QA
   replace HB:=aa.mk (HB.out.trans (hb1.mono HB.out.size))
   replace B4:=aa.mk (B4.out.below hb1)
   replace B5:=aa.mk (B5.out.below hb1)
   replace hs0:=Nat.lt_of_lt_of_le hs0 hb1.size
   clear hb1
   clear hRf hRk hcf
   go_wp2_with fail
   refine fw 3 (by kernel_rfl) (λK3_ hK3=>?_)
   unfold kI
   conv=>arg 2;whnf
   have uI:=B4.out.cell 0
   have uH:=B4.out.cell 1
   have uG:=B4.out.cell 2
   have uF:=B4.out.cell 3
   have uE:=B5.out.cell 0
   have uD:=B5.out.cell 1
   have uC:=B5.out.cell 2
   have uB:=B5.out.cell 3
   simp only[dZ,dY] at uI uH uG uF uE uD uC uB
   have QB:=B4.out.lt
   have QA:=B5.out.lt
   go_wp2_with fail
   have BX:=aa.mk (aV.new w3 [.int .i64 lo,.int .i64 hi,.slice Ar rr.length cr,.slice Ac rc.length cc] 59)
   have RF4:=aa.mk (Kd.bM (Kd.iG (Kd.bH RF.out (.cells #[.int .i64 lo,.int .i64 hi,.slice Ar rr.length cr,.slice Ac rc.length cc] 59)) BX.out (by decide)) (λb hb=>(hb.2:b≠w3.heap.size)))
   have TF':=aa.mk (show rU fr.length s fr by rw[HFL.out];exact TF.out)
   clear uI uH uG uF uE uD uC uB QB QA
   replace HB:=aa.mk (ae HB.out (.cells #[.int .i64 lo,.int .i64 hi,.slice Ar rr.length cr,.slice Ac rc.length cc] 59))
   replace B4:=aa.mk (B4.out.alloc (.cells #[.int .i64 lo,.int .i64 hi,.slice Ar rr.length cr,.slice Ac rc.length cc] 59))
   replace B5:=aa.mk (B5.out.alloc (.cells #[.int .i64 lo,.int .i64 hi,.slice Ar rr.length cr,.slice Ac rc.length cc] 59))
   clear RF
   generalize w3.alloc (.cells #[.int .i64 lo,.int .i64 hi,.slice Ar rr.length cr,.slice Ac rc.length cc] 59)=w4 at BX B4 B5 HB RF4 ⊢
   generalize w3.heap.size=b11 at BX RF4 hs0 ⊢
   refine fw 4 (by kernel_rfl) (λK4_ hK4=>?_)
   unfold kI
   conv=>arg 2;whnf
   have hx3:=BX.out.cell 3
   have akt:=BX.out.frozen 3
   have hxl:=BX.out.lt
   simp only[dZ,dY] at hx3
   go_wp2_with fail
   refine adZ (w0:=w) (fr:=fr) (cf:=cf) day _ ?_ ⟨HB.out.setCell (p:=⟨b11,3,none⟩) (show w.heap.size<=b11 by omega) _⟩ ⟨dO B4.out (p:=⟨b11,3,none⟩) (show w.heap.size≠b11 by omega) _⟩ ⟨dO B5.out (p:=⟨b11,3,none⟩) (show w.heap.size+1≠b11 by omega) _⟩ hs0 ⟨Kd.gP RF4.out (p:=⟨b11,3,none⟩) (λb hb=>hb) _⟩ KR KC KS KQ hcr hcc hdr Q9 TF' HR1 HFL ht1 ht2 ht3 ht4 ⟨fV BX.out 3 _⟩
   rfl
end Ag
open Go.RowKit Go.ChangeShapes Go.WideShapes Go.Deep ah YtdekaocdmjndaaaGreatW.aj Ag
namespace Ag
section
variable {H:Type} {enc:TypeId×Value->H} {P:Program} {w:World} {base:Nat} {spare:Nat->Bool} {held:Bool}
theorem wU{α:Type}(d:Kd α){t e:TypeId}{fuel:Nat}{v:Value}{x:DataW H×List MemPlace}(ht:P.underlying t=some (.slice e))(hc:P.cellsOf e=d.sz)
  (hel:∀(n:Nat) (cs:List Value) (y:DataW H×List MemPlace),cs.length=d.sz->DataW.trod enc P w base spare held n e cs=some y->∃z,d.K w z cs)
  (h:DataW.trod enc P w base spare held fuel t [v]=some x):∃(A:Option Addr) (c:Nat) (l:List α),v= .slice A l.length c/\l.length<=c/\c<=maxLen/\d.C w A l.length l:=by
 rcases open_slice ht h with⟨hcs,_⟩|⟨a,len,cap,m,n,D,Pl,hcs,hb,hl,hm,hmm,hx,hi⟩
 .obtain rfl:v= .slice none 0 0:=by simpa using hcs
  exact⟨none,0,[],rfl,Nat.le_refl _,Nat.zero_le _,⟨rfl,by simp,λh=>absurd h (by simp)⟩⟩
 .obtain rfl:v= .slice (some a) len cap:=by simpa using hcs
  have hlm:len<=m:=by rw[hmm];split<;>omega
  have key:∀i:Fin len,∃z:α,∃cs:List Value,cs.length=d.sz/\d.K w z cs/\∀j u,cs[j]?=some u->w.cell? (a.add (i.1*d.sz+j))=some u:=by
   intro i
   obtain⟨cs',hcc,htr⟩:=hi i.1 (by omega)
   rw[hc] at hcc
   obtain⟨_,hcl,hat⟩:=World.cells?_some hcc
   obtain⟨z,hz⟩:=hel n cs' _ hcl htr
   refine⟨z,cs',hcl,hz,λj u hj=>?_⟩
   have hjl:j<d.sz:=by
    rw[<- hcl]
    exact(List.getElem?_eq_some_iff.1 hj).1
   have:=hat j hjl
   rw[<- Go.Deep.add_add,this,hj]
  obtain⟨f,hf⟩:=Classical.axiomOfChoice key
  have hlen:(List.ofFn f).length=len:=by simp
  have hcap:len<=9223372036854775807:=by
   have:maxLen<=9223372036854775807:=by decide
   omega
  refine⟨some a,cap,List.ofFn f,by rw[hlen],by rw[hlen];exact hl,hm,?_⟩
  refine⟨rfl,by rw[hlen];exact hcap,λ_=>⟨a,rfl,λj p hj=>?_⟩⟩
  obtain⟨hjl,hjp⟩:=List.getElem?_eq_some_iff.1 hj
  rw[hlen] at hjl
  obtain⟨cs,h1,h2,h3⟩:=hf ⟨j,hjl⟩
  have hp:f ⟨j,hjl⟩=p:=by rw[<- hjp];simp
  rw[hp] at h2
  exact⟨cs,h1,h2,h3⟩
end
section
variable {H:Type} {enc:TypeId×Value->H} {w:World} {base:Nat} {spare:Nat->Bool} {held:Bool}
theorem UQ{α:Type}{l:List α}(h:l.length=3):∃a b c,l=[a,b,c]:=by
 match l,h with
 |[a,b,c],_=>exact⟨a,b,c,rfl⟩
theorem Nw{α:Type}{l:List α}(h:l.length=4):∃a b c d,l=[a,b,c,d]:=by
 match l,h with
 |[a,b,c,d],_=>exact⟨a,b,c,d,rfl⟩
theorem RG{α:Type}{cs:Array α}(h:cs.size=4):∃a b c d,cs=#[a,b,c,d]:=by
 obtain⟨l⟩:=cs
 obtain⟨a,b,c,d,rfl⟩:=Nw (show l.length=4 from h)
 exact⟨a,b,c,d,rfl⟩
theorem Hu:Tryz.prog.cellsOf 190=rD.sz:=by kernel_rfl
theorem Dq:Tryz.prog.cellsOf 62=AX.sz:=by kernel_rfl
theorem Gc(n:Nat)(cs:List Value)(y:DataW H×List MemPlace)(hl:cs.length=rD.sz)(h:DataW.trod enc Tryz.prog w base spare held n 190 cs=some y):∃z,rD.K w z cs:=by
 obtain⟨c0,c1,c2,c3,rfl⟩:=Nw (show cs.length=4 from hl)
 obtain⟨x0,x1,x2,x3,m,_,_,h0,h1,h2,h3⟩:=Go.Joins.trod_struct4 Tryz.underlying190 h
 have e:Tryz.prog.cellsOf 3=1:=by kernel_rfl
 simp only[e,List.drop_zero,List.drop_succ_cons,List.take_succ_cons,List.take_zero] at h0 h1 h2 h3
 obtain⟨a,e0,_,_⟩:=DataW.trod_int Tryz.underlying3 h0
 obtain⟨b,e1,_,_⟩:=DataW.trod_int Tryz.underlying3 h1
 obtain⟨c,e2,_,_⟩:=DataW.trod_int Tryz.underlying3 h2
 obtain⟨d,e3,_,_⟩:=DataW.trod_int Tryz.underlying3 h3
 obtain rfl:c0= .int .i64 a:=by simpa using e0
 obtain rfl:c1= .int .i64 b:=by simpa using e1
 obtain rfl:c2= .int .i64 c:=by simpa using e2
 obtain rfl:c3= .int .i64 d:=by simpa using e3
 exact⟨⟨a,b,c,d⟩,QD w ⟨a,b,c,d⟩⟩
theorem Cv(n:Nat)(cs:List Value)(y:DataW H×List MemPlace)(hl:cs.length=AX.sz)(h:DataW.trod enc Tryz.prog w base spare held n 62 cs=some y):∃z,AX.K w z cs:=by
 obtain⟨c0,c1,c2,rfl⟩:=UQ (show cs.length=3 from hl)
 obtain⟨x0,x1,x2,m,_,_,h0,h1,h2⟩:=trod_struct3 Tryz.underlying62 h
 have e:Tryz.prog.cellsOf 3=1:=by kernel_rfl
 simp only[e,List.drop_zero,List.drop_succ_cons,List.take_succ_cons,List.take_zero] at h0 h1 h2
 obtain⟨a,e0,_,_⟩:=DataW.trod_int Tryz.underlying3 h0
 obtain⟨b,e1,_,_⟩:=DataW.trod_int Tryz.underlying3 h1
 obtain⟨c,e2,_,_⟩:=DataW.trod_int Tryz.underlying3 h2
 obtain rfl:c0= .int .i64 a:=by simpa using e0
 obtain rfl:c1= .int .i64 b:=by simpa using e1
 obtain rfl:c2= .int .i64 c:=by simpa using e2
 exact⟨⟨a,b,c⟩,U0 w ⟨a,b,c⟩⟩
set_option maxHeartbeats 4000000 in
theorem xG{r:Reach}{b0:Nat}{v:Value}{d:DataW H}{p:List MemPlace}(hv:Value.okWide Tryz.prog w r b0 59 v)(h:DataW.Trod enc Tryz.prog w base spare held 59 v d p):
  ∃(lo hi:Int) (Ar:Option Addr) (cr:Nat) (rr:List Qu) (Ac:Option Addr) (cc:Nat) (rc:List Qe),v= .agg #[.int .i64 lo,.int .i64 hi,.slice Ar rr.length cr,.slice Ac rc.length cc]/\rr.length<=cr/\rc.length<=cc/\rD.C w Ar rr.length rr/\AX.C w Ac rc.length rc:=by
 obtain⟨zs,rfl,hsz⟩:=okWide_struct Tryz.underlying59 hv
 obtain⟨z0,z1,z2,z3,rfl⟩:=RG (hsz.trans (by kernel_rfl))
 obtain⟨fuel,hf⟩:=h
 obtain⟨y0,y1,y2,n,_,_,h0,h1,h2⟩:=trod_struct3 Tryz.underlying59 (show DataW.trod enc Tryz.prog w base spare held fuel 59 [z0,z1,z2,z3]=some (d,p) by simpa[Value.cells] using hf)
 have e1:Tryz.prog.cellsOf 3=1:=by kernel_rfl
 have e2:Tryz.prog.cellsOf 55=2:=by kernel_rfl
 have e3:Tryz.prog.cellsOf 56=1:=by kernel_rfl
 have e4:Tryz.prog.cellsOf 57=1:=by kernel_rfl
 simp only[e2,e3,e4,List.drop_zero,List.drop_succ_cons,List.take_succ_cons,List.take_zero] at h0 h1 h2
 obtain⟨_,_,m,_,_,a0,a1⟩:=trod_struct2 Tryz.underlying55 h0
 simp only[e1,List.drop_zero,List.drop_succ_cons,List.take_succ_cons,List.take_zero] at a0 a1
 obtain⟨lo,q0,_,_⟩:=DataW.trod_int Tryz.underlying3 a0
 obtain⟨hi,q1,_,_⟩:=DataW.trod_int Tryz.underlying3 a1
 obtain rfl:z0= .int .i64 lo:=by simpa using q0
 obtain rfl:z1= .int .i64 hi:=by simpa using q1
 obtain⟨Ar,cr,rr,rfl,hr,_,hCr⟩:=wU rD (t:=56) (e:=190) Tryz.underlying56 Hu (λn cs y=>Gc n cs y) h1
 obtain⟨Ac,cc,rc,rfl,hc,_,hCc⟩:=wU AX (t:=57) (e:=62) Tryz.underlying57 Dq (λn cs y=>Cv n cs y) h2
 exact⟨lo,hi,Ar,cr,rr,Ac,cc,rc,rfl,hr,hc,hCr,hCc⟩
theorem Nf{r:Reach}{b0:Nat}{v:Value}(hv:Value.okWide Tryz.prog w r b0 3 v):∃day:Int,v= .int .i64 day:=okWide_int Tryz.underlying3 hv
theorem Li:Tryz.prog.cellsOf 156=(Kd.int .u16).sz:=by kernel_rfl
theorem Uq{n:Int}(h:(Lit.int .u16 n).wf=true):0<=n/\n<65536:=by
 simp[Lit.wf] at h
 have e1:IntKind.u16.min=0:=rfl
 have e2:IntKind.u16.max=65535:=rfl
 omega
def Qm:Kd {n:Int // 0<=n/\n<65536}:=Kd.scalar (λn=> .int .u16 n.1) (λ_=>rfl)
theorem XM{w:World}{A:Option Addr}{xs:List {n:Int // 0<=n/\n<65536}}(h:Qm.C w A xs.length xs):(Kd.int .u16).C w A (xs.map Subtype.val).length (xs.map Subtype.val):=by
 obtain⟨h1,h2,h3⟩:=h
 refine⟨rfl,by rw[List.length_map];exact h2,λh0=>?_⟩
 obtain⟨a,e,h4⟩:=h3 (by simpa using h0)
 refine⟨a,e,λj p hj=>?_⟩
 rw[List.getElem?_map] at hj
 obtain⟨q,hq,rfl⟩:=Option.map_eq_some_iff.1 hj
 obtain⟨cs,h5,h6,h7⟩:=h4 j q hq
 exact⟨cs,h5,h6,h7⟩
theorem JU(n:Nat)(cs:List Value)(y:DataW H×List MemPlace)(hl:cs.length=Qm.sz)(h:DataW.trod enc Tryz.prog w base spare held n 156 cs=some y):∃z,Qm.K w z cs:=by
 obtain⟨a,e0,_,hwf⟩:=DataW.trod_int Tryz.underlying156 h
 exact⟨⟨a,Uq hwf⟩,e0⟩
theorem GH{r:Reach}{b0:Nat}{v:Value}{d:DataW H}{p:List MemPlace}(hv:Value.okWide Tryz.prog w r b0 26 v)(h:DataW.Trod enc Tryz.prog w base spare held 26 v d p):
  ∃(A:Option Addr) (c:Nat) (ws:List Int),v= .slice A ws.length c/\ws.length<=c/\(Kd.int .u16).C w A ws.length ws/\∀j:Nat,j<ws.length->0<=rd ws (j:Int)/\rd ws (j:Int)<65536:=by
 obtain⟨a,l,c,rfl⟩:=okWide_slice Tryz.underlying26 hv
 obtain⟨fuel,hf⟩:=h
 have hf':DataW.trod enc Tryz.prog w base spare held fuel 26 [.slice a l c]=some (d,p):=by simpa[Value.cells] using hf
 obtain⟨A,c',xs,e,hl,_,hC⟩:=wU Qm (t:=26) (e:=156) Tryz.underlying26 Li (λn cs y=>JU n cs y) hf'
 refine⟨A,c',xs.map Subtype.val,by rw[List.length_map];exact e,by rw[List.length_map];exact hl,XM hC,λj hj=>?_⟩
 rw[List.length_map] at hj
 have:rd (xs.map Subtype.val) (j:Int)=(xs[j]).1:=by simp[rd,List.getD,hj]
 rw[this]
 exact(xs[j]).2
end
end Ag
end Go.Proofs.YtdekaocdmjndaaaGreat
namespace Go.Proofs.YtdekaocdmjndaaaGreat.lM
set_option maxRecDepth 100000
theorem Zn:(Rows.topAnyRecordsRow.wf (OpenSpec.ofChange Rows.topAnyRecordsSpec))=true:=by kernel_rfl
theorem Zm:(laidOutB Tryz.prog)=true:=by kernel_rfl
theorem Zl:(mapsRowed Tryz.prog)=true:=by kernel_rfl
theorem Zk:(Tryz.f4.params.all (Tryz.prog.readableRec ·))=true:=by kernel_rfl
theorem Zj:(namedTie Tryz.prog Rows.topAnyRecordsRow.named Rows.topAnyRecordsSpec.vars)=true:=by kernel_rfl
theorem Zi:((Rows.topAnyRecordsRow.stops==[]))=true:=by kernel_rfl
theorem Zh:((Tryz.prog.stops==[]))=true:=by kernel_rfl
theorem Zg:((Rows.topAnyRecordsRow.knobs==[]))=true:=by kernel_rfl
theorem Zf:((Tryz.prog.stopKnobs==[]))=true:=by kernel_rfl
theorem VV:((Rows.topAnyRecordsRow.inPlace==Tryz.prog.inPlace 4))=true:=by kernel_rfl
theorem VU:((Rows.topAnyRecordsRow.unfollowed==Tryz.prog.unfollowed 4))=true:=by kernel_rfl
theorem VT:((Rows.topAnyRecordsRow.recurses==Tryz.prog.recurses 4))=true:=by kernel_rfl
theorem VS:((Rows.topAnyRecordsRow.named==Tryz.prog.varsNamed 4))=true:=by kernel_rfl
theorem VR:((Rows.topAnyRecordsRow.maps==(Tryz.f4.params.toList++Rows.topAnyRecordsSpec.plain.varTypes Tryz.prog).any (Tryz.prog.mapsRec ·)))=true:=by kernel_rfl
theorem VQ:((Rows.topAnyRecordsRow.ifaces==(Tryz.f4.params.toList++Rows.topAnyRecordsSpec.plain.varTypes Tryz.prog).any (Tryz.prog.ifacesRec ·)))=true:=by kernel_rfl
theorem VP:((Rows.topAnyRecordsRow.mapsOut==Tryz.prog.mapsAmong Tryz.f4.resultTypes.toList))=true:=by kernel_rfl
theorem VO:((Rows.topAnyRecordsRow.loops==(Tryz.f4.params.toList++Rows.topAnyRecordsSpec.plain.varTypes Tryz.prog).any (Tryz.prog.loopsFrom ·)))=true:=by kernel_rfl
theorem VN:((Rows.topAnyRecordsRow.wideKeys==(Tryz.f4.params.toList++Rows.topAnyRecordsSpec.plain.varTypes Tryz.prog++Tryz.f4.resultTypes.toList).any (Tryz.prog.wideKeysFrom ·)))=true:=by kernel_rfl
theorem VM:(Rows.topAnyRecordsSpec.vars.all (Tryz.prog.varReadable ·))=true:=by kernel_rfl
theorem VL:(Tryz.f4.resultTypes.all (λt=>Tryz.prog.readableRec t&&decide (t<Tryz.prog.types.size)))=true:=by kernel_rfl
theorem VK:((Rows.topAnyRecordsRow.ifacesOut==Tryz.f4.resultTypes.toList.any (Tryz.prog.ifacesRec ·)))=true:=by kernel_rfl
theorem VJ:((Rows.topAnyRecordsRow.loopsOut==Tryz.f4.resultTypes.toList.any (Tryz.prog.loopsFrom ·)))=true:=by kernel_rfl
theorem VI:((Rows.topAnyRecordsRow.plainKeys==Tryz.prog.plainKeys))=true:=by kernel_rfl
theorem VH:(Rows.topAnyRecordsRow.shortTexts.isNone)=true:=by kernel_rfl
theorem VG:(Tryz.prog.stopsHeard)=true:=by kernel_rfl
theorem VF:(Tryz.prog.mayEnter)=true:=by kernel_rfl
theorem VE:((Rows.topAnyRecordsRow.lifted==Tryz.prog.liftsFinal))=true:=by kernel_rfl
theorem VD:((Tryz.prog.make==some Rows.topAnyRecordsRow.make))=true:=by kernel_rfl
theorem VC:((Rows.topAnyRecordsRow.kinds==(if Rows.topAnyRecordsRow.domain.isEmpty then [] else Tryz.f4.params.toList.map λt=>match Tryz.prog.underlying t with|some (.int k)=>some k|_=>none)))=true:=by kernel_rfl
theorem VB:((Rows.topAnyRecordsRow.pinned==Rows.topAnyRecordsRow.pinnedBy))=true:=by kernel_rfl
theorem VA:((Rows.topAnyRecordsRow.veiled==(Tryz.f4.params.toList++Rows.topAnyRecordsSpec.plain.varTypes Tryz.prog++Tryz.f4.resultTypes.toList).any (Tryz.prog.veiledRec ·)))=true:=by kernel_rfl
theorem Vz:(Rows.topAnyRecordsRow.veiledFits Tryz.prog Tryz.f4.params.toList (Tryz.f4.params.toList++Rows.topAnyRecordsSpec.plain.varTypes Tryz.prog++Tryz.f4.resultTypes.toList))=true:=by kernel_rfl
theorem closed:joinedFacts Tryz.prog 4 Tryz.f4 Rows.topAnyRecordsSpec Rows.topAnyRecordsRow=true:=by
 unfold joinedFacts
 simp only[Bool.and_eq_true]
 exact⟨⟨⟨⟨⟨⟨⟨⟨⟨⟨⟨⟨⟨⟨⟨⟨⟨⟨⟨⟨⟨⟨⟨⟨⟨⟨⟨⟨⟨⟨⟨Zn,Zm⟩,Zl⟩,Zk⟩,Zj⟩,Zi⟩,Zh⟩,Zg⟩,Zf⟩,VV⟩,VU⟩,VT⟩,VS⟩,VR⟩,VQ⟩,VP⟩,VO⟩,VN⟩,VM⟩,VL⟩,VK⟩,VJ⟩,VI⟩,VH⟩,VG⟩,VF⟩,VE⟩,VD⟩,VC⟩,VB⟩,VA⟩,Vz⟩
theorem named:(Tryz.prog).funcNamed (Rows.topAnyRecordsRow).func=some 4:=by kernel_rfl
open Go.ChangeShapes Go.WideShapes Go.ChangeAt Go.RowKit ah YtdekaocdmjndaaaGreatW.aj Ag
theorem own:ownKnob Tryz.prog.godebug=none:=by kernel_rfl
theorem laidOut:laidOutB Tryz.prog=true:=by kernel_rfl
theorem lifted(os:Os)(started:os.Started)(H:Type)(enc:TypeId×Value->H):
  ReturnsInHanded {} Tryz.checked os 4 .any (Rows.topAnyRecordsSpec.pre6 enc Tryz.prog Tryz.f4 Rows.topAnyRecordsRow.domain false) (Rows.topAnyRecordsSpec.post enc Tryz.prog Tryz.f4 false true false false):=by
 refine returnsInHanded_of_change_sized (C:=Tryz.checked) own started (by kernel_rfl) Tryz.func4
  (ChangeSpec.witness6 (enc:=enc) (C:=Tryz.checked) false ⟨#[],#[.agg #[.int .i64 0,.int .i64 0,.slice none 0 0,.slice none 0 0],.agg #[.int .i64 0,.int .i64 0,.slice none 0 0,.slice none 0 0],.int .i64 0,.slice none 0 0],[]⟩ 4 (by kernel_rfl) (by kernel_rfl) (by kernel_rfl) (by kernel_rfl)) ?_
 intro W base args ds gs before hval0 hW hcnd hsz0 _
 have hval:∀(j:Nat) t v,Tryz.f4.params[j]?=some t->args[j]?=some v->Value.okWide Tryz.prog W .any base t v:=hval0
 have hW':=hW
 obtain⟨p,q,hA0,hV,rfl,hfz,hnd⟩:=hW
 have hA:DataW.TrodAll enc Tryz.prog W 0 (λ_=>true) true Tryz.f4.params.toList args.toList ds p:=hA0
 rw[Tryz.params4] at hA hval
 obtain⟨v0,vs0,d0,ds0,p0,q0,hargs,rfl,rfl,h0,r0⟩:=trodAll_cons hA
 obtain⟨v1,vs1,d1,ds1,p1,q1,rfl,rfl,rfl,h1,r1⟩:=trodAll_cons r0
 obtain⟨v2,vs2,d2,ds2,p2,q2,rfl,rfl,rfl,h2,r2⟩:=trodAll_cons r1
 obtain⟨v3,vs3,d3,ds3,p3,q3,rfl,rfl,rfl,h3,r3⟩:=trodAll_cons r2
 obtain⟨rfl,rfl,rfl⟩:=trodAll_nil r3
 obtain rfl:args=#[v0,v1,v2,v3]:=by cases args;simp_all
 obtain⟨rfl,rfl⟩:=trodVars_none hV
 have k0:=h0
 have lt0:∀x ∈ p0,x.block<W.heap.size:=by obtain⟨m,hm⟩:=k0;exact DataW.trod_lt m _ _ _ hm
 have k1:=h1
 have lt1:∀x ∈ p1,x.block<W.heap.size:=by obtain⟨m,hm⟩:=k1;exact DataW.trod_lt m _ _ _ hm
 obtain⟨lo,hi,Ar,cr,rr,Ac,cc,rc,rfl,hcr,hcc,hkr,hkc⟩:=xG (hval 0 59 v0 rfl rfl) h0
 obtain⟨lo2,hi2,Br,dr,sr,Bc,dc,sc,rfl,hdr,Q9,hks,hkq⟩:=xG (hval 1 59 v1 rfl rfl) h1
 have k2:=h2
 have lt2:∀x ∈ p2,x.block<W.heap.size:=by obtain⟨m,hm⟩:=k2;exact DataW.trod_lt m _ _ _ hm
 have k3:=h3
 have lt3:∀x ∈ p3,x.block<W.heap.size:=by obtain⟨m,hm⟩:=k3;exact DataW.trod_lt m _ _ _ hm
 obtain⟨day,rfl⟩:=Nf (hval 2 3 v2 rfl rfl)
 obtain⟨Aw,cw,ws,rfl,hcw,hrw,hws⟩:=GH (hval 3 26 v3 rfl rfl) h3
 clear hA0 hval0 hsz0
 refine(Kv lo hi lo2 hi2 day rr sr rc sc ws W hkr hcr hkc hcc hks hdr hkq Q9 hrw hcw hws).mono λe W' ⟨he,ZL⟩=>?_
 subst he
 exact⟨_,rfl,_,_,_,[],_,[],hW',trodAll_mk1 (shut_bool Tryz.underlying4 _),(trodAll_cons_mk (Below.trod laidOut (by kernel_rfl) (of_decide_eq_true (by kernel_rfl)) k0 ZL lt0) (trodAll_cons_mk (Below.trod laidOut (by kernel_rfl) (of_decide_eq_true (by kernel_rfl)) k1 ZL lt1) (trodAll_cons_mk (Below.trod laidOut (by kernel_rfl) (of_decide_eq_true (by kernel_rfl)) k2 ZL lt2) (trodAll_cons_mk (Below.trod laidOut (by kernel_rfl) (of_decide_eq_true (by kernel_rfl)) k3 ZL lt3) trodAll_mk0)))),rfl,ZL.frame _,λh=>by cases h⟩
theorem inst:Tryz.f4.isInstance Tryz.prog Rows.topAnyRecordsRow.origin Rows.topAnyRecordsRow.targs:=of_decide_eq_true (by kernel_rfl)
theorem wrap:Tryz.f4.isWrapper Tryz.prog Rows.topAnyRecordsRow.wrapper Rows.topAnyRecordsRow.mainSum:=by unfold Func.isWrapper;first|(rw[if_pos (by decide +kernel)];kernel_rfl)|(rw[if_neg (by decide +kernel)];exact⟨rfl,rfl⟩)
theorem over:Rows.topAnyRecordsRow.holds Tryz.pinned (OpenSpec.ofChange Rows.topAnyRecordsSpec):=
 OpenClaim.holds_of_wide 4 Tryz.f4 rfl rfl rfl rfl rfl rfl rfl ⟨rfl,rfl,rfl,rfl,rfl⟩ rfl rfl rfl rfl rfl named Tryz.func4 closed inst wrap
  (λos started H enc _=>lifted os started H enc)
theorem proved:Rows.TopAnyRecordsSaid:=over
#print axioms proved
end Go.Proofs.YtdekaocdmjndaaaGreat.lM
namespace Go.Proofs.YtdekaocdmjndaaaGreat
theorem topAnyRecords_holds:Rows.TopAnyRecordsSaid:=lM.proved
end Go.Proofs.YtdekaocdmjndaaaGreat
