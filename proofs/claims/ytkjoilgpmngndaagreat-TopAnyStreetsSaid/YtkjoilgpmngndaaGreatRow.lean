/- TopAnyStreetsSaid is proved in full, for every input, with no condition; the other files of the claim (merged and written in short) hold the lemmas. -/
import Derived.Below
import Derived.Carry
import Derived.ChangeOld
import Derived.ChangeSame
import Derived.Deep.Slices
import Derived.Deep.Strs
import Derived.Lib.SmallJoins
import Derived.OpenShut
import Derived.ProofKit
import Derived.ShutString
import Derived.SizedLaws
import Derived.WalkKit
import Derived.Test.YtkjoilgpmngndaaGreatRows
import Derived.Test.YtkjoilgpmngndaaGreatQ41
set_option linter.all false
namespace Go.Proofs.YtkjoilgpmngndaaGreat
open Go.RowKit Go.Shelf Go.Proofs.YtkjoilgpmngndaaGreat.av Go.Proofs.YtkjoilgpmngndaaGreatW.aA Go.Proofs.YtkjoilgpmngndaaGreatW.aJ Go.Proofs.YtkjoilgpmngndaaGreatW.dn
set_option maxRecDepth 100000 in
set_option maxHeartbeats 40000000 in
theorem PX{A0:Option Addr}{c0:Nat}(old:List Int)(nw:Int){A2:Option Addr}{c2:Nat}(rs:List ql){A3:Option Addr}{c3:Nat}(rj:List kW)(lo hi:Int){Ap Aw:Option Addr}{cp cw:Nat}(ps ws:List Int)(w:World)
  (h0:(Kd.int .i64).C w A0 old.length old) (hc0:old.length<=c0) (h2:Dc.C w A2 rs.length rs) (hc2:rs.length<=c2) (h3:Cu.C w A3 rj.length rj) (hc3:rj.length<=c3)
  (hp:(Kd.int .i64).C w Ap ps.length ps) (hw:(Kd.int .u16).C w Aw ws.length ws) (hcw:ws.length<=cw) (hws:∀j:Nat,j<ws.length->0<=rd ws (j:Int)/\rd ws (j:Int)<65536):
  Calls Tryz.prog 3 #[.agg #[.slice A0 old.length c0,.int .i64 nw,.slice A2 rs.length c2,.slice A3 rj.length c3],.agg #[.int .i64 lo,.int .i64 hi],.slice Ap ps.length cp,.slice Aw ws.length cw] w fun e w'=>e= .returned (.bool true)/\Below w.heap.size w w':=by
 have K0:=aa.mk h0
 have K2:=aa.mk h2
 have K3:=aa.mk h3
 have KP:=aa.mk hp
 have KW:=aa.mk hw
 have HWS:=aa.mk hws
 clear h0 h2 h3 hp hw hws
 go_enter Tryz.func3,Tryz.ntmps3
 refine dZ 0 (by kernel_rfl) (fun K hK=>?_)
 unfold jI
 conv=>arg 2;whnf
 go_wp2_with fail
 refine dZ 1 (by kernel_rfl) (fun K1 hK1=>?_)
 unfold jI
 conv=>arg 2;whnf
 have HB0:=aa.mk (ae (ae (Below.refl w.heap.size w) (.cells #[.slice A0 old.length c0,.int .i64 nw,.slice A2 rs.length c2,.slice A3 rj.length c3] 26)) (.cells #[.int .i64 lo,.int .i64 hi] 28))
 have Dv:=aa.mk ((aR.new w [.slice A0 old.length c0,.int .i64 nw,.slice A2 rs.length c2,.slice A3 rj.length c3] 26).alloc (.cells #[.int .i64 lo,.int .i64 hi] 28))
 have NZ:=aa.mk (aR.second w (.cells #[.slice A0 old.length c0,.int .i64 nw,.slice A2 rs.length c2,.slice A3 rj.length c3] 26) [.int .i64 lo,.int .i64 hi] 28)
 have hs0:w.heap.size+1<((w.alloc (.cells #[.slice A0 old.length c0,.int .i64 nw,.slice A2 rs.length c2,.slice A3 rj.length c3] 26)).alloc (.cells #[.int .i64 lo,.int .i64 hi] 28)).heap.size:=by simp
 generalize(w.alloc (.cells #[.slice A0 old.length c0,.int .i64 nw,.slice A2 rs.length c2,.slice A3 rj.length c3] 26)).alloc (.cells #[.int .i64 lo,.int .i64 hi] 28)=w0 at HB0 Dv NZ hs0 ⊢
 have pW:=Dv.out.cell 0
 have pV:=Dv.out.cell 1
 have BU:=Dv.out.cell 2
 have h43:=Dv.out.cell 3
 simp only[List.getElem?_cons_zero,List.getElem?_cons_succ] at pW pV BU h43
 go_wp2_with fail
 refine(iM.calls A0 c0 old nw A2 c2 rs A3 c3 rj _ w0 (Kd.aK K0.out HB0.out) hc0 (Kd.aK K2.out HB0.out) hc2 (Kd.aK K3.out HB0.out) hc3 (Y8 old nw rs rj)).mono ?_
 rintro e w1 ⟨rfl,hb1⟩
 have HB1:=aa.mk (HB0.out.trans (hb1.mono HB0.out.size))
 have O6:=aa.mk (Dv.out.below hb1)
 have B51:=aa.mk (NZ.out.below hb1)
 have hs1:=Nat.lt_of_lt_of_le hs0 hb1.size
 clear pW pV BU h43 hb1 HB0 Dv NZ hs0
 have pW:=O6.out.cell 0
 have pV:=O6.out.cell 1
 have BU:=O6.out.cell 2
 have h43:=O6.out.cell 3
 simp only[List.getElem?_cons_zero,List.getElem?_cons_succ] at pW pV BU h43
 cases hth:(decide (old.length<=7)&&(decide (rs.length<=11)&&decide (rj.length<=24)))
 .go_wp2_with fail
  refine(jT _).mono ?_
  rintro e w2 ⟨rfl,hb2⟩
  have HB2:=aa.mk (HB1.out.trans (hb2.mono HB1.out.size))
  go_wp2_with fail
  go_ret
  exact⟨rfl,HB2.out⟩
 .simp only[Bool.and_eq_true,decide_eq_true_eq] at hth
  obtain⟨ht0,ht2,ht3⟩:=hth
  obtain⟨kf,rf,hf,hfv⟩:=LM old nw rs rj (by omega) (by omega) (by omega)
  have HFV:=aa.mk hfv
  have HF:=aa.mk hf
  clear hf hfv
  go_wp2_with fail
  refine(ai.calls kf A0 c0 old nw A2 c2 rs A3 c3 rj rf w1 (Kd.aK K0.out HB1.out) hc0 (Kd.aK K2.out HB1.out) hc2 (Kd.aK K3.out HB1.out) hc3 HF.out).mono ?_
  rintro e w2 ⟨rfl,hb2⟩
  have HB2:=aa.mk (HB1.out.trans (hb2.mono HB1.out.size))
  have xO:=aa.mk (O6.out.below hb2)
  have QU:=aa.mk (B51.out.below hb2)
  have hs2:=Nat.lt_of_lt_of_le hs1 hb2.size
  clear hb2 HB1 O6 B51 hs1 pW pV BU h43
  have pW:=xO.out.cell 0
  have pV:=xO.out.cell 1
  have BU:=xO.out.cell 2
  have h43:=xO.out.cell 3
  simp only[List.getElem?_cons_zero,List.getElem?_cons_succ] at pW pV BU h43
  cases hrf:(rf !=0)
  rotate_left
  .go_wp2_with fail
   refine(jT _).mono ?_
   rintro e w3 ⟨rfl,hb3⟩
   have HB3:=aa.mk (HB2.out.trans (hb3.mono HB2.out.size))
   go_wp2_with fail
   go_ret
   exact⟨rfl,HB3.out⟩
  .have acV:rf=0:=by simpa using hrf
   have HV:=aa.mk (HFV.out acV)
   subst acV
   clear HFV HF hrf
   by_cases hpl:(11:Int)<(ps.length:Int)
   .have hpd:decide ((11:Int)<(ps.length:Int))=true:=by simpa using hpl
    go_wp2_with fail
    refine(jT _).mono ?_
    rintro e w3 ⟨rfl,hb3⟩
    have HB3:=aa.mk (HB2.out.trans (hb3.mono HB2.out.size))
    go_wp2_with fail
    go_ret
    exact⟨rfl,HB3.out⟩
   .have hpd:decide ((11:Int)<(ps.length:Int))=false:=by simpa using hpl
    clear hpl
    have YF:=aa.mk hpd
    go_wp2_with fail
    clear hpd
    refine dZ 2 (by kernel_rfl) (fun K2_ hK2=>?_)
    unfold jI
    conv=>arg 2;whnf
    go_wp2_with fail
    refine dZ 3 (by kernel_rfl) (fun K3_ hK3=>?_)
    unfold jI
    conv=>arg 2;whnf
    obtain⟨k1,fr,bk,s,t,hf1,hr1,hTf,hTk⟩:=Dt rs.length (by omega) ws HWS.out
    have HF1:=aa.mk hf1
    have HR1:=aa.mk hr1
    have TF:=aa.mk hTf
    have TK:=aa.mk hTk
    have HFL:=aa.mk hTf.len
    have NS:=aa.mk hTk.len
    clear hf1 hr1 hTf hTk
    go_wp2_with fail
    refine(ay.calls k1 (rs.length:Int) Aw cw ws fr bk w2 (Kd.aK KW.out HB2.out) hcw HF1.out).mono ?_
    rintro e w3 ⟨v0,v1,rfl,hRf,hRk,hb3⟩
    obtain⟨Af,cf,rfl,hcf,_⟩:=Kd.dU hRf
    obtain⟨Ak,ck,rfl,hck,_⟩:=Kd.dU hRk
    have RF3:=aa.mk (Kd.cK hRf (fun _ _=>trivial):(Kd.int .i64).R 3 w3 w2.heap.size (fun _=>True) (.slice Af fr.length cf) fr)
    have RK3:=aa.mk (Kd.cK hRk (fun _ _=>trivial):(Kd.int .i64).R 3 w3 w2.heap.size (fun _=>True) (.slice Ak bk.length ck) bk)
    have HB3:=aa.mk (HB2.out.trans (hb3.mono HB2.out.size))
    have Ll:=aa.mk (xO.out.below hb3)
    have B53:=aa.mk (QU.out.below hb3)
    have hs3:=Nat.lt_of_lt_of_le hs2 hb3.size
    clear hRf hRk hcf hck hb3 HB2 xO QU hs2 pW pV BU h43
    have h43:=Ll.out.cell 3
    simp only[List.getElem?_cons_zero,List.getElem?_cons_succ] at h43
    go_wp2_with fail
    refine dZ 4 (by kernel_rfl) (fun K4_ hK4=>?_)
    unfold jI
    conv=>arg 2;whnf
    obtain⟨k2,jf,jb,σ,τ,hf2,hr2,hTj,_⟩:=Dt rj.length (by omega) ws HWS.out
    have CP:=aa.mk hf2
    have HR2:=aa.mk hr2
    have TJ:=aa.mk hTj
    clear hf2 hr2 hTj
    go_wp2_with fail
    refine(ay.calls k2 (rj.length:Int) Aw cw ws jf jb w3 (Kd.aK KW.out HB3.out) hcw CP.out).mono ?_
    rintro e w4 ⟨v0,v1,rfl,hRf,hRk,hb3⟩
    obtain⟨Aj,cj,rfl,hcj,_⟩:=Kd.dU hRf
    obtain⟨Ab,cb,rfl,hcb,_⟩:=Kd.dU hRk
    have RJ4:=aa.mk (Kd.cK hRf (fun _ _=>trivial):(Kd.int .i64).R 3 w4 w3.heap.size (fun _=>True) (.slice Aj jf.length cj) jf)
    have RF4:=aa.mk (Kd.fC RF3.out hb3)
    have RK4:=aa.mk (Kd.fC RK3.out hb3)
    have kY:=aa.mk (HB3.out.trans (hb3.mono HB3.out.size))
    have Uq:=aa.mk (Ll.out.below hb3)
    have B54:=aa.mk (B53.out.below hb3)
    have hs4:=Nat.lt_of_lt_of_le hs3 hb3.size
    clear hRf hRk hcj hcb hb3 HB3 Ll B53 hs3 RF3 RK3 h43
    go_wp2_with fail
    refine dZ 5 (by kernel_rfl) (fun K5_ WN=>?_)
    unfold jI
    conv=>arg 2;whnf
    have pW:=Uq.out.cell 0
    have pV:=Uq.out.cell 1
    simp only[List.getElem?_cons_zero,List.getElem?_cons_succ] at pW pV
    go_wp2_with fail
    have BX:=aa.mk (aR.new w4 [.slice A0 old.length c0,.int .i64 nw,.slice none 0 0,.slice none 0 0] 26)
    have Lj:=aa.mk (Uq.out.alloc (.cells #[.slice A0 old.length c0,.int .i64 nw,.slice none 0 0,.slice none 0 0] 26))
    have B55:=aa.mk (B54.out.alloc (.cells #[.slice A0 old.length c0,.int .i64 nw,.slice none 0 0,.slice none 0 0] 26))
    have uY:=aa.mk (ae kY.out (.cells #[.slice A0 old.length c0,.int .i64 nw,.slice none 0 0,.slice none 0 0] 26))
    have RF5:=aa.mk (Kd.cK (Kd.lL (Kd.dA RF4.out (.cells #[.slice A0 old.length c0,.int .i64 nw,.slice none 0 0,.slice none 0 0] 26)) BX.out (by decide)) (fun b hb=>(hb.2:b≠w4.heap.size)))
    have RK5:=aa.mk (Kd.cK (Kd.lL (Kd.dA RK4.out (.cells #[.slice A0 old.length c0,.int .i64 nw,.slice none 0 0,.slice none 0 0] 26)) BX.out (by decide)) (fun b hb=>(hb.2:b≠w4.heap.size)))
    have RJ5:=aa.mk (Kd.cK (Kd.lL (Kd.dA RJ4.out (.cells #[.slice A0 old.length c0,.int .i64 nw,.slice none 0 0,.slice none 0 0] 26)) BX.out (by decide)) (fun b hb=>(hb.2:b≠w4.heap.size)))
    have TF':=aa.mk (show ky fr.length s fr by rw[HFL.out];exact TF.out)
    clear Uq B54 kY RF4 RK4 RJ4 pW pV
    generalize w4.alloc (.cells #[.slice A0 old.length c0,.int .i64 nw,.slice none 0 0,.slice none 0 0] 26)=w5 at BX Lj B55 uY RF5 RK5 RJ5 ⊢
    generalize w4.heap.size=b14 at BX RF5 RK5 RJ5 hs4 ⊢
    rw[<- HFL.out]
    refine aiO (w0:=w) (X2:=none) (n2:=0) (x2:=0) (rs2:=[]) (base2:=0) (ps:=ps) (cp:=cp) (ws:=ws) (cw:=cw) (fr:=fr) (cf:=cf) (bk:=bk) (ck:=ck) (jf:=jf) (cj:=cj) _ ?_ uY Lj B55 hs4 RF5 RK5 RJ5 K0 K2 K3 KP KW hcw HV TF' TK TJ HR1 HR2 HFL ht0 ht2 ht3 BX
    rfl
end Go.Proofs.YtkjoilgpmngndaaGreat
namespace Go.Proofs.YtkjoilgpmngndaaGreat
open Go.RowKit Go.ChangeShapes Go.WideShapes Go.Deep Go.Proofs.YtkjoilgpmngndaaGreat.av Go.Proofs.YtkjoilgpmngndaaGreatW.aA
section
variable {H:Type} {enc:TypeId×Value->H} {P:Program} {w:World} {base:Nat} {spare:Nat->Bool} {held:Bool}
theorem qa{α:Type}(d:Kd α){t e:TypeId}{fuel:Nat}{v:Value}{x:DataW H×List MemPlace}(ht:P.underlying t=some (.slice e))(hc:P.cellsOf e=d.sz)
  (hel:∀(n:Nat) (cs:List Value) (y:DataW H×List MemPlace),cs.length=d.sz->DataW.trod enc P w base spare held n e cs=some y->∃z,d.K w z cs)
  (h:DataW.trod enc P w base spare held fuel t [v]=some x):∃(A:Option Addr) (c:Nat) (l:List α),v= .slice A l.length c/\l.length<=c/\c<=maxLen/\d.C w A l.length l:=by
 rcases open_slice ht h with⟨hcs,_⟩|⟨a,len,cap,m,n,D,Pl,hcs,hb,hl,hm,hmm,hx,hi⟩
 .obtain rfl:v= .slice none 0 0:=by simpa using hcs
  exact⟨none,0,[],rfl,Nat.le_refl _,Nat.zero_le _,⟨rfl,by simp,fun h=>absurd h (by simp)⟩⟩
 .obtain rfl:v= .slice (some a) len cap:=by simpa using hcs
  have hlm:len<=m:=by rw[hmm];split<;>omega
  have key:∀i:Fin len,∃z:α,∃cs:List Value,cs.length=d.sz/\d.K w z cs/\∀j u,cs[j]?=some u->w.cell? (a.add (i.1*d.sz+j))=some u:=by
   intro i
   obtain⟨cs',hcc,htr⟩:=hi i.1 (by omega)
   rw[hc] at hcc
   obtain⟨_,hcl,hat⟩:=World.cells?_some hcc
   obtain⟨z,hz⟩:=hel n cs' _ hcl htr
   refine⟨z,cs',hcl,hz,fun j u hj=>?_⟩
   have hjl:j<d.sz:=by
    rw[<- hcl]
    exact(List.getElem?_eq_some_iff.1 hj).1
   have:=hat j hjl
   rw[<- Go.Deep.add_add,this,hj]
  obtain⟨f,hf⟩:=Classical.axiomOfChoice key
  have hlen:(List.ofFn f).length=len:=by simp
  have hcap:len<=9223372036854775807:=by
   have:maxLen<=9223372036854775807:=by decide
   omega
  refine⟨some a,cap,List.ofFn f,by rw[hlen],by rw[hlen];exact hl,hm,?_⟩
  refine⟨rfl,by rw[hlen];exact hcap,fun _=>⟨a,rfl,fun j p hj=>?_⟩⟩
  obtain⟨hjl,hjp⟩:=List.getElem?_eq_some_iff.1 hj
  rw[hlen] at hjl
  obtain⟨cs,h1,h2,h3⟩:=hf ⟨j,hjl⟩
  have hp:f ⟨j,hjl⟩=p:=by rw[<- hjp];simp
  rw[hp] at h2
  exact⟨cs,h1,h2,h3⟩
end
section
variable {H:Type} {enc:TypeId×Value->H} {w:World} {base:Nat} {spare:Nat->Bool} {held:Bool}
theorem XO{α:Type}{l:List α}(h:l.length=2):∃a b,l=[a,b]:=by
 match l,h with
 |[a,b],_=>exact⟨a,b,rfl⟩
theorem acJ{α:Type}{l:List α}(h:l.length=5):∃a b c d e,l=[a,b,c,d,e]:=by
 match l,h with
 |[a,b,c,d,e],_=>exact⟨a,b,c,d,e,rfl⟩
theorem Dn:Tryz.prog.cellsOf 3=(Kd.int .i64).sz:=by kernel_rfl
theorem KD:Tryz.prog.cellsOf 28=2:=by kernel_rfl
theorem Nc:Tryz.prog.cellsOf 38=Cu.sz:=by kernel_rfl
theorem Iq:Tryz.prog.cellsOf 36=Dc.sz:=by kernel_rfl
theorem Qv:Tryz.prog.cellsOf 26=4:=by kernel_rfl
theorem De(n:Nat)(cs:List Value)(y:DataW H×List MemPlace)(hl:cs.length=(Kd.int .i64).sz)(h:DataW.trod enc Tryz.prog w base spare held n 3 cs=some y):∃z,(Kd.int .i64).K w z cs:=by
 obtain⟨a,e0,_,_⟩:=DataW.trod_int Tryz.underlying3 h
 exact⟨a,e0⟩
theorem Jy(n:Nat)(cs:List Value)(y:DataW H×List MemPlace)(hl:cs.length=2)(h:DataW.trod enc Tryz.prog w base spare held n 28 cs=some y):∃z,k28.K w z cs:=by
 obtain⟨c0,c1,rfl⟩:=XO hl
 obtain⟨y0,y1,m,_,_,h0,h1⟩:=trod_struct2 Tryz.underlying28 h
 have e:Tryz.prog.cellsOf 3=1:=by kernel_rfl
 simp only[e,List.drop_zero,List.drop_succ_cons,List.take_succ_cons,List.take_zero] at h0 h1
 obtain⟨a,e0,_,_⟩:=DataW.trod_int Tryz.underlying3 h0
 obtain⟨b,e1,_,_⟩:=DataW.trod_int Tryz.underlying3 h1
 obtain rfl:c0= .int .i64 a:=by simpa using e0
 obtain rfl:c1= .int .i64 b:=by simpa using e1
 exact⟨⟨a,b⟩,R6 w ⟨a,b⟩⟩
theorem MQ(n:Nat)(cs:List Value)(y:DataW H×List MemPlace)(hl:cs.length=Cu.sz)(h:DataW.trod enc Tryz.prog w base spare held n 38 cs=some y):∃z,Cu.K w z cs:=by
 obtain⟨c0,c1,rfl⟩:=XO (show cs.length=2 from hl)
 obtain⟨y0,y1,m,_,_,h0,h1⟩:=trod_struct2 Tryz.underlying38 h
 have e:Tryz.prog.cellsOf 3=1:=by kernel_rfl
 simp only[e,List.drop_zero,List.drop_succ_cons,List.take_succ_cons,List.take_zero] at h0 h1
 obtain⟨a,e0,_,_⟩:=DataW.trod_int Tryz.underlying3 h0
 obtain⟨b,e1,_,_⟩:=DataW.trod_int Tryz.underlying3 h1
 obtain rfl:c0= .int .i64 a:=by simpa using e0
 obtain rfl:c1= .int .i64 b:=by simpa using e1
 exact⟨⟨a,b⟩,ZC w ⟨a,b⟩⟩
theorem DC(n:Nat)(cs:List Value)(y:DataW H×List MemPlace)(hl:cs.length=Dc.sz)(h:DataW.trod enc Tryz.prog w base spare held n 36 cs=some y):∃z,Dc.K w z cs:=by
 obtain⟨c0,c1,c2,c3,c4,rfl⟩:=acJ (show cs.length=5 from hl)
 obtain⟨x0,x1,x2,x3,m,_,_,h0,h1,h2,h3⟩:=Go.Joins.trod_struct4 Tryz.underlying36 h
 have e:Tryz.prog.cellsOf 3=1:=by kernel_rfl
 have e2:Tryz.prog.cellsOf 28=2:=by kernel_rfl
 simp only[e,e2,List.drop_zero,List.drop_succ_cons,List.take_succ_cons,List.take_zero] at h0 h1 h2 h3
 obtain⟨a,e0,_,_⟩:=DataW.trod_int Tryz.underlying3 h0
 obtain⟨b,e1,_,_⟩:=DataW.trod_int Tryz.underlying3 h1
 obtain⟨c,e3,_,_⟩:=DataW.trod_int Tryz.underlying3 h2
 obtain rfl:c0= .int .i64 a:=by simpa using e0
 obtain rfl:c1= .int .i64 b:=by simpa using e1
 obtain rfl:c2= .int .i64 c:=by simpa using e3
 obtain⟨z,hz⟩:=Jy (w:=w) m [c3,c4] x3 rfl h3
 have:=JX hz
 simp only[List.cons.injEq,and_true] at this
 obtain⟨rfl,rfl⟩:=this
 exact⟨⟨a,b,c,z⟩,ZE w ⟨a,b,c,z⟩⟩
set_option maxRecDepth 100000 in
theorem JI{r:Reach}{b0:Nat}{v:Value}{d:DataW H}{p:List MemPlace}(hv:Value.okWide Tryz.prog w r b0 26 v)(h:DataW.Trod enc Tryz.prog w base spare held 26 v d p):
  ∃(A0:Option Addr) (c0:Nat) (old:List Int) (nw:Int) (A2:Option Addr) (c2:Nat) (rs:List ql) (A3:Option Addr) (c3:Nat) (rj:List kW),
   v= .agg #[.slice A0 old.length c0,.int .i64 nw,.slice A2 rs.length c2,.slice A3 rj.length c3]/\old.length<=c0/\rs.length<=c2/\rj.length<=c3/\(Kd.int .i64).C w A0 old.length old/\Dc.C w A2 rs.length rs/\Cu.C w A3 rj.length rj:=by
 obtain⟨v0,v1,v2,v3,y0,y1,y2,y3,n,rfl,_,_,h0,h1,h2,h3⟩:=Go.Joins.open_agg4 Tryz.underlying26 (by kernel_rfl) Qv hv h
 obtain⟨A0,c0,old,rfl,hl0,_,hC0⟩:=qa (Kd.int .i64) (t:=22) (e:=3) Tryz.underlying22 Dn (fun n cs y=>De n cs y) h0
 obtain⟨nw,e1,_,_⟩:=DataW.trod_int Tryz.underlying3 h1
 obtain rfl:v1= .int .i64 nw:=by simpa using e1
 obtain⟨A2,c2,rs,rfl,hl2,_,hC2⟩:=qa Dc (t:=23) (e:=36) Tryz.underlying23 Iq (fun n cs y=>DC n cs y) h2
 obtain⟨A3,c3,rj,rfl,hl3,_,Yc⟩:=qa Cu (t:=24) (e:=38) Tryz.underlying24 Nc (fun n cs y=>MQ n cs y) h3
 exact⟨A0,c0,old,nw,A2,c2,rs,A3,c3,rj,rfl,hl0,hl2,hl3,hC0,hC2,Yc⟩
set_option maxRecDepth 100000 in
theorem Cr{r:Reach}{b0:Nat}{v:Value}{d:DataW H}{p:List MemPlace}(hv:Value.okWide Tryz.prog w r b0 28 v)(h:DataW.Trod enc Tryz.prog w base spare held 28 v d p):
  ∃lo hi:Int,v= .agg #[.int .i64 lo,.int .i64 hi]:=by
 obtain⟨v0,v1,y0,y1,n,rfl,_,_,h0,h1⟩:=Go.Joins.open_agg2 Tryz.underlying28 (by kernel_rfl) KD hv h
 obtain⟨a,e0,_,_⟩:=DataW.trod_int Tryz.underlying3 h0
 obtain⟨b,e1,_,_⟩:=DataW.trod_int Tryz.underlying3 h1
 obtain rfl:v0= .int .i64 a:=by simpa using e0
 obtain rfl:v1= .int .i64 b:=by simpa using e1
 exact⟨a,b,rfl⟩
theorem Qu:Tryz.prog.cellsOf 111=(Kd.int .u16).sz:=by kernel_rfl
theorem Y7{n:Int}(h:(Lit.int .u16 n).wf=true):0<=n/\n<65536:=by
 simp[Lit.wf] at h
 have e1:IntKind.u16.min=0:=rfl
 have e2:IntKind.u16.max=65535:=rfl
 omega
def UW:Kd {n:Int // 0<=n/\n<65536}:=Kd.scalar (fun n=> .int .u16 n.1) (fun _=>rfl)
theorem acr{w:World}{A:Option Addr}{xs:List {n:Int // 0<=n/\n<65536}}(h:UW.C w A xs.length xs):(Kd.int .u16).C w A (xs.map Subtype.val).length (xs.map Subtype.val):=by
 obtain⟨h1,h2,h3⟩:=h
 refine⟨rfl,by rw[List.length_map];exact h2,fun h0=>?_⟩
 obtain⟨a,e,h4⟩:=h3 (by simpa using h0)
 refine⟨a,e,fun j p hj=>?_⟩
 rw[List.getElem?_map] at hj
 obtain⟨q,hq,rfl⟩:=Option.map_eq_some_iff.1 hj
 obtain⟨cs,h5,h6,h7⟩:=h4 j q hq
 exact⟨cs,h5,h6,h7⟩
theorem Pj(n:Nat)(cs:List Value)(y:DataW H×List MemPlace)(hl:cs.length=UW.sz)(h:DataW.trod enc Tryz.prog w base spare held n 111 cs=some y):∃z,UW.K w z cs:=by
 obtain⟨a,e0,_,hwf⟩:=DataW.trod_int Tryz.underlying111 h
 exact⟨⟨a,Y7 hwf⟩,e0⟩
set_option maxRecDepth 100000 in
theorem MC{r:Reach}{b0:Nat}{v:Value}{d:DataW H}{p:List MemPlace}(hv:Value.okWide Tryz.prog w r b0 29 v)(h:DataW.Trod enc Tryz.prog w base spare held 29 v d p):
  ∃(A:Option Addr) (c:Nat) (ws:List Int),v= .slice A ws.length c/\ws.length<=c/\(Kd.int .u16).C w A ws.length ws/\∀j:Nat,j<ws.length->0<=rd ws (j:Int)/\rd ws (j:Int)<65536:=by
 obtain⟨a,l,c,rfl⟩:=okWide_slice Tryz.underlying29 hv
 obtain⟨fuel,hf⟩:=h
 have hf':DataW.trod enc Tryz.prog w base spare held fuel 29 [.slice a l c]=some (d,p):=by simpa[Value.cells] using hf
 obtain⟨A,c',xs,e,hl,_,hC⟩:=qa UW (t:=29) (e:=111) Tryz.underlying29 Qu (fun n cs y=>Pj n cs y) hf'
 refine⟨A,c',xs.map Subtype.val,by rw[List.length_map];exact e,by rw[List.length_map];exact hl,acr hC,fun j hj=>?_⟩
 rw[List.length_map] at hj
 have:rd (xs.map Subtype.val) (j:Int)=(xs[j]).1:=by simp[rd,List.getD,hj]
 rw[this]
 exact(xs[j]).2
set_option maxRecDepth 100000 in
theorem DL{r:Reach}{b0:Nat}{v:Value}{d:DataW H}{p:List MemPlace}(hv:Value.okWide Tryz.prog w r b0 22 v)(h:DataW.Trod enc Tryz.prog w base spare held 22 v d p):
  ∃(A:Option Addr) (c:Nat) (ps:List Int),v= .slice A ps.length c/\(Kd.int .i64).C w A ps.length ps:=by
 obtain⟨a,l,c,rfl⟩:=okWide_slice Tryz.underlying22 hv
 obtain⟨fuel,hf⟩:=h
 have hf':DataW.trod enc Tryz.prog w base spare held fuel 22 [.slice a l c]=some (d,p):=by simpa[Value.cells] using hf
 obtain⟨A,c',xs,e,hl,_,hC⟩:=qa (Kd.int .i64) (t:=22) (e:=3) Tryz.underlying22 Dn (fun n cs y=>De n cs y) hf'
 exact⟨A,c',xs,e,hC⟩
end
end Go.Proofs.YtkjoilgpmngndaaGreat
namespace Go.Proofs.YtkjoilgpmngndaaGreat.sV
open Go.ChangeShapes Go.WideShapes Go.ChangeAt Go.RowKit Go.Proofs.YtkjoilgpmngndaaGreat.av Go.Proofs.YtkjoilgpmngndaaGreatW.aA
theorem own:ownKnob Tryz.prog.godebug=none:=by kernel_rfl
theorem laidOut:laidOutB Tryz.prog=true:=by kernel_rfl
set_option maxRecDepth 100000 in
theorem lifted(os:Os)(started:os.Started)(H:Type)(enc:TypeId×Value->H):
  ReturnsInHanded {} Tryz.checked os 3 .any (Rows.topAnyStreetsSpec.pre6 enc Tryz.prog Tryz.f3 Rows.topAnyStreetsRow.domain false) (Rows.topAnyStreetsSpec.post enc Tryz.prog Tryz.f3 false true false false):=by
 refine returnsInHanded_of_change_sized (C:=Tryz.checked) own started (by kernel_rfl) Tryz.func3
  (ChangeSpec.witness6 (enc:=enc) (C:=Tryz.checked) false ⟨#[],#[.agg #[.slice none 0 0,.int .i64 0,.slice none 0 0,.slice none 0 0],.agg #[.int .i64 0,.int .i64 0],.slice none 0 0,.slice none 0 0],[]⟩ 4 (by kernel_rfl) (by kernel_rfl) (by kernel_rfl) (by kernel_rfl)) ?_
 intro W base args ds gs before hval0 hW hcnd hsz0 _
 have hval:∀(j:Nat) t v,Tryz.f3.params[j]?=some t->args[j]?=some v->Value.okWide Tryz.prog W .any base t v:=hval0
 have hW':=hW
 obtain⟨p,q,hA0,hV,rfl,hfz,hnd⟩:=hW
 have hA:DataW.TrodAll enc Tryz.prog W 0 (fun _=>true) true Tryz.f3.params.toList args.toList ds p:=hA0
 rw[Tryz.params3] at hA hval
 obtain⟨v0,vs0,d0,ds0,p0,q0,hargs,rfl,rfl,h0,r0⟩:=trodAll_cons hA
 obtain⟨v1,vs1,d1,ds1,p1,q1,rfl,rfl,rfl,h1,r1⟩:=trodAll_cons r0
 obtain⟨v2,vs2,d2,ds2,p2,q2,rfl,rfl,rfl,h2,r2⟩:=trodAll_cons r1
 obtain⟨v3,vs3,d3,ds3,p3,q3,rfl,rfl,rfl,h3,r3⟩:=trodAll_cons r2
 obtain⟨rfl,rfl,rfl⟩:=trodAll_nil r3
 obtain rfl:args=#[v0,v1,v2,v3]:=by cases args;simp_all
 obtain⟨rfl,rfl⟩:=trodVars_none hV
 have k0:=h0
 have lt0:∀x ∈ p0,x.block<W.heap.size:=by obtain⟨m,hm⟩:=k0;exact DataW.trod_lt m _ _ _ hm
 have k1:=h1
 have lt1:∀x ∈ p1,x.block<W.heap.size:=by obtain⟨m,hm⟩:=k1;exact DataW.trod_lt m _ _ _ hm
 obtain⟨A0,c0,old,nw,A2,c2,rs,A3,c3,rj,rfl,hc0,hc2,hc3,hr0,hr2,hr3⟩:=JI (hval 0 26 v0 rfl rfl) h0
 obtain⟨lo,hi,rfl⟩:=Cr (hval 1 28 v1 rfl rfl) h1
 have k2:=h2
 have lt2:∀x ∈ p2,x.block<W.heap.size:=by obtain⟨m,hm⟩:=k2;exact DataW.trod_lt m _ _ _ hm
 have k3:=h3
 have lt3:∀x ∈ p3,x.block<W.heap.size:=by obtain⟨m,hm⟩:=k3;exact DataW.trod_lt m _ _ _ hm
 obtain⟨Ap,cp,ps,rfl,hrp⟩:=DL (hval 2 22 v2 rfl rfl) h2
 obtain⟨Aw,cw,ws,rfl,hcw,hrw,hws⟩:=MC (hval 3 29 v3 rfl rfl) h3
 clear hA0 hval0 hsz0
 refine(PX old nw rs rj lo hi ps ws W hr0 hc0 hr2 hc2 hr3 hc3 hrp hrw hcw hws).mono fun e W' ⟨he,bel⟩=>?_
 subst he
 exact⟨_,rfl,_,_,_,[],_,[],hW',trodAll_mk1 (shut_bool Tryz.underlying4 _),(trodAll_cons_mk (Below.trod laidOut (by kernel_rfl) (of_decide_eq_true (by kernel_rfl)) k0 bel lt0) (trodAll_cons_mk (Below.trod laidOut (by kernel_rfl) (of_decide_eq_true (by kernel_rfl)) k1 bel lt1) (trodAll_cons_mk (Below.trod laidOut (by kernel_rfl) (of_decide_eq_true (by kernel_rfl)) k2 bel lt2) (trodAll_cons_mk (Below.trod laidOut (by kernel_rfl) (of_decide_eq_true (by kernel_rfl)) k3 bel lt3) trodAll_mk0)))),rfl,bel.frame _,fun h=>by cases h⟩
theorem over:Rows.topAnyStreetsRow.holds Tryz.pinned (OpenSpec.ofChange Rows.topAnyStreetsSpec):=
 OpenClaim.holds_of_wide 3 Tryz.f3 rfl rfl rfl rfl rfl rfl rfl ⟨rfl,rfl,rfl,rfl,rfl⟩ rfl rfl rfl rfl rfl (by kernel_rfl) Tryz.func3 (by kernel_rfl)
  (of_decide_eq_true (by kernel_rfl)) (by unfold Func.isWrapper;first|(rw[if_pos (by decide +kernel)];kernel_rfl)|(rw[if_neg (by decide +kernel)];exact⟨rfl,rfl⟩))
  (fun os started H enc _=>lifted os started H enc)
theorem proved:Rows.TopAnyStreetsSaid:=over
#print axioms proved
end Go.Proofs.YtkjoilgpmngndaaGreat.sV
namespace Go.Proofs.YtkjoilgpmngndaaGreat
theorem topAnyStreets_holds:Rows.TopAnyStreetsSaid:=sV.proved
end Go.Proofs.YtkjoilgpmngndaaGreat
