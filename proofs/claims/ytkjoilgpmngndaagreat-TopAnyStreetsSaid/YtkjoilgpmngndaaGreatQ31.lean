import Derived.LoopIn
import Derived.LoopNIn
import Derived.OwnWalkIn
import Derived.RangeFuncBound
import Derived.RangeFuncCalls
import Derived.RangeFuncLeaves
import Derived.RangeFuncNested
import Derived.Shelf.Abstract
import Derived.Shelf.RegionOpen
import Derived.TacticsInMore
import Derived.Test.YtkjoilgpmngndaaGreatQ30
set_option linter.all false
namespace Go.Proofs.YtkjoilgpmngndaaGreat.Wk
open Go.RowKit Go.Proofs.YtkjoilgpmngndaaGreat.av Go.Proofs.YtkjoilgpmngndaaGreatW.aA
structure IsMap(w:World)(A0:Option Addr)(c0:Nat)(W:List mo)(A1:Option Addr)(c1:Nat)(R:List dR):Prop where
 work:Kd.C Ux w A0 W.length W
 lw:W.length<=c0
 roads:Kd.C MO w A1 R.length R
 lr:R.length<=c1
 bw:W.length<=281474976710656
 br:R.length<=281474976710656
theorem IsMap.below{w w1:World}{A0:Option Addr}{c0:Nat}{W:List mo}{A1:Option Addr}{c1:Nat}{R:List dR}(h:IsMap w A0 c0 W A1 c1 R)(hb:Below w.heap.size w w1):IsMap w1 A0 c0 W A1 c1 R:=
 ⟨Kd.aK h.work hb,h.lw,Kd.aK h.roads hb,h.lr,h.bw,h.br⟩
def CX(R:List dR)(a b:Int):Int:=fi (fun r=>DW r a b) R 0
set_option maxHeartbeats 800000 in
theorem LF{A0:Option Addr}{c0:Nat}{W:List mo}{A1:Option Addr}{c1:Nat}{R:List dR}(a b:Int){w:World}(h:IsMap w A0 c0 W A1 c1 R):
  Calls Tryz.prog 97 #[.agg #[.slice A0 W.length c0,.slice A1 R.length c1],.int .i64 a,.int .i64 b] w fun e w'=>e= .returned (.int .i64 (CX R a b))/\Below w.heap.size w w':=by
 have H:=aa.mk h
 clear h
 go_enter Tryz.func97,Tryz.ntmps97
 go_wp2_with fail
 have hB:Below w.heap.size w (((w.alloc (.cells #[.slice A0 W.length c0,.slice A1 R.length c1] 78)).alloc (.cells #[.int .i64 a] 3)).alloc (.cells #[.int .i64 b] 3)):=ae (ae (ae (Below.refl _ _) _) _) _
 refine(MV 127 _ (enters Tryz.func127 (by kernel_rfl) rfl) (fun r=>DW r a b) A1 c1 R _ (H.out.below hB).roads (by have:=H.out.br;omega) ?_).mono ?_
 .intro W' x hW
  have:=Jt x a b (w.heap.size+1) (w.heap.size+2) W' (by rw[hW.cell (p:=⟨w.heap.size+1,0,none⟩) (by simp)];simp[go_sem]) (by rw[hW.cell (p:=⟨w.heap.size+2,0,none⟩) (by simp)];simp[go_sem])
  exact this
 rintro e w' ⟨rfl,hb⟩
 have hres:fi (fun r=>DW r a b) R 0=CX R a b:=rfl
 rw[hres]
 clear hres
 obtain⟨j,hj⟩:∃j,CX R a b=j:=⟨_,rfl⟩
 rw[hj]
 have HJ:=aa.mk hj
 clear hj
 go_wp2
 go_ret
 exact⟨fO HJ.out.symm,bR hB hb⟩
def kN(n:Nat)(x:Int):Bool:=aY x 0 ((n:Int)-1)
theorem rC{A0:Option Addr}{c0:Nat}{W:List mo}{A1:Option Addr}{c1:Nat}{R:List dR}(a:Int){w:World}(h:IsMap w A0 c0 W A1 c1 R):
  Calls Tryz.prog 63 #[.agg #[.slice A0 W.length c0,.slice A1 R.length c1],.int .i64 a] w fun e w'=>e= .returned (.bool (kN W.length a))/\Below w.heap.size w w':=by
 refine ll.calls A0 c0 W A1 c1 R a (kN W.length a) w h.work h.lw h.roads h.lr ?_
 have hb:=h.bw
 have e:wrap64 ((W.length:Int)-1)=(W.length:Int)-1:=by unfold wrap64;omega
 unfold ll.f gN.f kN aY
 rw[e]
 by_cases h:0<=a<;>simp[h]
def rD(W:List mo)(R:List dR)(k:Nat):Bool:=
 kN W.length (bN R k).f0&&(kN W.length (bN R k).f1&&(!((bN R k).f0==(bN R k).f1)&&(gW (bN R k).f2.f0 (bN R k).f2.f1 1 50&&(CX R (bN R k).f0 (bN R k).f1==(k:Int)))))
def qp(W:List mo)(R:List dR):Bool:=(List.range R.length).all (rD W R)
theorem lu{W:List mo}{R:List dR}(k:Nat)(hk:k<R.length)(h:rD W R k=false):qp W R=false:=by
 unfold qp
 rw[List.all_eq_false]
 exact⟨k,by simpa using hk,by simp[h]⟩
theorem Js{W:List mo}{R:List dR}(h:∀j,j<R.length->rD W R j=true):qp W R=true:=by
 unfold qp
 rw[List.all_eq_true]
 intro x hx
 exact h x (by simpa using hx)
def aR(w:World)(g:Nat)(cs:List Value)(t:TypeId):Prop:=w.heap[g]?=some (.cells cs.toArray t (0,0))
theorem aR.below{w w1:World}{g:Nat}{cs:List Value}{t:TypeId}(h:aR w g cs t)(hb:Below w.heap.size w w1):aR w1 g cs t:=gZ h hb
theorem aR.cell{w:World}{g:Nat}{cs:List Value}{t:TypeId}(h:aR w g cs t)(i:Nat):w.cell? ⟨g,i,none⟩=cs[i]?:=(ak h i).trans (by simp)
theorem aR.frozen{w:World}{g:Nat}{cs:List Value}{t:TypeId}(h:aR w g cs t)(i:Nat):w.frozen? ⟨g,i,none⟩=false:=ag h i
theorem aR.lt{w:World}{g:Nat}{cs:List Value}{t:TypeId}(h:aR w g cs t):g<w.heap.size:=fQ h
theorem aR.new(w:World)(cs:List Value)(t:TypeId):aR (w.alloc (.cells cs.toArray t)) w.heap.size cs t:=heap_alloc_new w _
theorem aR.alloc{w:World}{g:Nat}{cs:List Value}{t:TypeId}(h:aR w g cs t)(o:Obj):aR (w.alloc o) g cs t:=aQ h o
set_option maxHeartbeats 4000000 in
theorem Jr{A0:Option Addr}{c0:Nat}{W:List mo}{A1:Option Addr}{c1:Nat}{R:List dR}{w:World}(h:IsMap w A0 c0 W A1 c1 R):
  Calls Tryz.prog 72 #[.agg #[.slice A0 W.length c0,.slice A1 R.length c1]] w fun e w'=>e= .returned (.bool (qp W R))/\Below w.heap.size w w':=by
 have H:=aa.mk h
 have hbr:=h.br
 have hbw:=h.bw
 clear h
 go_enter Tryz.func72,Tryz.ntmps72
 go_wp2_with fail
 go_loopw [11] (fun v wr=>∃k:Nat,k<=R.length/\v= .int .i64 k/\aa (Below w.heap.size w wr)/\aa (aR wr w.heap.size [.slice A0 W.length c0,.slice A1 R.length c1] 78)/\aa (∀j,j<k->rD W R j=true)) (fun v _=>R.length-(intOf v).toNat)
 case atStart=>exact⟨0,Nat.zero_le _,rfl,⟨ae (Below.refl _ _) _⟩,⟨aR.new _ _ _⟩,⟨fun j hj=>absurd hj (Nat.not_lt_zero _)⟩⟩
 case round=>
  obtain⟨k,hk,rfl,HB,BK,HF⟩:=hrel
  by_cases hlt:k<R.length
  .have HM:=aa.mk (H.out.below HB.out)
   obtain⟨ad,e,h0,h1,h2,h3⟩:=zB HM.out.roads k (by omega) (by omega)
   cases e
   simp only[Int.toNat_natCast] at h0 h1 h2 h3
   obtain⟨r,hr⟩:∃r,jr R (k:Int)=r:=⟨_,rfl⟩
   rw[hr] at h0 h1 h2 h3
   have HR:=aa.mk hr
   clear hr
   have HO:aa (rD W R k=(kN W.length r.f0&&(kN W.length r.f1&&(!(r.f0==r.f1)&&(gW r.f2.f0 r.f2.f1 1 50&&(CX R r.f0 r.f1==(k:Int))))))):=⟨by unfold rD bN;rw[HR.out]⟩
   have hbk:=BK.out.lt
   have hz0:=BK.out.cell 0
   have hz1:=BK.out.cell 1
   simp only[List.getElem?_cons_zero,List.getElem?_cons_succ] at hz0 hz1
   go_wp2_with fail
   have HB0:=aa.mk (ae HB.out (.cells #[.int .i64 r.f0,.int .i64 r.f1,.int .i64 r.f2.f0,.int .i64 r.f2.f1] 141))
   have Li:=aa.mk (H.out.below HB0.out)
   have BK0:=aa.mk (BK.out.alloc (.cells #[.int .i64 r.f0,.int .i64 r.f1,.int .i64 r.f2.f0,.int .i64 r.f2.f1] 141))
   have BR0:=aa.mk (aR.new wr [.int .i64 r.f0,.int .i64 r.f1,.int .i64 r.f2.f0,.int .i64 r.f2.f1] 141)
   have hx0:=True.intro
   have hx1:=True.intro
   have hx2:=True.intro
   have hx3:=True.intro
   have hgr:=True.intro
   have hgm:=True.intro
   refine(rC r.f0 Li.out).mono ?_
   rintro e w1 ⟨rfl,hb1⟩
   have HB1:=aa.mk (bR HB0.out hb1)
   have zG:=aa.mk (Li.out.below hb1)
   have XD:=aa.mk (BK0.out.below hb1)
   have BR1:=aa.mk (BR0.out.below hb1)
   clear hb1 HB0 Li BK0 BR0 hz0 hz1 hx0 hx1 hx2 hx3 hgr hgm
   have hgm:=XD.out.lt
   have hgr:=BR1.out.lt
   have hz0:=XD.out.cell 0
   have hz1:=XD.out.cell 1
   have hx0:=BR1.out.cell 0
   have hx1:=BR1.out.cell 1
   have hx2:=BR1.out.cell 2
   have hx3:=BR1.out.cell 3
   simp only[List.getElem?_cons_zero,List.getElem?_cons_succ] at hz0 hz1 hx0 hx1 hx2 hx3
   obtain⟨b1,b1e⟩:∃b,kN W.length r.f0=b:=⟨_,rfl⟩
   rw[b1e]
   have b1E:=aa.mk b1e
   clear b1e
   cases b1
   .go_wp2
    go_ret
    exact⟨bP (lu k hlt (by rw[HO.out,b1E.out];simp)).symm,HB1.out⟩
   .go_wp2_with fail
    refine(rC r.f1 zG.out).mono ?_
    rintro e w2 ⟨rfl,hb2⟩
    have HB2:=aa.mk (bR HB1.out hb2)
    have I5:=aa.mk (zG.out.below hb2)
    have BK2:=aa.mk (XD.out.below hb2)
    have BR2:=aa.mk (BR1.out.below hb2)
    clear hb2 HB1 zG XD BR1 hz0 hz1 hx0 hx1 hx2 hx3 hgr hgm
    have hgm:=BK2.out.lt
    have hgr:=BR2.out.lt
    have hz0:=BK2.out.cell 0
    have hz1:=BK2.out.cell 1
    have hx0:=BR2.out.cell 0
    have hx1:=BR2.out.cell 1
    have hx2:=BR2.out.cell 2
    have hx3:=BR2.out.cell 3
    simp only[List.getElem?_cons_zero,List.getElem?_cons_succ] at hz0 hz1 hx0 hx1 hx2 hx3
    obtain⟨b2,b2e⟩:∃b,kN W.length r.f1=b:=⟨_,rfl⟩
    rw[b2e]
    have b2E:=aa.mk b2e
    clear b2e
    cases b2
    .go_wp2
     go_ret
     exact⟨bP (lu k hlt (by rw[HO.out,b1E.out,b2E.out];simp)).symm,HB2.out⟩
    .cases b3e:(r.f0==r.f1)
     .have b3E:=aa.mk b3e
      go_wp2_with fail
      refine(nG _ _ _ _ _).mono ?_
      rintro e w3 ⟨rfl,hb3⟩
      have HB3:=aa.mk (bR HB2.out hb3)
      have HM3:=aa.mk (I5.out.below hb3)
      have BK3:=aa.mk (BK2.out.below hb3)
      have BR3:=aa.mk (BR2.out.below hb3)
      clear hb3 HB2 I5 BK2 BR2 hz0 hz1 hx0 hx1 hx2 hx3 hgr hgm
      have hgm:=BK3.out.lt
      have hgr:=BR3.out.lt
      have hz0:=BK3.out.cell 0
      have hz1:=BK3.out.cell 1
      have hx0:=BR3.out.cell 0
      have hx1:=BR3.out.cell 1
      have hx2:=BR3.out.cell 2
      have hx3:=BR3.out.cell 3
      simp only[List.getElem?_cons_zero,List.getElem?_cons_succ] at hz0 hz1 hx0 hx1 hx2 hx3
      obtain⟨b4,b4e⟩:∃b,gW r.f2.f0 r.f2.f1 1 50=b:=⟨_,rfl⟩
      rw[b4e]
      have b4E:=aa.mk b4e
      clear b4e
      cases b4
      .go_wp2
       go_ret
       exact⟨bP (lu k hlt (by rw[HO.out,b1E.out,b2E.out,b3E.out,b4E.out];simp)).symm,HB3.out⟩
      .go_wp2_with fail
       refine(LF r.f0 r.f1 HM3.out).mono ?_
       rintro e w4 ⟨rfl,hb4⟩
       have kY:=aa.mk (bR HB3.out hb4)
       have HM4:=aa.mk (HM3.out.below hb4)
       have BK4:=aa.mk (BK3.out.below hb4)
       have BR4:=aa.mk (BR3.out.below hb4)
       clear hb4 HB3 HM3 BK3 BR3 hz0 hz1 hx0 hx1 hx2 hx3 hgr hgm
       have hgm:=BK4.out.lt
       have hgr:=BR4.out.lt
       have hz0:=BK4.out.cell 0
       have hz1:=BK4.out.cell 1
       have hx0:=BR4.out.cell 0
       have hx1:=BR4.out.cell 1
       have hx2:=BR4.out.cell 2
       have hx3:=BR4.out.cell 3
       simp only[List.getElem?_cons_zero,List.getElem?_cons_succ] at hz0 hz1 hx0 hx1 hx2 hx3
       obtain⟨j5,j5e⟩:∃j,CX R r.f0 r.f1=j:=⟨_,rfl⟩
       rw[j5e]
       have J5E:=aa.mk j5e
       clear j5e
       by_cases hj:j5=(k:Int)
       .have hjb:(j5 !=(k:Int))=false:=by rw[hj];simp
        have HJ:=aa.mk hj
        clear hj
        go_wp2
        go_roundw
        case rel=>exact⟨k+1,by omega,by go_num,kY,BK4,⟨fun j hj'=>by
         rcases Nat.lt_succ_iff_lt_or_eq.1 hj' with h'|h'
         .exact HF.out j h'
         .subst h'
          rw[HO.out,b1E.out,b2E.out,b3E.out,b4E.out,J5E.out,HJ.out]
          simp⟩⟩
        case measure=>simp[intOf];omega
       .have hjb:(j5 !=(k:Int))=true:=by rw[bne_iff_ne];exact hj
        have HJ:=aa.mk hj
        clear hj
        go_wp2
        go_ret
        exact⟨bP (lu k hlt (by rw[HO.out,b1E.out,b2E.out,b3E.out,b4E.out,J5E.out];simp[HJ.out])).symm,kY.out⟩
     .have b3E:=aa.mk b3e
      go_wp2
      go_ret
      exact⟨bP (lu k hlt (by rw[HO.out,b1E.out,b2E.out,b3E.out];simp)).symm,HB2.out⟩
  .have hk':k=R.length:=by omega
   subst hk'
   go_wp2
   go_ret
   exact⟨bP (Js HF.out).symm,HB.out⟩
def zO(x:mo):Bool:=gW x.f0 x.f1 0 50
theorem Pg(w:World):j3 71 #[] #[] zO w:=by
 intro W x hW
 simp only[List.push_toArray,List.nil_append,Array.append_empty,nM]
 refine sj.calls x.f0 x.f1 (zO x) W ?_
 unfold sj.f eX.f zO gW
 by_cases h:0<=x.f0<;>by_cases h':x.f0<=x.f1<;>simp[h,h']
def jB(W:List mo)(R:List dR):Int:=
 if W.length<=8/\R.length<=20 then(if W.length=0 then 1 else if W.all zO then(if qp W R then 0 else 1) else 1) else 3
set_option maxHeartbeats 4000000 in
theorem iH{A0:Option Addr}{c0:Nat}{W:List mo}{A1:Option Addr}{c1:Nat}{R:List dR}{w:World}(h:IsMap w A0 c0 W A1 c1 R):
  Calls Tryz.prog 29 #[.agg #[.slice A0 W.length c0,.slice A1 R.length c1]] w fun e w'=>e= .returned (.int .i64 (jB W R))/\Below w.heap.size w w':=by
 have H:=aa.mk h
 have hbr:=h.br
 have hbw:=h.bw
 clear h
 have HB0:=aa.mk (ae (Below.refl w.heap.size w) (.cells #[.slice A0 W.length c0,.slice A1 R.length c1] 78))
 have Li:=aa.mk (H.out.below HB0.out)
 have BK0:=aa.mk (aR.new w [.slice A0 W.length c0,.slice A1 R.length c1] 78)
 by_cases h1:W.length<=8
 .by_cases h2:R.length<=20
  .by_cases h3:W.length=0
   .have hres:jB W R=1:=by unfold jB;rw[if_pos ⟨h1,h2⟩,if_pos h3]
    have IB:=aa.mk hres
    clear hres
    have h3b:((W.length:Int)==0)=true:=by simp[h3]
    have H3:=aa.mk h3
    clear h3
    go_enter Tryz.func29,Tryz.ntmps29
    go_wp2_with fail
    go_ret
    exact⟨fO IB.out.symm,HB0.out⟩
   .have h3b:((W.length:Int)==0)=false:=beq_eq_false_iff_ne.2 (by omega)
    obtain⟨b,hb⟩:∃b,W.all zO=b:=⟨_,rfl⟩
    have HWB:=aa.mk hb
    clear hb
    go_enter Tryz.func29,Tryz.ntmps29
    go_wp2_with fail
    refine(QB 71 #[] #[] (enters Tryz.func71 (by kernel_rfl) rfl) zO A0 c0 W _ Li.out.work (by omega) (Pg _)).mono ?_
    rintro e w1 ⟨rfl,hb1⟩
    have HB1:=aa.mk (bR HB0.out hb1)
    have zG:=aa.mk (Li.out.below hb1)
    have XD:=aa.mk (BK0.out.below hb1)
    clear hb1
    have hgm:=XD.out.lt
    have hz0:=XD.out.cell 0
    have hz1:=XD.out.cell 1
    simp only[List.getElem?_cons_zero,List.getElem?_cons_succ] at hz0 hz1
    rw[HWB.out]
    cases b
    .have hres:jB W R=1:=by unfold jB;rw[if_pos ⟨h1,h2⟩,if_neg h3,HWB.out];rfl
     have IB:=aa.mk hres
     clear hres h3
     go_wp2_with fail
     go_ret
     exact⟨fO IB.out.symm,HB1.out⟩
    .go_wp2_with fail
     refine(Jr zG.out).mono ?_
     rintro e w2 ⟨rfl,hb2⟩
     have HB2:=aa.mk (bR HB1.out hb2)
     clear hb2 hz0 hz1 hgm
     obtain⟨b2,hb2⟩:∃b,qp W R=b:=⟨_,rfl⟩
     have YD:=aa.mk hb2
     clear hb2
     rw[YD.out]
     have hres:jB W R=if b2 then 0 else 1:=by unfold jB;rw[if_pos ⟨h1,h2⟩,if_neg h3,HWB.out,YD.out];rfl
     have IB:=aa.mk hres
     clear hres h3
     cases b2
     all_goals
      go_wp2_with fail
      go_ret
      exact⟨fO (by rw[IB.out];rfl),HB2.out⟩
  .have hres:jB W R=3:=by unfold jB;rw[if_neg (fun h=>h2 h.2)]
   have IB:=aa.mk hres
   clear hres
   have h2':20<R.length:=by omega
   clear h2
   go_enter Tryz.func29,Tryz.ntmps29
   go_wp2_with fail
   go_ret
   exact⟨fO IB.out.symm,HB0.out⟩
 .have hres:jB W R=3:=by unfold jB;rw[if_neg (fun h=>h1 h.1)]
  have IB:=aa.mk hres
  clear hres
  have h1':8<W.length:=by omega
  clear h1
  go_enter Tryz.func29,Tryz.ntmps29
  go_wp2_with fail
  go_ret
  exact⟨fO IB.out.symm,HB0.out⟩
end Go.Proofs.YtkjoilgpmngndaaGreat.Wk
namespace Go.Proofs.YtkjoilgpmngndaaGreat.Wk
open Go.RowKit Go.Shelf Go.Proofs.YtkjoilgpmngndaaGreat.av Go.Proofs.YtkjoilgpmngndaaGreatW.aA
attribute [local go_sem] Oper.semAt_some
structure bq(n₀:Nat)(S:Nat->Prop)(w w':World):Prop where
 os:w'.os=w.os
 tape:w'.tape=w.tape
 output:w'.output=w.output
 size:w.heap.size<=w'.heap.size
 block:∀k,k<n₀->¬S k->w'.heap[k]?=w.heap[k]?
theorem bq.refl(n₀:Nat)(S:Nat->Prop)(w:World):bq n₀ S w w:=⟨rfl,rfl,rfl,Nat.le_refl _,fun _ _ _=>rfl⟩
theorem bq.trans{n₀:Nat}{S:Nat->Prop}{a b c:World}(h:bq n₀ S a b)(k:bq n₀ S b c):bq n₀ S a c:=
 ⟨k.os.trans h.os,k.tape.trans h.tape,k.output.trans h.output,Nat.le_trans h.size k.size,fun i hi hs=>(k.block i hi hs).trans (h.block i hi hs)⟩
theorem bq.of_below{n₀ B:Nat}{S:Nat->Prop}{a b:World}(h:Below B a b)(hB:n₀<=B):bq n₀ S a b:=⟨h.os,h.tape,h.output,h.size,fun k hk _=>h.block k (by omega)⟩
theorem bq.mono{n₀ n₁:Nat}{S T:Nat->Prop}{a b:World}(h:bq n₀ S a b)(hn:n₁<=n₀)(hS:∀k,k<n₁->S k->T k):bq n₁ T a b:=⟨h.os,h.tape,h.output,h.size,fun k hk hs=>h.block k (by omega) (fun x=>hs (hS k hk x))⟩
theorem bq.alloc{n₀:Nat}{S:Nat->Prop}{a b:World}(h:bq n₀ S a b)(hB:n₀<=b.heap.size)(o:Obj):bq n₀ S a (b.alloc o):=
 h.trans (bq.of_below ((Below.refl b.heap.size b).alloc (Nat.le_refl _) o) hB)
theorem bq.setCell{n₀:Nat}{S:Nat->Prop}{a b:World}(h:bq n₀ S a b){p:Addr}(hp:S p.block\/n₀<=p.block)(u:Value):bq n₀ S a (b.setCell p u):=
 h.trans ⟨rfl,rfl,rfl,by simp[World.setCell],fun k hk hs=>Below.heap_setCell _ _ _ _ (by
  rintro rfl
  rcases hp with hp|hp
  .exact hs hp
  .omega)⟩
theorem bq.drewN{n₀:Nat}{S:Nat->Prop}{a b:World}(h:bq n₀ S a b)(n:Nat):bq n₀ S a (b.drewN n):=⟨h.os,h.tape,h.output,h.size,h.block⟩
theorem bq.drew{n₀:Nat}{S:Nat->Prop}{a b:World}(h:bq n₀ S a b):bq n₀ S a b.drew:=⟨h.os,h.tape,h.output,h.size,h.block⟩
theorem bq.put{n₀:Nat}{S:Nat->Prop}{a b:World}(h:bq n₀ S a b){l:Nat}(hl:S l\/n₀<=l)(o:Obj):bq n₀ S a (b.putObj l o):=
 h.trans ⟨rfl,rfl,rfl,by simp[World.putObj],fun k hk hs=>World.putObj_heap_other (by
  rintro rfl
  rcases hl with hl|hl
  .exact hs hl
  .omega)⟩
theorem bq.cell{n₀:Nat}{S:Nat->Prop}{w w':World}(h:bq n₀ S w w'){p:Addr}(hp:p.block<n₀)(hs:¬S p.block):w'.cell? p=w.cell? p:=World.cell?_of_block (w:=w) (h.block p.block hp hs)
theorem bq.frozen{n₀:Nat}{S:Nat->Prop}{w w':World}(h:bq n₀ S w w'){p:Addr}(hp:p.block<n₀)(hs:¬S p.block):w'.frozen? p=w.frozen? p:=World.frozen?_of_block (w:=w) (h.block p.block hp hs)
theorem zo{n₀:Nat}{S:Nat->Prop}{w:World}(hn:n₀<=w.heap.size)(W:World)(l:Nat)(o o':Obj)(hl:w.heap.size<=l)(h:W.heap[l]?=some o)(_:o.isCells=false)(_:o.isWalk=false):bq n₀ S W (W.putObj l o'):=
 bq.of_below ((Below.refl n₀ W).grown (grownBy_putObj' W l o') (by have:=(Array.getElem?_eq_some_iff.1 h).1;omega) (fun k e=>by cases e;omega)) (Nat.le_refl _)
def IV(n:Int)(r:dR):Option (Int×Int):=
 if n=r.f0 then(if 0<=r.f1 then some (r.f1,r.f2.f1) else none) else if n=r.f1 then(if 0<=r.f0 then some (r.f0,r.f2.f1) else none) else none
def rq(R:List dR)(n:Int):List (Int×Int):=R.filterMap (IV n)
theorem qc(R:List dR)(n:Int)(k:Nat)(h:k<R.length):rq (R.take (k+1)) n=rq (R.take k) n++(IV n (bN R k)).toList:=by
 unfold rq
 rw[List.take_succ_eq_append_getElem h,List.filterMap_append]
 congr 1
 have:bN R k=R[k]:=by simp[bN,jr,List.getD,h]
 rw[this]
 cases hn:IV n R[k]<;>simp[hn]
theorem Rv(R:List dR)(k:Nat)(h:k<R.length):bN R k ∈ R:=by
 have:bN R k=R[k]:=by simp[bN,jr,List.getD,h]
 rw[this]
 exact List.getElem_mem h
theorem JN(R:List dR)(n:Int):(rq R n).length<=R.length:=List.length_filterMap_le _ _
def enc2(x:Int×Int):Array Value:=#[.int .i64 x.1,.int .i64 x.2]
structure Du(n₀:Nat)(S:Nat->Prop)(W:World)(gm gn:Nat)(A0:Option Addr)(n0 c0:Nat)(A1:Option Addr)(c1:Nat)(R:List dR)(n:Int):Prop where
 m:aR W gm [.slice A0 n0 c0,.slice A1 R.length c1] 78
 n:W.cell? ⟨gn,0,none⟩=some (.int .i64 n)
 roads:Kd.C MO W A1 R.length R
 lm:gm<n₀/\¬S gm
 ln:gn<n₀/\¬S gn
 lr:0<R.length->∀ad,A1=some ad->ad.block<n₀/\¬S ad.block
theorem LD{n₀:Nat}{S:Nat->Prop}{W W':World}{A1:Option Addr}{R:List dR}(h:Kd.C MO W A1 R.length R)(hl:0<R.length->∀ad,A1=some ad->ad.block<n₀/\¬S ad.block)(k:bq n₀ S W W')(i:Nat)(hi:i<R.length):
  ∃ad,A1=some ad/\W'.cell? (ad.add (i*4))=some (.int .i64 (jr R i).f0)/\W'.cell? ⟨(ad.add (i*4)).block,(ad.add (i*4)).off+1,none⟩=some (.int .i64 (jr R i).f1)/\W'.cell? ⟨(ad.add (i*4)).block,(ad.add (i*4)).off+2,none⟩=some (.int .i64 (jr R i).f2.f0)/\W'.cell? ⟨(ad.add (i*4)).block,(ad.add (i*4)).off+3,none⟩=some (.int .i64 (jr R i).f2.f1):=by
 obtain⟨ad,e,h0,h1,h2,h3⟩:=zB h i (by omega) (by omega)
 simp only[Int.toNat_natCast] at h0 h1 h2 h3
 obtain⟨hl1,hl2⟩:=hl (by omega) ad e
 have hbk:(ad.add (i*4)).block=ad.block:=by unfold Addr.add;split<;>rfl
 refine⟨ad,e,?_,?_,?_,?_⟩
 .rw[k.cell (by rw[hbk];exact hl1) (by rw[hbk];exact hl2)];exact h0
 .rw[k.cell (by simp only[hbk];exact hl1) (by simp only[hbk];exact hl2)];exact h1
 .rw[k.cell (by simp only[hbk];exact hl1) (by simp only[hbk];exact hl2)];exact h2
 .rw[k.cell (by simp only[hbk];exact hl1) (by simp only[hbk];exact hl2)];exact h3
theorem jC{β:Type}{B:Nat}{J:β->World->Prop}(h:AbidesFrom B J){s:β}{W:World}(o:Obj)(hj:J s W):J s (W.alloc o):=
 h s W _ none hj (jV (ae (Below.refl _ _) o) none) (by simp)
set_option maxRecDepth 100000 in
set_option maxHeartbeats 4000000 in
theorem RV(F:Fence)(n:Nat)(hf:F.fn 130)(hro:F.round=none)(hn:1<=n)(l gm gn n₀:Nat)(S:Nat->Prop)(A0:Option Addr)(n0 c0:Nat)(A1:Option Addr)(c1:Nat)(R:List dR)(near:Int)(qB:R.length<=281474976710656)
  (J Jx:List (Int×Int)->World->Prop) (B:Nat) (hJA:AbidesFrom B J)
  (Pr:Int×Int->Prop) (hPr:∀r ∈ R,∀x,IV near r=some x->Pr x)
  (hY:∀pre x W,Pr x->J pre W->pre.length<R.length->YieldAt F (n-1) Tryz.prog l (enc2 x) W fun e W'=>
   (e= .returned (.bool true)/\J (pre++[x]) W'/\bq n₀ S W W')\/(e= .returned (.bool false)/\Jx (pre++[x]) W'))
  (W:World) (hW:n₀<=W.heap.size) (hR:Du n₀ S W gm gn A0 n0 c0 A1 c1 R near) (h0:J [] W):
  CallsIn F n Tryz.prog 130 #[.func (.yield l) #[] #[],.pointer (some ⟨gm,0,none⟩),.pointer (some ⟨gn,0,none⟩)] W fun e W'=>(∃v,e= .returned v) /\
   ((∃ys,ys=rq R near/\J ys W')\/(∃pre,True/\Jx pre W')):=by
 have HR:=aa.mk hR
 have HY:=aa.mk hY
 have HPr:=aa.mk hPr
 have HJA:=aa.mk hJA
 have hz0:=hR.m.cell 0
 have hz1:=hR.m.cell 1
 simp only[List.getElem?_cons_zero,List.getElem?_cons_succ] at hz0 hz1
 clear hR hY hPr hJA
 refine callsIn_of_wp Tryz.func130 rfl hf ?_ hro
 simp only[Tryz.ntmps130,List.size_toArray,List.length_cons,List.length_nil,Nat.reduceAdd,Nat.reduceSub,Array.replicate_succ,Array.replicate_zero,List.push_toArray,List.append_toArray,List.nil_append,List.cons_append]
 gi_wp2
 gi_loopw [10] (fun i wr=>∃k:Nat,k<=R.length/\i= .int .i64 k/\aa (J (rq (R.take k) near) wr)/\aa (bq n₀ S W wr))
  (fun i _=>R.length-(intOf i).toNat)
 case atStart=>exact⟨0,Nat.zero_le _,rfl,⟨h0⟩,⟨bq.refl _ _ _⟩⟩
 case round=>
  obtain⟨k,hk,rfl,HJ,HK⟩:=hrel
  by_cases hlt:k<R.length
  .obtain⟨ad,e,h0,h1,h2,h3⟩:=LD HR.out.roads HR.out.lr HK.out k hlt
   cases e
   obtain⟨r,hr⟩:∃r,jr R (k:Int)=r:=⟨_,rfl⟩
   rw[hr] at h0 h1 h2 h3
   have HRR:=aa.mk (show bN R k=r from hr)
   clear hr
   have hgn:=(HK.out.cell (p:=⟨gn,0,none⟩) HR.out.ln.1 HR.out.ln.2).trans HR.out.n
   have ajv:gn<wr.heap.size:=World.block_lt_of_cell? _ _ hgn
   have YJ:=aa.mk (Nat.le_trans hW HK.out.size)
   by_cases p0:near=r.f0
   .have XN:(near==r.f0)=true:=beq_iff_eq.2 p0
    have P0:=aa.mk p0
    clear p0
    by_cases q:0<=r.f1
    .have Ub:=aa.mk (show IV near r=some (r.f1,r.f2.f1) by unfold IV;rw[if_pos P0.out,if_pos q])
     have HJ2:=aa.mk (jC HJA.out (.cells #[.int .i64 r.f0,.int .i64 r.f1,.int .i64 r.f2.f0,.int .i64 r.f2.f1] 141) HJ.out)
     have HST:=aa.mk (show rq (R.take (k+1)) near=rq (R.take k) near++[(r.f1,r.f2.f1)] by rw[qc R near k hlt,HRR.out,Ub.out];rfl)
     obtain⟨fn,tmps,assign,body,hy,hRR⟩:=HY.out _ (r.f1,r.f2.f1) _ (HPr.out r (by rw[<- HRR.out];exact Rv R k hlt) _ Ub.out) HJ2.out (Nat.lt_of_le_of_lt (JN _ _) (by rw[List.length_take];omega))
     dsimp only[enc2] at hy
     gi_wp2_with fail
     refine hRR.mono ?_
     rintro e W3 (⟨rfl,hJ3,hk3⟩|⟨rfl,hJx3⟩)
     .gi_wp2_with fail
      go_roundw
      case rel=>exact⟨k+1,by omega,by go_num,⟨by rw[HST.out];exact hJ3⟩,⟨(HK.out.alloc YJ.out _).trans hk3⟩⟩
      case measure=>simp[intOf];omega
     .gi_wp2_with fail
      refine bodyPost_ret (results_none rfl _ _ _) rfl ?_
      exact⟨⟨_,rfl⟩,.inr ⟨_,trivial,hJx3⟩⟩
    .have Ub:=aa.mk (show IV near r=none by unfold IV;rw[if_pos P0.out,if_neg q])
     have q':decide (0<=r.f1)=false:=by simpa using q
     have HJ2:=aa.mk (show J (rq (R.take (k+1)) near) wr by rw[qc R near k hlt,HRR.out,Ub.out];simpa using HJ.out)
     gi_wp2_with fail
     refine⟨fun _ h=>(by cases h),?_⟩
     gi_wp2_with fail
     go_roundw
     case rel=>exact⟨k+1,by omega,by go_num,⟨jC HJA.out _ HJ2.out⟩,⟨HK.out.alloc YJ.out _⟩⟩
     case measure=>simp[intOf];omega
   .have XN:(near==r.f0)=false:=beq_eq_false_iff_ne.2 p0
    have P0:=aa.mk p0
    clear p0
    by_cases p1:near=r.f1
    .have p1b:(near==r.f1)=true:=beq_iff_eq.2 p1
     have P1:=aa.mk p1
     clear p1
     by_cases q:0<=r.f0
     .have Ub:=aa.mk (show IV near r=some (r.f0,r.f2.f1) by unfold IV;rw[if_neg P0.out,if_pos P1.out,if_pos q])
      have HJ2:=aa.mk (jC HJA.out (.cells #[.int .i64 r.f0,.int .i64 r.f1,.int .i64 r.f2.f0,.int .i64 r.f2.f1] 141) HJ.out)
      have HST:=aa.mk (show rq (R.take (k+1)) near=rq (R.take k) near++[(r.f0,r.f2.f1)] by rw[qc R near k hlt,HRR.out,Ub.out];rfl)
      obtain⟨fn,tmps,assign,body,hy,hRR⟩:=HY.out _ (r.f0,r.f2.f1) _ (HPr.out r (by rw[<- HRR.out];exact Rv R k hlt) _ Ub.out) HJ2.out (Nat.lt_of_le_of_lt (JN _ _) (by rw[List.length_take];omega))
      dsimp only[enc2] at hy
      gi_wp2_with fail
      refine hRR.mono ?_
      rintro e W3 (⟨rfl,hJ3,hk3⟩|⟨rfl,hJx3⟩)
      .gi_wp2_with fail
       go_roundw
       case rel=>exact⟨k+1,by omega,by go_num,⟨by rw[HST.out];exact hJ3⟩,⟨(HK.out.alloc YJ.out _).trans hk3⟩⟩
       case measure=>simp[intOf];omega
      .gi_wp2_with fail
       refine bodyPost_ret (results_none rfl _ _ _) rfl ?_
       exact⟨⟨_,rfl⟩,.inr ⟨_,trivial,hJx3⟩⟩
     .have Ub:=aa.mk (show IV near r=none by unfold IV;rw[if_neg P0.out,if_pos P1.out,if_neg q])
      have q':decide (0<=r.f0)=false:=by simpa using q
      have HJ2:=aa.mk (show J (rq (R.take (k+1)) near) wr by rw[qc R near k hlt,HRR.out,Ub.out];simpa using HJ.out)
      gi_wp2_with fail
      refine⟨fun _ h=>(by cases h),?_⟩
      gi_wp2_with fail
      go_roundw
      case rel=>exact⟨k+1,by omega,by go_num,⟨jC HJA.out _ HJ2.out⟩,⟨HK.out.alloc YJ.out _⟩⟩
      case measure=>simp[intOf];omega
    .have p1b:(near==r.f1)=false:=beq_eq_false_iff_ne.2 p1
     have P1:=aa.mk p1
     clear p1
     have Ub:=aa.mk (show IV near r=none by unfold IV;rw[if_neg P0.out,if_neg P1.out])
     have HJ2:=aa.mk (show J (rq (R.take (k+1)) near) wr by rw[qc R near k hlt,HRR.out,Ub.out];simpa using HJ.out)
     gi_wp2_with fail
     refine⟨fun _ h=>(by cases h),?_⟩
     gi_wp2_with fail
     go_roundw
     case rel=>exact⟨k+1,by omega,by go_num,⟨jC HJA.out _ HJ2.out⟩,⟨HK.out.alloc YJ.out _⟩⟩
     case measure=>simp[intOf];omega
  .obtain rfl:k=R.length:=by omega
   gi_wp2
   go_end0
   exact⟨⟨_,rfl⟩,.inl ⟨_,rfl,by rw[<- List.take_length (l:=R)];exact HJ.out⟩⟩
theorem ME(F:Fence)(n:Nat)(hf:F.fn 130)(hro:F.round=none)(hn:1<=n)(gm gn n₀:Nat)(S:Nat->Prop)(A0:Option Addr)(n0 c0:Nat)(A1:Option Addr)(c1:Nat)(R:List dR)(near:Int)(qB:R.length<=281474976710656)
  (Pr:Int×Int->Prop) (hPr:∀r ∈ R,∀x,IV near r=some x->Pr x) (w:World) (hw:n₀<=w.heap.size) (hR:Du n₀ S w gm gn A0 n0 c0 A1 c1 R near):
  SeqStopsK F n Tryz.prog 130 #[.pointer (some ⟨gm,0,none⟩),.pointer (some ⟨gn,0,none⟩)] (fun x:{x // Pr x}=>enc2 x.1) (bq n₀ S) (fun ys=>ys.map (·.1)=rq R near) (fun _=>True) R.length w:=fun l J Jx W hW hJ hJx hY h0=>by
 have hk:bq n₀ S w W:=bq.of_below hW hw
 refine(RV F n hf hro hn l gm gn n₀ S A0 n0 c0 A1 c1 R near qB (fun pre W=>∃ys:List {x // Pr x},ys.map (·.1)=pre/\J ys W) (fun pre W=>∃ys:List {x // Pr x},ys.map (·.1)=pre/\Jx ys W) W.heap.size ?_ Pr hPr ?_ W (Nat.le_trans hw hW.size) ?_ ⟨[],rfl,h0⟩).mono ?_
 .rintro s A B row ⟨ys,e,hj⟩ hg hr
  exact⟨ys,e,hJ ys A B row hj hg hr⟩
 .rintro pre x W' hx ⟨ys,rfl,hj⟩ hlen
  refine(hY ys ⟨x,hx⟩ W' hj (by simpa using hlen)).mono ?_
  rintro e W'' (⟨rfl,h1,h2⟩|⟨rfl,h1⟩)
  .exact .inl ⟨rfl,⟨_,by simp,h1⟩,h2⟩
  .exact .inr ⟨rfl,⟨_,by simp,h1⟩⟩
 .exact⟨((hk.block gm hR.lm.1 hR.lm.2).trans hR.m),(hk.cell (p:=⟨gn,0,none⟩) hR.ln.1 hR.ln.2).trans hR.n,Kd.aK hR.roads hW,hR.lm,hR.ln,hR.lr⟩
 .rintro e W' ⟨hv,⟨ys,he,zs,h1,h2⟩|⟨pre,_,zs,h1,h2⟩⟩
  .exact⟨hv,.inl ⟨zs,h1.trans he,h2⟩⟩
  .exact⟨hv,.inr ⟨zs,trivial,h2⟩⟩
theorem MF(F:Fence)(n:Nat)(hf:F.fn 102)(hro:F.round=none)(A0:Option Addr)(n0 c0:Nat)(A1:Option Addr)(c1 n1:Nat)(near:Int)(w:World):
  CallsIn F n Tryz.prog 102 #[.agg #[.slice A0 n0 c0,.slice A1 n1 c1],.int .i64 near] w fun e w'=>e= .returned (.func (.func 130) #[] #[.pointer (some ⟨w.heap.size,0,none⟩),.pointer (some ⟨w.heap.size+1,0,none⟩)]) /\
   w'=(w.alloc (.cells #[.slice A0 n0 c0,.slice A1 n1 c1] 78)).alloc (.cells #[.int .i64 near] 3):=by
 refine callsIn_of_wp Tryz.func102 rfl hf ?_ hro
 simp only[Tryz.ntmps102,List.size_toArray,List.length_cons,List.length_nil,Nat.reduceAdd,Nat.reduceSub,Array.replicate_succ,Array.replicate_zero,List.push_toArray,List.append_toArray,List.nil_append,List.cons_append]
 gi_wp2
 go_ret
 exact⟨rfl,rfl⟩
end Go.Proofs.YtkjoilgpmngndaaGreat.Wk
namespace Go.Proofs.YtkjoilgpmngndaaGreat.Wk
open Go.RowKit Go.Proofs.YtkjoilgpmngndaaGreat.av Go.Proofs.YtkjoilgpmngndaaGreatW.aA
def upd{α:Type}(c:Nat->α)(i:Nat)(v:α):Nat->α:=fun n=>if n=i then v else c n
theorem upd_same{α:Type}(c:Nat->α)(i:Nat)(v:α):upd c i v i=v:=by simp[upd]
theorem CU{α:Type}(c:Nat->α)(i j:Nat)(v:α)(h:j≠i):upd c i v j=c j:=by simp[upd,h]
def iv(st:Nat->Bool)(c:Nat->Int):Nat->Int
 |0=> -1
 |k+1=>if st k=false/\(iv st c k<0\/c k<c (iv st c k).toNat) then(k:Int) else iv st c k
theorem qx(st:Nat->Bool)(c:Nat->Int)(k:Nat):iv st c k= -1/\(∀j,j<k->st j=true)\/∃p:Nat,iv st c k=(p:Int)/\p<k/\st p=false:=by
 induction k with
 |zero=>exact .inl ⟨rfl,fun j hj=>absurd hj (Nat.not_lt_zero _)⟩
 |succ k ih=>
  unfold iv
  by_cases h:st k=false/\(iv st c k<0\/c k<c (iv st c k).toNat)
  .rw[if_pos h]
   exact .inr ⟨k,rfl,by omega,h.1⟩
  .rw[if_neg h]
   rcases ih with⟨h1,h2⟩|⟨p,h1,h2,h3⟩
   .refine .inl ⟨h1,fun j hj=>?_⟩
    rcases Nat.lt_succ_iff_lt_or_eq.1 hj with h'|h'
    .exact h2 j h'
    .subst h'
     cases hs:st j with
     |true=>rfl
     |false=>exact absurd ⟨hs,.inl (by omega)⟩ h
   .exact .inr ⟨p,h1,by omega,h3⟩
theorem PI{st:Nat->Bool}{c:Nat->Int}{k:Nat}(h:st k=true):iv st c (k+1)=iv st c k:=by
 rw[iv,if_neg (fun x=>by rw[h] at x;cases x.1)]
theorem RI{st:Nat->Bool}{c:Nat->Int}{k p:Nat}(hp:iv st c k=(p:Int))(h:¬c k<c p):iv st c (k+1)=iv st c k:=by
 rw[iv,if_neg]
 rintro⟨_,x⟩
 rw[hp,Int.toNat_natCast] at x
 rcases x with x|x
 .omega
 .exact h x
theorem PK{st:Nat->Bool}{c:Nat->Int}{k p:Nat}(hs:st k=false)(hp:iv st c k=(p:Int))(h:c k<c p):iv st c (k+1)=(k:Int):=by
 rw[iv,if_pos ⟨hs,.inr (by rw[hp,Int.toNat_natCast];exact h)⟩]
theorem Mk{st:Nat->Bool}{c:Nat->Int}{k:Nat}(hs:st k=false)(hp:iv st c k= -1):iv st c (k+1)=(k:Int):=by
 rw[iv,if_pos ⟨hs,.inl (by omega)⟩]
def oM(p:Nat)(s:(Nat->Int)×(Nat->Int))(x:Int×Int):(Nat->Int)×(Nat->Int):=
 if s.1 p+x.2<s.1 x.1.toNat then(upd s.1 x.1.toNat (s.1 p+x.2),upd s.2 x.1.toNat (p:Int)) else s
structure Col where
 st:Nat->Bool
 c:Nat->Int
 f:Nat->Int
def xk(R:List dR)(N:Nat)(s:Col):Col:=
 let p:=(iv s.st s.c N).toNat
 let cf:=(rq R (p:Int)).foldl (oM p) (s.c,s.f)
 ⟨upd s.st p true,cf.1,cf.2⟩
def xm(N g:Nat):Col:=
 ⟨fun _=>false,fun n=>if n=g then 0 else if n<N then 1048576 else 0,fun n=>if n=g then(g:Int) else 0⟩
def iG(R:List dR)(N g:Nat):Nat->Col
 |0=>xm N g
 |i+1=>xk R N (iG R N g i)
def tm(R:List dR)(N n g:Nat):Int:=if g<N then(iG R N g N).c n else 0
def fs(R:List dR)(N n g:Nat):Int:=if g<N then(iG R N g N).f n else 0
structure pR(N:Nat)(r:dR):Prop where
 a0:0<=r.f0
 a1:r.f0<N
 b0:0<=r.f1
 b1:r.f1<N
 ne:r.f0≠r.f1
 lo:1<=r.f2.f0
 le:r.f2.f0<=r.f2.f1
 hi:r.f2.f1<=50
theorem RX{N:Nat}{n:Int}{r:dR}(h:pR N r){x:Int×Int}(hx:IV n r=some x):0<=x.1/\x.1<N/\x.1≠n/\1<=x.2/\x.2<=50:=by
 unfold IV at hx
 have h1:=h.a0;have h2:=h.a1;have h3:=h.b0;have h4:=h.b1;have h5:=h.ne;have h6:=h.lo;have h7:=h.le;have h8:=h.hi
 by_cases p0:n=r.f0
 .rw[if_pos p0,if_pos h3] at hx
  obtain rfl:=Option.some.inj hx
  subst p0
  exact⟨h3,h4,fun e=>h5 e.symm,by simp only;omega,h8⟩
 .rw[if_neg p0] at hx
  by_cases p1:n=r.f1
  .rw[if_pos p1,if_pos h1] at hx
   obtain rfl:=Option.some.inj hx
   subst p1
   exact⟨h1,h2,h5,by simp only;omega,h8⟩
  .rw[if_neg p1] at hx
   cases hx
theorem zn{N:Nat}{n:Int}{R:List dR}(h:∀r ∈ R,pR N r):∀x ∈ rq R n,0<=x.1/\x.1<N/\x.1≠n/\1<=x.2/\x.2<=50:=by
 intro x hx
 obtain⟨r,hr,he⟩:=List.mem_filterMap.1 hx
 exact RX (h r hr) he
def Bounded(c:Nat->Int):Prop:=∀n,0<=c n/\c n<=1048576
theorem sW{p:Nat}{s:(Nat->Int)×(Nat->Int)}{x:Int×Int}(hs:Bounded s.1)(hx:1<=x.2):Bounded (oM p s x).1:=by
 intro n
 unfold oM
 by_cases h:s.1 p+x.2<s.1 x.1.toNat
 .rw[if_pos h]
  simp only[upd]
  by_cases e:n=x.1.toNat
  .rw[if_pos e]
   have h1:=hs p
   have h2:=hs x.1.toNat
   omega
  .rw[if_neg e]
   exact hs n
 .rw[if_neg h]
  exact hs n
theorem q8(N g:Nat):Bounded (xm N g).c:=by
 intro n
 simp only[xm]
 by_cases h:n=g
 .rw[if_pos h];omega
 .rw[if_neg h]
  by_cases h':n<N
  .rw[if_pos h'];omega
  .rw[if_neg h'];omega
theorem tK{p:Nat}(l:List (Int×Int)):∀(s:(Nat->Int)×(Nat->Int)),Bounded s.1->(∀x ∈ l,1<=x.2)->Bounded (l.foldl (oM p) s).1:=by
 induction l with
 |nil=>exact fun s hs _=>hs
 |cons x l ih=>
  intro s hs hl
  rw[List.foldl_cons]
  exact ih _ (sW hs (hl x List.mem_cons_self)) (fun y hy=>hl y (List.mem_cons_of_mem _ hy))
theorem tO{R:List dR}{N:Nat}(hR:∀r ∈ R,pR N r)(g i:Nat):Bounded (iG R N g i).c:=by
 induction i with
 |zero=>exact q8 N g
 |succ i ih=>
  simp only[iG,xk]
  exact tK _ _ ih (fun x hx=>(zn hR x hx).2.2.2.1)
def open_(st:Nat->Bool)(N:Nat):Nat:=((List.range N).filter fun n=>!st n).length
theorem PO(st:Nat->Bool)(N p:Nat)(hp:p<N)(hs:st p=false):open_ (upd st p true) N+1=open_ st N:=by
 unfold open_
 induction N with
 |zero=>omega
 |succ N ih=>
  rw[List.range_succ,List.filter_append,List.filter_append,List.length_append,List.length_append]
  by_cases e:p=N
  .subst e
   have h1:(List.range p).filter (fun n=>!upd st p true n)=(List.range p).filter (fun n=>!st n):=by
    apply List.filter_congr
    intro x hx
    rw[CU _ _ _ _ (by have:=List.mem_range.1 hx;omega)]
   rw[h1]
   simp[upd_same,hs]
  .have:=ih (by omega)
   have h2:(upd st p true) N=st N:=CU _ _ _ _ (by omega)
   have h3:(List.filter (fun n=>!upd st p true n) [N]).length=(List.filter (fun n=>!st n) [N]).length:=by
    simp only[List.filter_cons,List.filter_nil,h2]
   omega
theorem JJ(st:Nat->Bool)(N:Nat)(h:∀j,j<N->st j=true):open_ st N=0:=by
 unfold open_
 rw[List.length_eq_zero_iff,List.filter_eq_nil_iff]
 intro a ha
 simp[h a (List.mem_range.1 ha)]
theorem RU(N:Nat):open_ (fun _=>false) N=N:=by
 unfold open_
 rw[List.filter_eq_self.2 (by intros;rfl),List.length_range]
theorem Bb(R:List dR)(N g:Nat):∀i,i<=N->open_ (iG R N g i).st N=N-i
 |0,_=>RU N
 |i+1,h=>by
  have ih:=Bb R N g i (by omega)
  rcases qx (iG R N g i).st (iG R N g i).c N with⟨h1,h2⟩|⟨p,h1,h2,h3⟩
  .have:=JJ _ N h2
   omega
  .have:=PO _ N p h2 h3
   simp only[iG,xk]
   rw[h1,Int.toNat_natCast]
   omega
theorem Ba(R:List dR)(N g i:Nat)(hi:i<N):∃p:Nat,iv (iG R N g i).st (iG R N g i).c N=(p:Int)/\p<N/\(iG R N g i).st p=false:=by
 rcases qx (iG R N g i).st (iG R N g i).c N with⟨h1,h2⟩|h
 .have h3:=JJ _ N h2
  have h4:=Bb R N g i (by omega)
  omega
 .exact h
end Go.Proofs.YtkjoilgpmngndaaGreat.Wk
