import Derived.Test.YtkjoilgpmngndaaGreatQ23
set_option linter.all false
namespace Go.Proofs.YtkjoilgpmngndaaGreat
open Go.RowKit Go.Shelf Go.Proofs.YtkjoilgpmngndaaGreat.av Go.Proofs.YtkjoilgpmngndaaGreatW.aA Go.Proofs.YtkjoilgpmngndaaGreatW.aJ
def kP(fx:List dJ)(row:Int)(xs:List Int):Bool:=fx.all fun f=>!(f.f0==row)||(xs.getD f.f1.toNat 0==f.f2)
set_option maxRecDepth 100000 in
theorem Kk{Af:Option Addr}{cf:Nat}{fx:List dJ}{A:Option Addr}{c:Nat}(u0 u1:Value)(row:Int)(xs:List Int)(w:World)(hF:AL.C w Af fx.length fx)(hcf:fx.length<=cf)(hx:(Kd.int .i64).C w A xs.length xs)(hb:∀f ∈ fx,f.f0=row->0<=f.f1/\f.f1<xs.length)(hf:fx.length<=1000)(hu0:u0.cells=#[u0])(hu1:u1.cells=#[u1]):
  Calls Tryz.prog 152 #[.agg #[u0,u1,.slice Af fx.length cf],.int .i64 row,.slice A xs.length c] w fun e w'=>e= .returned (.bool (kP fx row xs))/\Below w.heap.size w w':=by
 have HF:=aa.mk hF
 have HX:=aa.mk hx
 have HBX:=aa.mk hb
 clear hF hx hb
 go_enter Tryz.func152,Tryz.ntmps152
 go_wp2_with fail
 have HB0:=aa.mk (ae (Below.refl w.heap.size w) (.cells #[u0,u1,.slice Af fx.length cf] 110))
 have B0:=aR.new w [u0,u1,.slice Af fx.length cf] 110
 have h2:=B0.cell 2
 simp only[List.getElem?_cons_zero,List.getElem?_cons_succ] at h2
 have hg:=B0.lt
 clear B0
 generalize w.alloc (.cells #[u0,u1,.slice Af fx.length cf] 110)=w0 at HB0 h2 hg ⊢
 go_step3
 go_wp2_with fail
 go_step3
 go_wp2_with fail
 clear h2 hg
 go_loopw [7,13] (fun v7 v wr=>∃k:Nat,k<=fx.length/\v7= .bool true/\v= .int .i64 k/\aa (kP (fx.take k) row xs=true)/\aa (Below w.heap.size w wr)) (fun v7 v _=>fx.length-(intOf v).toNat)
 case atStart=>exact⟨0,Nat.zero_le _,rfl,rfl,⟨rfl⟩,HB0⟩
 case round=>
  clear HB0
  obtain⟨k,hk,rfl,rfl,HH,HB⟩:=hrel
  by_cases hkl:k<fx.length
  .obtain⟨ad,e,h0,h1,h2⟩:=OP (Kd.aK HF.out HB.out) (k:Int) (by omega) (by omega)
   cases e
   simp only[Int.toNat_natCast] at h0 h1 h2
   have hrr:sJ fx (k:Int)=fx[k]:=by
    show fx.getD (k:Int).toNat _=fx[k]
    rw[List.getD_eq_getElem?_getD,Int.toNat_natCast,List.getElem?_eq_getElem hkl]
    rfl
   have hbx:=HBX.out fx[k] (List.getElem_mem hkl)
   have hst:kP (fx.take (k+1)) row xs=(!(fx[k].f0==row)||(xs.getD fx[k].f1.toNat 0==fx[k].f2)):=by
    unfold kP
    rw[List.take_succ_eq_append_getElem hkl,List.all_append]
    have:=HH.out
    unfold kP at this
    rw[this]
    simp
   have hall:kP (fx.take (k+1)) row xs=false->kP fx row xs=false:=fun hf=>by
    unfold kP at hf ⊢
    obtain⟨f,hm,hv⟩:=List.all_eq_false.1 hf
    exact List.all_eq_false.2 ⟨f,List.mem_of_mem_take hm,hv⟩
   rw[hrr] at h0 h1 h2
   obtain⟨f,hf⟩:∃f,fx[k]=f:=⟨_,rfl⟩
   rw[hf] at h0 h1 h2 hbx hst
   have HST:=aa.mk hst
   have II:=aa.mk hall
   clear hst hall hrr hf
   obtain⟨f0,f1,f2⟩:=f
   simp only at h0 h1 h2 hbx
   have BF:=aa.mk (aR.new wr [.int .i64 f0,.int .i64 f1,.int .i64 f2] 235)
   have g0:=BF.out.cell 0
   have g1:=BF.out.cell 1
   have g2:=BF.out.cell 2
   simp only[List.getElem?_cons_zero,List.getElem?_cons_succ] at g0 g1 g2
   have BZ:=aa.mk (ae HB.out (.cells #[.int .i64 f0,.int .i64 f1,.int .i64 f2] 235))
   by_cases p0:f0=row
   .have XN:(f0==row)=true:=beq_iff_eq.2 p0
    obtain⟨b1,b2⟩:=hbx p0
    obtain⟨ax,e,hx⟩:=Kd.dz (Kd.aK HX.out BZ.out) f1 (by omega) (by omega)
    cases e
    have hrx:rd xs f1=xs.getD f1.toNat 0:=rfl
    rw[hrx] at hx
    obtain⟨y,hy⟩:∃y,xs.getD f1.toNat 0=y:=⟨_,rfl⟩
    have HY:=aa.mk hy
    rw[hy] at hx
    clear hrx hy p0 hbx
    by_cases p1:y=f2
    .have p1b:(y !=f2)=false:=by simp[p1]
     have HE:=aa.mk (show kP (fx.take (k+1)) row xs=true by rw[HST.out];show(_||(xs.getD f1.toNat 0==f2))=true;rw[HY.out];simp[p1])
     clear p1
     go_wp2_with fail
     go_region
     go_wp2_with fail
     exact⟨⟨k+1,by omega,rfl,by go_num,HE,⟨bG BZ.out⟩⟩,by simp[intOf];omega⟩
    .have p1b:(y !=f2)=true:=by simp[p1]
     have HE:=aa.mk (II.out (show kP (fx.take (k+1)) row xs=false by rw[HST.out];show(!(f0==row)||(xs.getD f1.toNat 0==f2))=false;rw[HY.out,XN];simp[p1]))
     clear p1
     go_wp2_with fail
     go_region
     go_wp2_with fail
     rw[Exit.noGoto_ret]
     go_ret
     exact⟨by(rw[HE.out];rfl),bG BZ.out⟩
   .have XN:(f0==row)=false:=beq_eq_false_iff_ne.2 p0
    have HE:=aa.mk (show kP (fx.take (k+1)) row xs=true by rw[HST.out];simp[p0])
    clear p0 hbx
    go_wp2_with fail
    go_region
    go_wp2_with fail
    exact⟨⟨k+1,by omega,rfl,by go_num,HE,⟨bG BZ.out⟩⟩,by simp[intOf];omega⟩
  .obtain rfl:k=fx.length:=by omega
   have HE:=aa.mk (show kP fx row xs=true by have:=HH.out;rwa [List.take_length] at this)
   go_wp2_with fail
   rw[Exit.noGoto_ret]
   go_ret
   exact⟨by(rw[HE.out];rfl),HB.out⟩
end Go.Proofs.YtkjoilgpmngndaaGreat
namespace Go.Proofs.YtkjoilgpmngndaaGreat
open Go.RowKit Go.Proofs.YtkjoilgpmngndaaGreat.av Go.Proofs.YtkjoilgpmngndaaGreatW.aA Go.Proofs.YtkjoilgpmngndaaGreatW.aJ
theorem fu{n:Nat}{P:Program}{md:Region.Mode}{ops:Array Oper}{Q:Exit->Act->World->Prop}{S:World->Prop}{ds:List Nat}{fuel:Nat}{l:Array Bool}{a a':Act}{w:World}{oi:Oper}{v:Value}{T:Bool×List (List Nat×List Nat)}(i N:Nat)(l':Array Bool)
  (hT:aa (eu md ops=T)) (hi:ops[i]?=some oi:=by exact rfl) (hN:oi.dst=some N:=by exact rfl) (hc:Xf T l.toList l'.toList i=true:=by kernel_rfl) (hQ:∀c a w,Q (.panic c) (a.put oi.dst v) w->Q (.panic c) a w:=by exact fun _ _ _ h=>h)
  (hw:Region.wanted oi (yielded ops a.tmps)=true:=by rfl) (hy:∀w,(execOp a.eval oi).run P w= .ok (.value v) w:=by(intro w';go_simp;with_reducible rfl))
  (ha:a.put (some N) v=a':=by(simp only[Act.put,sb0,sb1,sb2,dL,ed];rfl))
  (h:il n P md ops Q S ds fuel l' a' w):il n P md ops Q S ds (fuel+1) l a w:=
 iD l' hi hN (dQ hT.out hc) hQ (Or.inl ⟨hw,hy⟩) ha h
theorem nO{n:Nat}{P:Program}{md:Region.Mode}{ops:Array Oper}{Q:Exit->Act->World->Prop}{S:World->Prop}{ds:List Nat}{fuel:Nat}{l:Array Bool}{a a':Act}{w:World}{oi:Oper}{v:Value}{T:Bool×List (List Nat×List Nat)}{B:List Nat}(i N:Nat)(l':Array Bool)
  (hT:aa (eu md ops=T)) (hB:aa (bO T.2 B=true)) (hS:S w) (hi:ops[i]?=some oi:=by exact rfl) (hN:oi.dst=some N:=by exact rfl) (hc:Oe T B ds l.toList l'.toList i=true:=by kernel_rfl) (hQ:∀c a w,Q (.panic c) (a.put oi.dst v) w->Q (.panic c) a w:=by exact fun _ _ _ h=>h)
  (hw:Region.wanted oi (yielded ops a.tmps)=true:=by rfl) (hy:∀w,S w->(execOp a.eval oi).run P w= .ok (.value v) w)
  (ha:a.put (some N) v=a':=by(simp only[Act.put,sb0,sb1,sb2,dL,ed];rfl))
  (h:il n P md ops Q S ds fuel l' a' w):il n P md ops Q S ds (fuel+1) l a w:=
 Y9 l' hi hN (Jd hT.out hB.out hc) hQ (Or.inl ⟨hw,hy⟩) hS ha h
end Go.Proofs.YtkjoilgpmngndaaGreat
