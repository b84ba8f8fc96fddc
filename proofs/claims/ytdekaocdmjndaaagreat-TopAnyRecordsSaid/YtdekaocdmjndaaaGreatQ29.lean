import Derived.Test.YtdekaocdmjndaaaGreatQ28
set_option linter.all false
namespace Go.Proofs.YtdekaocdmjndaaaGreat.Wk
open Go.RowKit Go.Shelf ah YtdekaocdmjndaaaGreatW.aj YtdekaocdmjndaaaGreatW.aH
def rest.T3:Bool×List (List Nat×List Nat):=(true,[([],[]),([0],[0]),([1],[1]),([2],[2]),([],[]),([3,4],[3,4]),([5],[5]),([6],[6]),([6],[6]),([],[]),([9,7,0,1,2,3,4,5,6,7,9],[7,9]),([8,10,0,1,2,3,4,5,6,7,8,9,10],[8])])
def rest.B3:List Nat:=[0,1,3,7,0,31,63,127,127,0,767,2047]
theorem rest.Qp:eB .any (opsOf Tryz.f214 3)=rest.T3:=by kernel_rfl
theorem rest.Jl:bI rest.T3.2 rest.B3=true:=by kernel_rfl
def rest.Wo:Bool×List (List Nat×List Nat):=(true,[([],[]),([],[]),([1],[1]),([],[]),([0],[0]),([4],[4]),([5,2],[2,5]),([6,3],[3,6]),([7],[7]),([],[]),([],[]),([],[]),([11],[11]),([],[]),([13],[13]),([12,14],[12,14]),([10,15],[10,15]),([9,16],[9,16]),([17],[17]),([8,18],[8,18]),([19,17,0,1,2,3,4,5,6,7,8,9,10,11,12,13,14,15,16,17,18,19],[19])])
def rest.B10:List Nat:=[0,0,2,0,1,17,55,127,255,0,0,0,2048,0,8192,30720,64512,130560,261632,524287,1048575]
theorem rest.MF:eB .any (opsOf Tryz.f214 10)=rest.Wo:=by kernel_rfl
theorem rest.Du:bI rest.Wo.2 rest.B10=true:=by kernel_rfl
def rest.ZY:Bool×List (List Nat×List Nat):=(true,[([],[]),([0],[0]),([1],[1]),([2],[2]),([],[]),([],[]),([3,4,5,0,1,2,3,4,5],[3,4,5])])
def rest.IJ:List Nat:=[0,1,3,7,0,0,63]
theorem rest.Sv:eB .any (opsOf Tryz.f214 14)=rest.ZY:=by kernel_rfl
theorem rest.OQ:bI rest.ZY.2 rest.IJ=true:=by kernel_rfl
def rest.T2:Bool×List (List Nat×List Nat):=(true,[([],[]),([],[]),([1],[1]),([0],[0]),([3],[3]),([4,2],[2,4]),([5],[5]),([6],[6]),([7],[7]),([8,0,1,2,3,4,5,6,7,8],[8])])
def rest.B2:List Nat:=[0,0,2,1,9,31,63,127,255,511]
theorem rest.DW:eB .any (opsOf Tryz.f214 2)=rest.T2:=by kernel_rfl
theorem rest.xP:bI rest.T2.2 rest.B2=true:=by kernel_rfl
theorem adW:Tryz.prog.underlying 346=some (.struct (Tryz.prog.fieldsOf 346)):=by kernel_rfl
theorem wW(a b:Value)(w:World):(Instr.field 346 (Value.agg #[a,b]) 0).run Tryz.prog w= .ok a w:=by
 unfold Instr.field
 simp only[Sem.run_bind,run_underlying Tryz.underlying346,Result.andThen_ok]
 simp[asAgg,part,isAgg,run_underlying Tryz.underlying3]
theorem wV(a b:Value)(w:World):(Instr.field 346 (Value.agg #[a,b]) 1).run Tryz.prog w= .ok b w:=by
 unfold Instr.field
 simp only[Sem.run_bind,run_underlying Tryz.underlying346,Result.andThen_ok]
 simp[asAgg,part,isAgg,run_underlying Tryz.underlying3]
attribute [local go_sem] wW wV
theorem y9{R:Ending->World->Prop}{a:Act}{w:World}{g:Nat}{x:Int×Int}(hp:a.tmps.getD 4 undef= .pointer (some ⟨g,0,none⟩))(hd:a.defers=[])(hB:aV w g [.int .i64 x.1,.int .i64 x.2] 346)(hR:R (.returned (iY x)) w):bodyPost Tryz.prog Tryz.f214 R .ret a w:=
 bodyPost_ret (results_cell_row rfl _ _ g 346 #[.int .i64 x.1,.int .i64 x.2] (0,0) _ hp hB adW rfl (by kernel_rfl)) hd hR
set_option maxRecDepth 100000 in
set_option maxHeartbeats 40000000 in
theorem ng{ga mb:Nat}{vW vR:Value}{T F:Nat->Nat->Int}(hT:kZ T):∀(left:Nat),left<256->∀(at_:Nat),at_<8->∀(w:World),nX w ga vW vR T F mb ->
  Calls Tryz.prog 214 #[.pointer (some ⟨ga,0,none⟩),.agg #[.int .i64 at_,.int .i64 left]] w λe w'=>e= .returned (iY (rest T at_ left))/\nX w' ga vW vR T F mb/\aY w.heap.size (λb=>b=mb) w w':=by
 intro left
 induction left using Nat.strongRecOn with
 |ind left ih=>
 intro hl at_ ha w hA
 have IH:=aa.mk ih
 have HT:=aa.mk hT
 have HA:=aa.mk hA
 have hga:=hA.jO.lt
 have hmb:=hA.memo.lt
 have hT0:=hA.jO.time (i:=at_) (j:=0) ha (by omega)
 simp only[Nat.add_zero] at hT0
 have hM:=hA.jO.map.2.2
 clear ih hT hA
 by_cases h0:left=0
 .subst h0
  go_enter Tryz.func214,Tryz.ntmps214
  have ha8:(at_:Int)<8:=by omega
  go_wp2_with fail
  go_region
  have HA2:=aa.mk (((HA.out.alloc (.cells #[.int .i64 at_,.int .i64 0] 349)).alloc (.cells #[.int .i64 (T at_ 0),.int .i64 0] 346)).drew)
  go_wp2_with fail
  refine y9 (x:=rest T at_ 0) (g:=w.heap.size+1) rfl rfl ?_ ⟨rfl,HA2.out,(((aY.refl w.heap.size (λb=>b=mb) w).alloc (Nat.le_refl _) _).alloc (by simp) _).drew⟩
  have:=aV.new (w.alloc (.cells #[.int .i64 at_,.int .i64 0] 349)) [.int .i64 (T at_ 0),.int .i64 0] 346
  simp only[World.size_alloc] at this
  exact this
 .have h0b:((left:Int)==0)=false:=by simpa using h0
  go_enter Tryz.func214,Tryz.ntmps214
  go_wp2_with fail
  have HA1:=aa.mk ((HA.out.alloc (.cells #[.int .i64 at_,.int .i64 left] 349)).alloc (.cells #[.int .i64 0,.int .i64 0] 346))
  have B3:=aa.mk ((aV.new w [.int .i64 at_,.int .i64 left] 349).alloc (.cells #[.int .i64 0,.int .i64 0] 346))
  have B4:=aa.mk (aV.new (w.alloc (.cells #[.int .i64 at_,.int .i64 left] 349)) [.int .i64 0,.int .i64 0] 346)
  have KW:=aa.mk (((aY.refl w.heap.size (λb=>b=mb) w).alloc (Nat.le_refl _) (.cells #[.int .i64 at_,.int .i64 left] 349)).alloc (by simp) (.cells #[.int .i64 0,.int .i64 0] 346))
  have hsz:((w.alloc (.cells #[.int .i64 at_,.int .i64 left] 349)).alloc (.cells #[.int .i64 0,.int .i64 0] 346)).heap.size=w.heap.size+1+1:=by simp
  simp only[World.size_alloc] at B4
  generalize(w.alloc (.cells #[.int .i64 at_,.int .i64 left] 349)).alloc (.cells #[.int .i64 0,.int .i64 0] 346)=w1 at HA1 B3 B4 KW hsz ⊢
  have QW:ga<w1.heap.size:=by omega
  have KO:mb<w1.heap.size:=by omega
  have hb3:w.heap.size<w1.heap.size:=by omega
  have hb4:w.heap.size+1<w1.heap.size:=by omega
  have hM1:=HA1.out.jO.map.2.2
  have tJ:=B3.out.cell 0
  have h31:=B3.out.cell 1
  simp only[dZ,dY] at tJ h31
  clear HA hT0 hM
  obtain⟨v,b,hb1,hb0,hlk⟩:=HA1.out.memo.lookup ha hl
  unfold jd at hlk
  obtain⟨⟨v0,v1⟩,rfl⟩:∃x,v=iY x:=by
   cases b
   .exact⟨_,hb0 rfl⟩
   .exact⟨_,hb1 rfl⟩
  unfold iY at hlk
  simp only at hlk
  refine fF (n:=12) (S:=λw'=>w'.cell? ⟨ga,130,none⟩=some (.map (some mb))/\w'.cell? ⟨w.heap.size,0,none⟩=some (.int .i64 (at_:Int))/\w'.cell? ⟨w.heap.size,1,none⟩=some (.int .i64 (left:Int))/\(Instr.lookup 338 (.map (some mb)) (.agg #[.int .i64 at_,.int .i64 left]) true).run Tryz.prog w'= .ok (.tuple #[.agg #[.int .i64 v0,.int .i64 v1],.bool b]) w') (ds:=[10]) #[O,O,O,O,O,O,O,O,O,O,O,O] (by kernel_rfl) rfl rfl ⟨hM1,tJ,h31,(hlk _ rfl)⟩ (λhHeld=>?_);refine bG rest.Qp rest.Jl (λau cz=>?_)
  have TQ:=aa.mk HA1.out.drew
  have II:=aa.mk (show aV w1.drew w.heap.size [.int .i64 at_,.int .i64 left] 349 from B3.out)
  have WW:=aa.mk (show aV w1.drew (w.heap.size+1) [.int .i64 0,.int .i64 0] 346 from B4.out)
  have Wz:=aa.mk KW.out.drew
  have HSZ:=aa.mk (show w1.drew.heap.size=w.heap.size+1+1 from hsz)
  replace hlk:∀w':World,w'.heap[mb]?=w1.drew.heap[mb]?->(Instr.lookup 338 (.map (some mb)) (.agg #[.int .i64 at_,.int .i64 left]) true).run Tryz.prog w'= .ok (.tuple #[.agg #[.int .i64 v0,.int .i64 v1],.bool b]) w':=hlk
  replace QW:ga<w1.drew.heap.size:=QW
  replace KO:mb<w1.drew.heap.size:=KO
  replace hb3:w.heap.size<w1.drew.heap.size:=hb3
  replace hb4:w.heap.size+1<w1.drew.heap.size:=hb4
  have hlw:w.heap.size<=w1.drew.heap.size:=by omega
  clear HA1 B3 B4 KW hM1 tJ h31 hsz
  generalize w1.drew=wd at TQ II WW Wz HSZ hlk QW KO hb3 hb4 hlw hHeld ⊢
  refine bq 0 24 #[I,O,O,O,O,O,O,O,O,O,O,O] au (h:=?_)
  refine bq 1 25 #[I,I,O,O,O,O,O,O,O,O,O,O] au (h:=?_)
  refine bq 2 26 #[I,I,I,O,O,O,O,O,O,O,O,O] au (h:=?_)
  refine fJ 3 27 #[I,I,I,I,O,O,O,O,O,O,O,O] au cz hHeld (hy:=by(rintro w' ⟨s0,s1,s2,s3⟩;go_simp;with_reducible rfl)) (h:=?_)
  refine fJ 4 28 #[I,I,I,I,I,O,O,O,O,O,O,O] au cz hHeld (hy:=by(rintro w' ⟨s0,s1,s2,s3⟩;go_simp;with_reducible rfl)) (h:=?_)
  refine fJ 5 29 #[I,I,I,I,I,I,O,O,O,O,O,O] au cz hHeld (hy:=by(rintro w' ⟨s0,s1,s2,s3⟩;go_simp;with_reducible rfl)) (h:=?_)
  refine bq 6 23 #[I,I,I,I,I,I,I,O,O,O,O,O] au (h:=?_)
  refine bq 7 30 #[I,I,I,I,I,I,I,I,O,O,O,O] au (h:=?_)
  refine bq 8 31 #[I,I,I,I,I,I,I,I,I,O,O,O] au (h:=?_)
  refine gB (i:=9) (N:=some 5) #[I,I,I,I,I,I,I,I,I,I,O,O] rfl rfl (aM au.out (by kernel_rfl)) (by decide) (λK hK=>?_)
  refine bD (w1:=?_) (v:=?_) (by rfl) rfl ?_ ?_
  rotate_left 2
  .go_simp
   constructor<;>rfl
  refine hK.out _ _ ⟨(TQ.out.alloc (.cells #[.int .i64 0,.int .i64 0] 346)).jO.map.2.2,(by simpa using (II.out.alloc (.cells #[.int .i64 0,.int .i64 0] 346)).cell 0),(by simpa using (II.out.alloc (.cells #[.int .i64 0,.int .i64 0] 346)).cell 1),(hlk _ (Below.heap_alloc _ _ _ KO))⟩ (λhHeld=>?_)
  clear hK K
  have B5:=aa.mk (aV.new wd [.int .i64 0,.int .i64 0] 346)
  have WO:=aa.mk (TQ.out.alloc (.cells #[.int .i64 0,.int .i64 0] 346))
  have XD:=aa.mk (II.out.alloc (.cells #[.int .i64 0,.int .i64 0] 346))
  have XC:=aa.mk (WW.out.alloc (.cells #[.int .i64 0,.int .i64 0] 346))
  have Xl:=aa.mk (Wz.out.alloc (by omega) (.cells #[.int .i64 0,.int .i64 0] 346))
  have hsz:(wd.alloc (.cells #[.int .i64 0,.int .i64 0] 346)).heap.size=wd.heap.size+1:=by simp
  have hlk2:∀w':World,w'.heap[mb]?=(wd.alloc (.cells #[.int .i64 0,.int .i64 0] 346)).heap[mb]?->(Instr.lookup 338 (.map (some mb)) (.agg #[.int .i64 at_,.int .i64 left]) true).run Tryz.prog w'= .ok (.tuple #[.agg #[.int .i64 v0,.int .i64 v1],.bool b]) w':=λw' h=>hlk _ (h.trans (Below.heap_alloc _ _ _ KO))
  obtain⟨g5,hg5⟩:∃g,wd.heap.size=g:=⟨_,rfl⟩
  rw[hg5] at B5 hsz QW KO hb3 hb4 ⊢
  clear TQ II WW Wz hlk hg5
  generalize wd.alloc (.cells #[.int .i64 0,.int .i64 0] 346)=we at B5 WO XD XC Xl hsz hlk2 hHeld ⊢
  refine j4 ?_
  refine fB (i:=10) (N:=none) #[I,I,I,I,I,I,I,I,I,I,I,O] rfl rfl (aM au.out (by kernel_rfl)) (by decide) (λK hK=>?_)
  have iD:=(show we.cell? ⟨g5,0,none⟩=some (.int .i64 0) by simpa using B5.out.cell 0)
  have lG:=B5.out.frozen 0
  have EN:we.cell? ⟨g5,1,none⟩=some (.int .i64 0):=by simpa using B5.out.cell 1
  have ES:we.frozen? ⟨g5,1,none⟩=false:=B5.out.frozen 1
  refine kg (w1:=?_) (by rfl) rfl ?_ ?_
  rotate_left
  .go_simp
   rfl
  refine hK.out _ _ ?_
  clear hK K iD lG EN ES
  have B5f:=aa.mk (B5.out.set2 (.int .i64 v0) (.int .i64 v1))
  have HAf:=aa.mk ((WO.out.other (p:=⟨g5,0,none⟩) (by simp only;omega) (by simp only;omega) (.int .i64 v0)).other (p:=⟨g5,1,none⟩) (by simp only;omega) (by simp only;omega) (.int .i64 v1))
  have B3f:=aa.mk ((XD.out.move (w':=we.setCell ⟨g5,0,none⟩ (.int .i64 v0)) (Below.heap_setCell _ _ _ _ (by simp only;omega))).move (w':=(we.setCell ⟨g5,0,none⟩ (.int .i64 v0)).setCell ⟨g5,1,none⟩ (.int .i64 v1)) (Below.heap_setCell _ _ _ _ (by simp only;omega)))
  have Ui:=aa.mk ((XC.out.move (w':=we.setCell ⟨g5,0,none⟩ (.int .i64 v0)) (Below.heap_setCell _ _ _ _ (by simp only;omega))).move (w':=(we.setCell ⟨g5,0,none⟩ (.int .i64 v0)).setCell ⟨g5,1,none⟩ (.int .i64 v1)) (Below.heap_setCell _ _ _ _ (by simp only;omega)))
  have KWf:=aa.mk ((Xl.out.setCell (p:=⟨g5,0,none⟩) (.inr (by simp only;omega)) (.int .i64 v0)).setCell (p:=⟨g5,1,none⟩) (.inr (by simp only;omega)) (.int .i64 v1))
  have hsf:((we.setCell ⟨g5,0,none⟩ (.int .i64 v0)).setCell ⟨g5,1,none⟩ (.int .i64 v1)).heap.size=g5+1:=by simp[World.setCell,hsz]
  clear B5 WO XD XC Xl hsz hlk2 hHeld
  generalize(we.setCell ⟨g5,0,none⟩ (.int .i64 v0)).setCell ⟨g5,1,none⟩ (.int .i64 v1)=wf at B5f HAf B3f Ui KWf hsf ⊢
  refine bq 11 6 #[I,I,I,I,I,I,I,I,I,I,I,I] au (h:=?_)
  refine fM (bP au.out (by kernel_rfl)) ?_
  have h50:=B5f.out.cell 0
  have Tc:=B5f.out.cell 1
  have tJ:=B3f.out.cell 0
  have h31:=B3f.out.cell 1
  have xm:=Ui.out.cell 0
  have xk:=Ui.out.cell 1
  have yl:=Ui.out.frozen 0
  have yj:=Ui.out.frozen 1
  simp only[dZ,dY] at h50 Tc tJ h31 xm xk
  cases b
  .clear hb1 hb0
   go_wp2_with fail
   clear h50 Tc tJ h31 xm xk yl yj
   have HAg:=aa.mk (HAf.out.alloc (.cells #[.int .i64 1048576,.int .i64 (-1)] 346))
   have B3g:=aa.mk (B3f.out.alloc (.cells #[.int .i64 1048576,.int .i64 (-1)] 346))
   have B4g:=aa.mk (Ui.out.alloc (.cells #[.int .i64 1048576,.int .i64 (-1)] 346))
   have B7g:=aa.mk (aV.new wf [.int .i64 1048576,.int .i64 (-1)] 346)
   have KWg:=aa.mk (KWf.out.alloc (by omega) (.cells #[.int .i64 1048576,.int .i64 (-1)] 346))
   rw[hsf] at B7g
   have hsg:(wf.alloc (.cells #[.int .i64 1048576,.int .i64 (-1)] 346)).heap.size=g5+1+1:=by simp[hsf]
   clear B5f HAf B3f Ui KWf hsf
   generalize wf.alloc (.cells #[.int .i64 1048576,.int .i64 (-1)] 346)=wg at HAg B3g B4g B7g KWg hsg ⊢
   refine(bK.calls 9 left _ wg (CK hl)).mono ?_
   rintro e wl ⟨v_,rfl,hR,hbl⟩
   obtain⟨Al,cl,rfl,hcl,hil⟩:=wZ hR
   rw[List.length_map] at hcl
   have TM:=aa.mk hil
   have Xx:=aa.mk (HAg.out.keep hbl)
   have B3l:=aa.mk (B3g.out.below hbl)
   have B4l:=aa.mk (B4g.out.below hbl)
   have Mc:=aa.mk (B7g.out.below hbl)
   have KWl:=aa.mk (KWg.out.trans (aY.of_below (S:=λb=>b=mb) hbl (by omega)))
   clear hR hil hbl HAg B3g B4g B7g KWg
   rw[hsg] at TM
   rw[List.length_map]
   have hpl:=zi left
   go_wp2_with fail
   go_loopw [39] (λv wr=>∃k:Nat,k<=(places left).length/\v= .int .i64 k/\aa (nX wr ga vW vR T F mb)/\aa (aV wr w.heap.size [.int .i64 at_,.int .i64 left] 349)/\aa (aV wr (w.heap.size+1) [.int .i64 0,.int .i64 0] 346)/\aa (aV wr (g5+1) [.int .i64 (rA T at_ left k).1,.int .i64 (rA T at_ left k).2] 346)/\aa (kX wr (g5+1+1) Al ((places left).map (λn:Nat=>(n:Int))))/\aa (aY w.heap.size (λb=>b=mb) w wr)) (λv _=>(places left).length-(intOf v).toNat)
   case atStart=>exact⟨0,Nat.zero_le _,rfl,Xx,B3l,B4l,Mc,TM,KWl⟩
   case round=>
    clear TM Xx B3l B4l Mc KWl
    obtain⟨k,hk,rfl,HA,B3,B4,B7,HI,KW⟩:=hrel
    by_cases hkl:k<(places left).length
    .obtain⟨n,hn⟩:∃n,(places left)[k]=n:=⟨_,rfl⟩
     have hnm:n ∈ places left:=by rw[<- hn];exact List.getElem_mem hkl
     have FV:=(lF.1 hnm).1
     have akP:(n:Int)<8:=by omega
     have ala:(at_:Int)<8:=by omega
     have hdl:=vT hnm
     have hdrop:=Jg hl FV
     have hls:rA T at_ left (k+1)=_:=GL T at_ left k hkl
     rw[hn] at hls
     unfold mJ at hls
     have P5:=aa.mk hls
     clear hls
     obtain⟨gl,hgl,aeA,NQ,QV⟩:=HI.out k (by rw[List.length_map];exact hkl)
     subst hgl
     have hgd:((places left).map (λn:Nat=>(n:Int))).getD k 0=(n:Int):=by
      simp[List.getD,hkl,hn]
     rw[hgd] at QV
     clear hgd
     go_wp2_with fail
     have tJ:=B3.out.cell 0
     have h31:=B3.out.cell 1
     simp only[dZ,dY] at tJ h31
     have hTc:=HA.out.jO.time (i:=at_) (j:=n) ha FV
     have hcall:=IH.out (eG left n) hdl (by omega) n FV wr.drew HA.out.drew
     obtain⟨⟨r0,r1⟩,hr⟩:∃x,rest T n (eG left n)=x:=⟨_,rfl⟩
     have hrb:=jv HT.out n (eG left n)
     have hTb:=HT.out at_ n
     obtain⟨tn,htn⟩:∃x,T at_ n=x:=⟨_,rfl⟩
     rw[hr] at hcall hrb
     rw[htn] at hTc hTb
     have HR:=aa.mk hr
     have HTN:=aa.mk htn
     clear hr htn
     unfold iY at hcall
     simp only at hcall hrb
     have hsum:wrap64 (tn+r0)=tn+r0:=IntWalk.wrap64_in _ (by omega)
     have Pq:=aa.mk hcall
     clear hcall
     refine fF (n:=21) (S:=λw'=>w'.cell? ⟨w.heap.size,0,none⟩=some (.int .i64 (at_:Int))/\w'.cell? ⟨w.heap.size,1,none⟩=some (.int .i64 (left:Int))/\w'.cell? ⟨ga,2+at_*8+n,none⟩=some (.int .i64 tn)) (ds:=[]) #[O,O,O,O,O,O,O,O,O,O,O,O,O,O,O,O,O,O,O,O,O] (by kernel_rfl) rfl rfl ⟨tJ,h31,hTc⟩ (λhHeld=>?_);refine bG rest.MF rest.Du (λau cz=>?_)
     have TQ:=aa.mk HA.out.drew
     have II:=aa.mk (show aV wr.drew w.heap.size [.int .i64 at_,.int .i64 left] 349 from B3.out)
     have WW:=aa.mk (show aV wr.drew (w.heap.size+1) [.int .i64 0,.int .i64 0] 346 from B4.out)
     have B7d:=aa.mk (show aV wr.drew (g5+1) [.int .i64 (rA T at_ left k).1,.int .i64 (rA T at_ left k).2] 346 from B7.out)
     have HId:=aa.mk HI.out.drew
     have Wz:=aa.mk KW.out.drew
     have ae0:=B7d.out.lt
     have aes:=TQ.out.memo.lt
     clear HA B3 B4 B7 HI KW tJ h31 hTc QV
     replace NQ:gl<wr.drew.heap.size:=NQ
     generalize wr.drew=wd at TQ II WW B7d HId Wz Pq ae0 aes NQ hHeld ⊢
     refine bq 0 43 #[I,O,O,O,O,O,O,O,O,O,O,O,O,O,O,O,O,O,O,O,O] au (h:=?_)
     refine bq 1 44 #[I,I,O,O,O,O,O,O,O,O,O,O,O,O,O,O,O,O,O,O,O] au (h:=?_)
     refine fJ 2 45 #[I,I,I,O,O,O,O,O,O,O,O,O,O,O,O,O,O,O,O,O,O] au cz hHeld (hy:=by(rintro w' ⟨s0,s1,s2⟩;go_simp;with_reducible rfl)) (h:=?_)
     refine bq 3 46 #[I,I,I,I,O,O,O,O,O,O,O,O,O,O,O,O,O,O,O,O,O] au (h:=?_)
     refine bq 4 47 #[I,I,I,I,I,O,O,O,O,O,O,O,O,O,O,O,O,O,O,O,O] au (h:=?_)
     refine bq 5 48 #[I,I,I,I,I,I,O,O,O,O,O,O,O,O,O,O,O,O,O,O,O] au (h:=?_)
     refine bq 6 49 #[I,I,I,I,I,I,I,O,O,O,O,O,O,O,O,O,O,O,O,O,O] au (h:=?_)
     refine bq 7 50 #[I,I,I,I,I,I,I,I,O,O,O,O,O,O,O,O,O,O,O,O,O] au (h:=?_)
     refine fJ 8 51 #[I,I,I,I,I,I,I,I,I,O,O,O,O,O,O,O,O,O,O,O,O] au cz hHeld (hy:=by(rintro w' ⟨s0,s1,s2⟩;go_simp;with_reducible rfl)) (h:=?_)
     refine bq 9 52 #[I,I,I,I,I,I,I,I,I,I,O,O,O,O,O,O,O,O,O,O,O] au (h:=?_)
     refine bq 10 53 #[I,I,I,I,I,I,I,I,I,I,I,O,O,O,O,O,O,O,O,O,O] au (h:=?_)
     refine bq 11 54 #[I,I,I,I,I,I,I,I,I,I,I,I,O,O,O,O,O,O,O,O,O] au (h:=?_)
     refine fJ 12 55 #[I,I,I,I,I,I,I,I,I,I,I,I,I,O,O,O,O,O,O,O,O] au cz hHeld (hy:=by(rintro w' ⟨s0,s1,s2⟩;go_simp;with_reducible rfl)) (h:=?_)
     refine bq 13 56 #[I,I,I,I,I,I,I,I,I,I,I,I,I,I,O,O,O,O,O,O,O] au (h:=?_)
     refine bq 14 57 #[I,I,I,I,I,I,I,I,I,I,I,I,I,I,I,O,O,O,O,O,O] au (h:=?_)
     refine bq 15 58 #[I,I,I,I,I,I,I,I,I,I,I,I,I,I,I,I,O,O,O,O,O] au (h:=?_)
     refine bq 16 59 #[I,I,I,I,I,I,I,I,I,I,I,I,I,I,I,I,I,O,O,O,O] au (h:=?_)
     refine gB (i:=17) (N:=some 60) #[I,I,I,I,I,I,I,I,I,I,I,I,I,I,I,I,I,I,O,O,O] rfl rfl (aM au.out (by kernel_rfl)) (by decide) (λK hK=>?_)
     refine bT Tryz.func214 (by kernel_rfl) rfl #[.pointer (some ⟨ga,0,none⟩),.agg #[.int .i64 (n:Int),.int .i64 (eG left n:Int)]] (by rfl) rfl rfl (by(try simp only[List.map_toArray,List.map_cons,List.map_nil]);rfl) ?_
     refine(Pq.out).mono ?_
     rintro e_ w_ ⟨rfl,hA_,S9⟩
     refine⟨_,rfl,hK.out _ _ ⟨by simpa using (II.out.move (S9.block _ (by omega) (by omega))).cell 0,by simpa using (II.out.move (S9.block _ (by omega) (by omega))).cell 1,by rw[hA_.jO.time (i:=at_) (j:=n) ha FV,HTN.out]⟩ (λhHeld=>?_)⟩
     clear hK K
     have WO:=aa.mk hA_
     have XD:=aa.mk (II.out.move (S9.block _ (by omega) (by omega)))
     have XC:=aa.mk (WW.out.move (S9.block _ (by omega) (by omega)))
     have WV:=aa.mk (B7d.out.move (S9.block _ (by omega) (by omega)))
     have HIe:=aa.mk (HId.out.keep S9 (Nat.le_refl _) (by rintro g rfl;omega))
     have Xl:=aa.mk (Wz.out.trans (S9.mono (by omega) (λ_ _ h=>h)))
     clear hA_ S9 TQ II WW B7d HId Wz Pq
     refine j4 ?_
     refine bq 18 61 #[I,I,I,I,I,I,I,I,I,I,I,I,I,I,I,I,I,I,I,O,O] au (h:=?_)
     refine bq 19 62 #[I,I,I,I,I,I,I,I,I,I,I,I,I,I,I,I,I,I,I,I,O] au (h:=?_)
     refine bq 20 10 #[I,I,I,I,I,I,I,I,I,I,I,I,I,I,I,I,I,I,I,I,I] au (h:=?_)
     refine fM (bP au.out (by kernel_rfl)) ?_
     obtain⟨⟨b0,b1⟩,Yx⟩:∃x,rA T at_ left k=x:=⟨_,rfl⟩
     rw[Yx] at WV P5
     rw[HR.out,HTN.out] at P5
     clear Yx
     have Am:=WV.out.cell 0
     have KV:=WV.out.cell 1
     have alD:=WV.out.frozen 0
     have alA:=WV.out.frozen 1
     simp only[dZ,dY] at Am KV
     have hgm:=WO.out.ne
     by_cases hb:tn+r0<b0
     .have hbd:decide (tn+r0<b0)=true:=by simpa using hb
      have hls:=P5.out
      rw[if_pos hb] at hls
      have HLT:=aa.mk hls
      clear P5 hls
      go_wp2_with fail
      go_roundw
      case rel=>
       refine⟨k+1,by omega,by go_num,⟨(WO.out.other (p:=⟨g5+1,0,none⟩) (by simp only;omega) (by simp only;omega) _).other (p:=⟨g5+1,1,none⟩) (by simp only;omega) (by simp only;omega) _⟩,⟨?_⟩,⟨?_⟩,⟨?_⟩,⟨(HIe.out.setCell (p:=⟨g5+1,0,none⟩) (by simp only;omega) _).setCell (p:=⟨g5+1,1,none⟩) (by simp only;omega) _⟩,⟨(Xl.out.setCell (p:=⟨g5+1,0,none⟩) (.inr (by simp only;omega)) _).setCell (p:=⟨g5+1,1,none⟩) (.inr (by simp only;omega)) _⟩⟩
       .exact(XD.out.move (Below.heap_setCell _ _ _ _ (by simp only;omega))).move (Below.heap_setCell _ _ _ _ (by simp only;omega))
       .exact(XC.out.move (Below.heap_setCell _ _ _ _ (by simp only;omega))).move (Below.heap_setCell _ _ _ _ (by simp only;omega))
       .rw[HLT.out]
        exact WV.out.set2 _ _
      case measure=>simp[intOf];omega
     .have hbd:decide (tn+r0<b0)=false:=by simpa using hb
      have hls:=P5.out
      rw[if_neg hb] at hls
      have HLT:=aa.mk hls
      clear P5 hls
      go_wp2_with fail
      go_roundw
      case rel=>exact⟨k+1,by omega,by go_num,WO,XD,XC,⟨by rw[HLT.out];exact WV.out⟩,HIe,Xl⟩
      case measure=>simp[intOf];omega
    .obtain rfl:k=(places left).length:=by omega
     rw[Kt T at_ left h0] at B7
     obtain⟨o,ho,YS⟩:=HA.out.drew.memo.update ha hl
     unfold jd iY at ho
     have HMO:=aa.mk YS
     clear YS
     have hM:=HA.out.jO.map.2.2
     have tJ:=B3.out.cell 0
     have h31:=B3.out.cell 1
     have Am:=B7.out.cell 0
     have KV:=B7.out.cell 1
     simp only[dZ,dY] at tJ h31 Am KV
     have hmw:=HA.out.memo.lt
     have h4w:=B4.out.lt
     have h7w:=B7.out.lt
     have hgm:=HA.out.ne
     go_wp2_with fail
     go_region
     have HAu:=aa.mk (show nX (wr.drew.putObj mb o) ga vW vR T F mb from⟨HA.out.drew.jO.move (cO _ _ hgm),HMO.out,hgm⟩)
     have XB:=aa.mk (B4.out.move (w':=wr.drew.putObj mb o) (cO _ _ (by omega)))
     have B7u:=aa.mk (B7.out.move (w':=wr.drew.putObj mb o) (cO _ _ (by omega)))
     have KWu:=aa.mk (KW.out.drew.put (.inl rfl) o)
     clear HA B3 B4 B7 HI KW hM tJ h31 Am KV ho HMO
     generalize wr.drew.putObj mb o=wu at HAu XB B7u KWu ⊢
     have Am:=B7u.out.cell 0
     have KV:=B7u.out.cell 1
     have xm:=XB.out.cell 0
     have xk:=XB.out.cell 1
     have yl:=XB.out.frozen 0
     have yj:=XB.out.frozen 1
     simp only[dZ,dY] at Am KV xm xk
     go_wp2_with fail
     refine y9 (g:=w.heap.size+1) rfl rfl (XB.out.set2 _ _) ⟨rfl,?_,?_⟩
     .exact(HAu.out.other (p:=⟨w.heap.size+1,0,none⟩) (by simp only;omega) (by simp only;omega) _).other (p:=⟨w.heap.size+1,1,none⟩) (by simp only;omega) (by simp only;omega) _
     .exact(KWu.out.setCell (p:=⟨w.heap.size+1,0,none⟩) (.inr (by simp only;omega)) _).setCell (p:=⟨w.heap.size+1,1,none⟩) (.inr (by simp only;omega)) _
  .have hb:=hb1 rfl
   clear hb1 hb0
   unfold iY at hb
   simp only[Value.agg.injEq,Array.mk.injEq,List.cons.injEq,Value.int.injEq,true_and,and_true] at hb
   obtain⟨rfl,rfl⟩:=hb
   go_wp2_with fail
   refine y9 (g:=w.heap.size+1) rfl rfl (Ui.out.set2 _ _) ⟨rfl,?_,?_⟩
   .exact(HAf.out.other (p:=⟨w.heap.size+1,0,none⟩) (by simp only;omega) (by simp only;omega) _).other (p:=⟨w.heap.size+1,1,none⟩) (by simp only;omega) (by simp only;omega) _
   .exact(KWf.out.setCell (p:=⟨w.heap.size+1,0,none⟩) (.inr (by simp only;omega)) _).setCell (p:=⟨w.heap.size+1,1,none⟩) (.inr (by simp only;omega)) _
end Go.Proofs.YtdekaocdmjndaaaGreat.Wk
