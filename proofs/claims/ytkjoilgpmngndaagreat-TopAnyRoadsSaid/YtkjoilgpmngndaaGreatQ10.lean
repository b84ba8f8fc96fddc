import Derived.DeepKeys3
import Derived.Maps.Keyed
import Derived.Test.YtkjoilgpmngndaaGreatQ9
set_option linter.all false
namespace Go.Proofs.YtkjoilgpmngndaaGreat.Wk
open Go.RowKit au YtkjoilgpmngndaaGreatW.aj Go.Instr
def jX(a s:Int):Value:= .agg #[.int .i64 a,.int .i64 s]
def jV(x:Int×Int):Value:= .agg #[.int .i64 x.1,.int .i64 x.2]
theorem vX:Maps.Keyed Tryz.prog 205:= .of_law (deep_law (m:=2) (by decide) (by kernel_rfl) (by kernel_rfl) (by kernel_rfl))
theorem NT:∀a:Fin 8,∀s:Fin 256,(keyOf Tryz.prog 205 (.agg #[.int .i64 (a.1:Int),.int .i64 (s.1:Int)])).isSome=true:=by decide +kernel
theorem uF{a s:Nat}(ha:a<8)(hs:s<256):∃l,keyOf Tryz.prog 205 (jX a s)=some l:=Option.isSome_iff_exists.1 (NT ⟨a,ha⟩ ⟨s,hs⟩)
def yt(w:World)(mb:Nat)(T:Nat->Nat->Int):Prop:=∃es clock,w.heap[mb]?=some (.map es clock)/\∀e ∈ es.toList,∃a s:Nat,a<8/\s<256/\e.key=jX a s/\e.val=jV (rest T a s)
theorem yt.move{w w':World}{mb:Nat}{T:Nat->Nat->Int}(h:yt w mb T)(e:w'.heap[mb]?=w.heap[mb]?):yt w' mb T:=by
 obtain⟨es,clock,h0,h1⟩:=h
 exact⟨es,clock,e.trans h0,h1⟩
theorem yt.lt{w:World}{mb:Nat}{T:Nat->Nat->Int}(h:yt w mb T):mb<w.heap.size:=by
 obtain⟨es,clock,h0,h1⟩:=h
 exact(Array.getElem?_eq_some_iff.1 h0).1
theorem yt.new{w:World}{mb:Nat}{T:Nat->Nat->Int}(h:w.heap[mb]?=some (.map #[] 0)):yt w mb T:=⟨_,_,h,λe he=>by simp at he⟩
theorem NS{a s b t:Nat}(h:jX a s=jX b t):a=b/\s=t:=by
 unfold jX at h
 simp only[Value.agg.injEq,Array.mk.injEq,List.cons.injEq,Value.int.injEq,true_and,and_true,Int.natCast_inj] at h
 exact h
theorem QO:Tryz.prog.underlying 154=some (.map 205 202):=by kernel_rfl
theorem agF(w:World):(zeroValue 202).run Tryz.prog w= .ok (jV (0,0)) w:=Tryz.zeroValue202 w
theorem yt.lookup{w:World}{mb:Nat}{T:Nat->Nat->Int}(h:yt w mb T){a s:Nat}(ha:a<8)(hs:s<256):
  ∃v b,(b=true->v=jV (rest T a s))/\(b=false->v=jV (0,0))/\∀w':World,w'.heap[mb]?=w.heap[mb]? ->
   (Instr.lookup 154 (.map (some mb)) (jX a s) true).run Tryz.prog w'= .ok (.tuple #[v,.bool b]) w':=by
 obtain⟨es,clock,h0,h1⟩:=h
 obtain⟨l,hl⟩:=uF ha hs
 have hk:∀e ∈ es.toList,∃l,keyOf Tryz.prog 205 e.key=some l:=λe he=>by
  obtain⟨b,t,hb,ht,h2,h3⟩:=h1 e he
  rw[h2]
  exact uF hb ht
 by_cases hex:∃e ∈ es.toList,e.key=jX a s
 .refine⟨jV (rest T a s),true,λ_=>rfl,λe=>by(cases e),λw' hw'=>?_⟩
  rw[h0] at hw'
  have hg:(getObj mb).run Tryz.prog w'= .ok (.map es clock) w':=by simp[getObj,Sem.run,hw']
  unfold Instr.lookup
  simp only[Sem.run_bind,run_underlying QO,Result.andThen_ok,hg,vX.check w' es.isEmpty hl,Sem.run_pure]
  rcases vX.find w' hl es.toList hk with⟨hf,hn⟩|⟨j,e,hf,hj,he⟩
  .obtain⟨e,he,he2⟩:=hex
   exact absurd he2 (hn e he)
  .rw[hf]
   obtain⟨b,t,hb,ht,h2,h3⟩:=h1 e (List.mem_of_getElem? hj)
   rw[h2] at he
   obtain⟨rfl,rfl⟩:=NS he
   simp only[Result.andThen_ok,Sem.run_bind,Sem.run_pure,if_true,h3]
 .refine⟨jV (0,0),false,λe=>by(cases e),λ_=>rfl,λw' hw'=>?_⟩
  rw[h0] at hw'
  have hg:(getObj mb).run Tryz.prog w'= .ok (.map es clock) w':=by simp[getObj,Sem.run,hw']
  unfold Instr.lookup
  simp only[Sem.run_bind,run_underlying QO,Result.andThen_ok,hg,vX.check w' es.isEmpty hl,Sem.run_pure]
  rcases vX.find w' hl es.toList hk with⟨hf,hn⟩|⟨j,e,hf,hj,he⟩
  .rw[hf]
   simp only[Result.andThen_ok,Sem.run_bind,agF,Sem.run_pure,if_true]
  .exact absurd ⟨e,List.mem_of_getElem? hj,he⟩ hex
theorem yt.update{w:World}{mb:Nat}{T:Nat->Nat->Int}(h:yt w mb T){a s:Nat}(ha:a<8)(hs:s<256):
  ∃o,(Instr.mapUpdate 154 (.map (some mb)) (jX a s) (jV (rest T a s))).run Tryz.prog w= .ok () (w.putObj mb o)/\yt (w.putObj mb o) mb T:=by
 have hlt:=h.lt
 obtain⟨es,clock,h0,h1⟩:=h
 obtain⟨l,hl⟩:=uF ha hs
 have hk:∀e ∈ es.toList,∃l,keyOf Tryz.prog 205 e.key=some l:=λe he=>by
  obtain⟨b,t,hb,ht,h2,h3⟩:=h1 e he
  rw[h2]
  exact uF hb ht
 have hg:(getObj mb).run Tryz.prog w= .ok (.map es clock) w:=by simp[getObj,Sem.run,h0]
 have hset:∀o,(setObj mb o).run Tryz.prog w= .ok () (w.putObj mb o):=λo=>by simp[setObj,Sem.run,World.putObj,h0]
 unfold Instr.mapUpdate
 simp only[Sem.run_bind,run_underlying QO,Result.andThen_ok,hg,vX.check w false hl,Sem.run_pure]
 rcases vX.find w hl es.toList hk with⟨hf,hn⟩|⟨j,e,hf,hj,he⟩
 .rw[hf]
  refine⟨.map (es.push {key:=jX a s,val:=jV (rest T a s),born:=clock}) (clock+1),?_,?_⟩
  .simp only[Result.andThen_ok,hset]
  .refine⟨_,_,World.putObj_heap_same hlt,λe he=>?_⟩
   rw[Array.toList_push,List.mem_append,List.mem_singleton] at he
   rcases he with he|rfl
   .exact h1 e he
   .exact⟨a,s,ha,hs,rfl,rfl⟩
 .rw[hf]
  have hj':es[j]?=some e:=by rw[<- Array.getElem?_toList];exact hj
  refine⟨.map (es.modify j λe=>{e with key:=jX a s,val:=jV (rest T a s)}) clock,?_,?_⟩
  .simp only[Result.andThen_ok,Sem.run_bind,hj',Option.map_some,Option.getD_some,he,vX.stays w hl,hset]
  .refine⟨_,_,World.putObj_heap_same hlt,λe' he'=>?_⟩
   obtain⟨i,hi⟩:=List.getElem?_of_mem he'
   rw[Array.getElem?_toList,Array.getElem?_modify] at hi
   by_cases e:j=i
   .subst e
    rw[if_pos rfl,hj'] at hi
    obtain rfl:=Option.some.inj hi
    exact⟨a,s,ha,hs,rfl,rfl⟩
   .rw[if_neg e] at hi
    exact h1 e' (by rw[<- Array.getElem?_toList] at hi;exact List.mem_of_getElem? hi)
theorem aR.set2{w:World}{g:Nat}{a b:Value}{t:TypeId}(h:aR w g [a,b] t)(u v:Value):aR ((w.setCell ⟨g,0,none⟩ u).setCell ⟨g,1,none⟩ v) g [u,v] t:=by
 have:=df (df h 0 u) 1 v
 exact this
structure pM(w:World)(ga:Nat)(vW vR:Value)(T F:Nat->Nat->Int)(mb:Nat):Prop where
 eZ:CU w ga vW vR T F mb
 memo:yt w mb T
 ne:ga≠mb
theorem pM.keep{w w':World}{ga:Nat}{vW vR:Value}{T F:Nat->Nat->Int}{mb:Nat}(h:pM w ga vW vR T F mb)(k:Below w.heap.size w w'):pM w' ga vW vR T F mb:=
 ⟨h.eZ.move (k.block ga h.eZ.lt),h.memo.move (k.block mb h.memo.lt),h.ne⟩
theorem pM.alloc{w:World}{ga:Nat}{vW vR:Value}{T F:Nat->Nat->Int}{mb:Nat}(h:pM w ga vW vR T F mb)(o:Obj):pM (w.alloc o) ga vW vR T F mb:=h.keep (ae (Below.refl _ _) o)
theorem pM.drew{w:World}{ga:Nat}{vW vR:Value}{T F:Nat->Nat->Int}{mb:Nat}(h:pM w ga vW vR T F mb):pM w.drew ga vW vR T F mb:=⟨h.eZ.move rfl,h.memo.move rfl,h.ne⟩
theorem pM.drewN{w:World}{ga:Nat}{vW vR:Value}{T F:Nat->Nat->Int}{mb:Nat}(h:pM w ga vW vR T F mb)(n:Nat):pM (w.drewN n) ga vW vR T F mb:=⟨h.eZ.move rfl,h.memo.move rfl,h.ne⟩
theorem pM.other{w:World}{ga:Nat}{vW vR:Value}{T F:Nat->Nat->Int}{mb:Nat}(h:pM w ga vW vR T F mb){p:Addr}(h1:p.block≠ga)(h2:p.block≠mb)(u:Value):pM (w.setCell p u) ga vW vR T F mb:=
 ⟨h.eZ.move (Below.heap_setCell _ _ _ _ h1.symm),h.memo.move (Below.heap_setCell _ _ _ _ h2.symm),h.ne⟩
open Go.RowKit au YtkjoilgpmngndaaGreatW.aj YtkjoilgpmngndaaGreatW.aj.Kd
def mH(w:World)(lo:Nat)(A:Option Addr)(xs:List Int):Prop:=∀i,i<xs.length->∃g,A=some ⟨g,0,none⟩/\lo<=g/\g<w.heap.size/\w.cell? ⟨g,i,none⟩=some (.int .i64 (xs.getD i 0))
theorem yR{w:World}{base:Nat}{ok:Nat->Prop}{v:Value}{xs:List Int}(h:(Kd.int .i64).R 3 w base ok v xs):∃A c,v= .slice A xs.length c/\xs.length<=c/\mH w base A xs:=by
 obtain⟨A,c,rfl,hl,hC⟩:=cB h
 refine⟨A,c,rfl,hl,λi hi=>?_⟩
 obtain⟨ad,c',e⟩:=Kd.mG h (by omega)
 simp only[Value.slice.injEq] at e
 obtain⟨rfl,_,rfl⟩:=e
 obtain⟨g,rfl⟩:=FV h
 have hb:=(bE h).1 g (by simp[Value.ownBlock])
 obtain⟨cs,h1,h2,h3⟩:=ZC h 0 (i:Int) (by omega) (by omega)
 simp only[Int.toNat_natCast] at h2 h3
 refine⟨g,rfl,hb.2.1,hb.2.2.1,?_⟩
 have h4:cs=[.int .i64 (xs.getD i 0)]:=h2
 subst h4
 have:=h3 0 _ rfl
 rw[FT,show(Kd.int IntKind.i64).sz=1 from rfl] at this
 simpa using this
theorem mH.keep{w w':World}{lo:Nat}{A:Option Addr}{xs:List Int}{n:Nat}{S:Nat->Prop}(h:mH w lo A xs)(k:bq n S w w')(hn:w.heap.size<=n)(hS:∀g,S g->g<lo):mH w' lo A xs:=λi hi=>by
 obtain⟨g,h1,h2,h3,h4⟩:=h i hi
 exact⟨g,h1,h2,Nat.lt_of_lt_of_le h3 k.size,(k.cell (p:=⟨g,i,none⟩) (by simp only;omega) (λhs=>by have:=hS g hs;omega)).trans h4⟩
theorem mH.setCell{w:World}{lo:Nat}{A:Option Addr}{xs:List Int}(h:mH w lo A xs){p:Addr}(hp:p.block<lo)(u:Value):mH (w.setCell p u) lo A xs:=λi hi=>by
 obtain⟨g,h1,h2,h3,h4⟩:=h i hi
 refine⟨g,h1,h2,by simpa[World.setCell] using h3,?_⟩
 rw[<- h4]
 exact World.cell?_of_block (w:=w) (Below.heap_setCell _ _ _ _ (by simp only;omega))
theorem mH.drew{w:World}{lo:Nat}{A:Option Addr}{xs:List Int}(h:mH w lo A xs):mH w.drew lo A xs:=h
theorem mH.drewN{w:World}{lo:Nat}{A:Option Addr}{xs:List Int}(h:mH w lo A xs)(n:Nat):mH (w.drewN n) lo A xs:=h
end Go.Proofs.YtkjoilgpmngndaaGreat.Wk
namespace Go.Proofs.YtkjoilgpmngndaaGreat.Wk
open Go.RowKit Go.Shelf au YtkjoilgpmngndaaGreatW.aj YtkjoilgpmngndaaGreatW.aJ
def rest.T3:Bool×List (List Nat×List Nat):=(true,[([],[]),([0],[0]),([1],[1]),([2],[2]),([],[]),([3,4],[3,4]),([5],[5]),([6],[6]),([6],[6]),([],[]),([9,7,0,1,2,3,4,5,6,7,9],[7,9]),([8,10,0,1,2,3,4,5,6,7,8,9,10],[8])])
def rest.B3:List Nat:=[0,1,3,7,0,31,63,127,127,0,767,2047]
theorem rest.agx:dW .any (opsOf Tryz.f105 3)=rest.T3:=by kernel_rfl
theorem rest.ada:bJ rest.T3.2 rest.B3=true:=by kernel_rfl
def rest.W9:Bool×List (List Nat×List Nat):=(true,[([],[]),([],[]),([1],[1]),([],[]),([0],[0]),([4],[4]),([5,2],[2,5]),([6,3],[3,6]),([7],[7]),([],[]),([],[]),([],[]),([11],[11]),([],[]),([13],[13]),([12,14],[12,14]),([10,15],[10,15]),([9,16],[9,16]),([17],[17]),([8,18],[8,18]),([19,17,0,1,2,3,4,5,6,7,8,9,10,11,12,13,14,15,16,17,18,19],[19])])
def rest.B10:List Nat:=[0,0,2,0,1,17,55,127,255,0,0,0,2048,0,8192,30720,64512,130560,261632,524287,1048575]
theorem rest.D9:dW .any (opsOf Tryz.f105 10)=rest.W9:=by kernel_rfl
theorem rest.zf:bJ rest.W9.2 rest.B10=true:=by kernel_rfl
def rest.T14:Bool×List (List Nat×List Nat):=(true,[([],[]),([0],[0]),([1],[1]),([2],[2]),([],[]),([],[]),([3,4,5,0,1,2,3,4,5],[3,4,5])])
def rest.LW:List Nat:=[0,1,3,7,0,0,63]
theorem rest.V5:dW .any (opsOf Tryz.f105 14)=rest.T14:=by kernel_rfl
theorem rest.RQ:bJ rest.T14.2 rest.LW=true:=by kernel_rfl
def rest.T2:Bool×List (List Nat×List Nat):=(true,[([],[]),([],[]),([1],[1]),([0],[0]),([3],[3]),([4,2],[2,4]),([5],[5]),([6],[6]),([7],[7]),([8,0,1,2,3,4,5,6,7,8],[8])])
def rest.B2:List Nat:=[0,0,2,1,9,31,63,127,255,511]
theorem rest.NQ:dW .any (opsOf Tryz.f105 2)=rest.T2:=by kernel_rfl
theorem rest.Ep:bJ rest.T2.2 rest.B2=true:=by kernel_rfl
theorem agG:Tryz.prog.underlying 202=some (.struct (Tryz.prog.fieldsOf 202)):=by kernel_rfl
theorem yP(a b:Value)(w:World):(Instr.field 202 (Value.agg #[a,b]) 0).run Tryz.prog w= .ok a w:=by
 unfold Instr.field
 simp only[Sem.run_bind,run_underlying Tryz.underlying202,Result.andThen_ok]
 simp[asAgg,part,isAgg,run_underlying Tryz.underlying3]
theorem yO(a b:Value)(w:World):(Instr.field 202 (Value.agg #[a,b]) 1).run Tryz.prog w= .ok b w:=by
 unfold Instr.field
 simp only[Sem.run_bind,run_underlying Tryz.underlying202,Result.andThen_ok]
 simp[asAgg,part,isAgg,run_underlying Tryz.underlying3]
attribute [local go_sem] yP yO
theorem A8{R:Ending->World->Prop}{a:Act}{w:World}{g:Nat}{x:Int×Int}(hp:a.tmps.getD 4 undef= .pointer (some ⟨g,0,none⟩))(hd:a.defers=[])(hB:aR w g [.int .i64 x.1,.int .i64 x.2] 202)(hR:R (.returned (jV x)) w):bodyPost Tryz.prog Tryz.f105 R .ret a w:=
 bodyPost_ret (results_cell_row rfl _ _ g 202 #[.int .i64 x.1,.int .i64 x.2] (0,0) _ hp hB agG rfl (by kernel_rfl)) hd hR
set_option maxRecDepth 100000 in
set_option maxHeartbeats 40000000 in
theorem oV{ga mb:Nat}{vW vR:Value}{T F:Nat->Nat->Int}(hT:kL T):∀(left:Nat),left<256->∀(at_:Nat),at_<8->∀(w:World),pM w ga vW vR T F mb ->
  Calls Tryz.prog 105 #[.pointer (some ⟨ga,0,none⟩),.agg #[.int .i64 at_,.int .i64 left]] w λe w'=>e= .returned (jV (rest T at_ left))/\pM w' ga vW vR T F mb/\bq w.heap.size (λb=>b=mb) w w':=by
 intro left
 induction left using Nat.strongRecOn with
 |ind left ih=>
 intro hl at_ ha w hA
 have IH:=aa.mk ih
 have HT:=aa.mk hT
 have HA:=aa.mk hA
 have hga:=hA.eZ.lt
 have hmb:=hA.memo.lt
 have hT0:=hA.eZ.time (i:=at_) (j:=0) ha (by omega)
 simp only[Nat.add_zero] at hT0
 have hM:=hA.eZ.map.2.2
 clear ih hT hA
 by_cases h0:left=0
 .subst h0
  go_enter Tryz.func105,Tryz.ntmps105
  have ha8:(at_:Int)<8:=by omega
  go_wp2_with fail
  go_region
  have HA2:=aa.mk (((HA.out.alloc (.cells #[.int .i64 at_,.int .i64 0] 205)).alloc (.cells #[.int .i64 (T at_ 0),.int .i64 0] 202)).drew)
  go_wp2_with fail
  refine A8 (x:=rest T at_ 0) (g:=w.heap.size+1) rfl rfl ?_ ⟨rfl,HA2.out,(((bq.refl w.heap.size (λb=>b=mb) w).alloc (Nat.le_refl _) _).alloc (by simp) _).drew⟩
  have:=aR.new (w.alloc (.cells #[.int .i64 at_,.int .i64 0] 205)) [.int .i64 (T at_ 0),.int .i64 0] 202
  simp only[World.size_alloc] at this
  exact this
 .have h0b:((left:Int)==0)=false:=by simpa using h0
  go_enter Tryz.func105,Tryz.ntmps105
  go_wp2_with fail
  have HA1:=aa.mk ((HA.out.alloc (.cells #[.int .i64 at_,.int .i64 left] 205)).alloc (.cells #[.int .i64 0,.int .i64 0] 202))
  have B3:=aa.mk ((aR.new w [.int .i64 at_,.int .i64 left] 205).alloc (.cells #[.int .i64 0,.int .i64 0] 202))
  have B4:=aa.mk (aR.new (w.alloc (.cells #[.int .i64 at_,.int .i64 left] 205)) [.int .i64 0,.int .i64 0] 202)
  have KW:=aa.mk (((bq.refl w.heap.size (λb=>b=mb) w).alloc (Nat.le_refl _) (.cells #[.int .i64 at_,.int .i64 left] 205)).alloc (by simp) (.cells #[.int .i64 0,.int .i64 0] 202))
  have hsz:((w.alloc (.cells #[.int .i64 at_,.int .i64 left] 205)).alloc (.cells #[.int .i64 0,.int .i64 0] 202)).heap.size=w.heap.size+1+1:=by simp
  simp only[World.size_alloc] at B4
  generalize(w.alloc (.cells #[.int .i64 at_,.int .i64 left] 205)).alloc (.cells #[.int .i64 0,.int .i64 0] 202)=w1 at HA1 B3 B4 KW hsz ⊢
  have Ux:ga<w1.heap.size:=by omega
  have OS:mb<w1.heap.size:=by omega
  have hb3:w.heap.size<w1.heap.size:=by omega
  have hb4:w.heap.size+1<w1.heap.size:=by omega
  have hM1:=HA1.out.eZ.map.2.2
  have jB:=B3.out.cell 0
  have h31:=B3.out.cell 1
  simp only[eP,eO] at jB h31
  clear HA hT0 hM
  obtain⟨v,b,hb1,hb0,hlk⟩:=HA1.out.memo.lookup ha hl
  unfold jX at hlk
  obtain⟨⟨v0,v1⟩,rfl⟩:∃x,v=jV x:=by
   cases b
   .exact⟨_,hb0 rfl⟩
   .exact⟨_,hb1 rfl⟩
  unfold jV at hlk
  simp only at hlk
  refine dB (n:=12) (S:=λw'=>w'.cell? ⟨ga,130,none⟩=some (.map (some mb))/\w'.cell? ⟨w.heap.size,0,none⟩=some (.int .i64 (at_:Int))/\w'.cell? ⟨w.heap.size,1,none⟩=some (.int .i64 (left:Int))/\(Instr.lookup 154 (.map (some mb)) (.agg #[.int .i64 at_,.int .i64 left]) true).run Tryz.prog w'= .ok (.tuple #[.agg #[.int .i64 v0,.int .i64 v1],.bool b]) w') (ds:=[10]) #[O,O,O,O,O,O,O,O,O,O,O,O] (by kernel_rfl) rfl rfl ⟨hM1,jB,h31,(hlk _ rfl)⟩ (λhHeld=>?_);refine bu rest.agx rest.ada (λak bN=>?_)
  have PM:=aa.mk HA1.out.drew
  have Ja:=aa.mk (show aR w1.drew w.heap.size [.int .i64 at_,.int .i64 left] 205 from B3.out)
  have B4d:=aa.mk (show aR w1.drew (w.heap.size+1) [.int .i64 0,.int .i64 0] 202 from B4.out)
  have CZ:=aa.mk KW.out.drew
  have Vs:=aa.mk (show w1.drew.heap.size=w.heap.size+1+1 from hsz)
  replace hlk:∀w':World,w'.heap[mb]?=w1.drew.heap[mb]?->(Instr.lookup 154 (.map (some mb)) (.agg #[.int .i64 at_,.int .i64 left]) true).run Tryz.prog w'= .ok (.tuple #[.agg #[.int .i64 v0,.int .i64 v1],.bool b]) w':=hlk
  replace Ux:ga<w1.drew.heap.size:=Ux
  replace OS:mb<w1.drew.heap.size:=OS
  replace hb3:w.heap.size<w1.drew.heap.size:=hb3
  replace hb4:w.heap.size+1<w1.drew.heap.size:=hb4
  have hlw:w.heap.size<=w1.drew.heap.size:=by omega
  clear HA1 B3 B4 KW hM1 jB h31 hsz
  generalize w1.drew=wd at PM Ja B4d CZ Vs hlk Ux OS hb3 hb4 hlw hHeld ⊢
  refine aZ 0 24 #[I,O,O,O,O,O,O,O,O,O,O,O] ak (h:=?_)
  refine aZ 1 25 #[I,I,O,O,O,O,O,O,O,O,O,O] ak (h:=?_)
  refine aZ 2 26 #[I,I,I,O,O,O,O,O,O,O,O,O] ak (h:=?_)
  refine dG 3 27 #[I,I,I,I,O,O,O,O,O,O,O,O] ak bN hHeld (hy:=by(rintro w' ⟨s0,s1,s2,s3⟩;go_simp;with_reducible rfl)) (h:=?_)
  refine dG 4 28 #[I,I,I,I,I,O,O,O,O,O,O,O] ak bN hHeld (hy:=by(rintro w' ⟨s0,s1,s2,s3⟩;go_simp;with_reducible rfl)) (h:=?_)
  refine dG 5 29 #[I,I,I,I,I,I,O,O,O,O,O,O] ak bN hHeld (hy:=by(rintro w' ⟨s0,s1,s2,s3⟩;go_simp;with_reducible rfl)) (h:=?_)
  refine aZ 6 23 #[I,I,I,I,I,I,I,O,O,O,O,O] ak (h:=?_)
  refine aZ 7 30 #[I,I,I,I,I,I,I,I,O,O,O,O] ak (h:=?_)
  refine aZ 8 31 #[I,I,I,I,I,I,I,I,I,O,O,O] ak (h:=?_)
  refine dO (i:=9) (N:=some 5) #[I,I,I,I,I,I,I,I,I,I,O,O] rfl rfl (aI ak.out (by kernel_rfl)) (by decide) (λK hK=>?_)
  refine bT (w1:=?_) (v:=?_) (by rfl) rfl ?_ ?_
  rotate_left 2
  .go_simp
   constructor<;>rfl
  refine hK.out _ _ ⟨(PM.out.alloc (.cells #[.int .i64 0,.int .i64 0] 202)).eZ.map.2.2,(by simpa using (Ja.out.alloc (.cells #[.int .i64 0,.int .i64 0] 202)).cell 0),(by simpa using (Ja.out.alloc (.cells #[.int .i64 0,.int .i64 0] 202)).cell 1),(hlk _ (Below.heap_alloc _ _ _ OS))⟩ (λhHeld=>?_)
  clear hK K
  have B5:=aa.mk (aR.new wd [.int .i64 0,.int .i64 0] 202)
  have Z5:=aa.mk (PM.out.alloc (.cells #[.int .i64 0,.int .i64 0] 202))
  have VQ:=aa.mk (Ja.out.alloc (.cells #[.int .i64 0,.int .i64 0] 202))
  have B4e:=aa.mk (B4d.out.alloc (.cells #[.int .i64 0,.int .i64 0] 202))
  have P5:=aa.mk (CZ.out.alloc (by omega) (.cells #[.int .i64 0,.int .i64 0] 202))
  have hsz:(wd.alloc (.cells #[.int .i64 0,.int .i64 0] 202)).heap.size=wd.heap.size+1:=by simp
  have hlk2:∀w':World,w'.heap[mb]?=(wd.alloc (.cells #[.int .i64 0,.int .i64 0] 202)).heap[mb]?->(Instr.lookup 154 (.map (some mb)) (.agg #[.int .i64 at_,.int .i64 left]) true).run Tryz.prog w'= .ok (.tuple #[.agg #[.int .i64 v0,.int .i64 v1],.bool b]) w':=λw' h=>hlk _ (h.trans (Below.heap_alloc _ _ _ OS))
  obtain⟨g5,hg5⟩:∃g,wd.heap.size=g:=⟨_,rfl⟩
  rw[hg5] at B5 hsz Ux OS hb3 hb4 ⊢
  clear PM Ja B4d CZ hlk hg5
  generalize wd.alloc (.cells #[.int .i64 0,.int .i64 0] 202)=we at B5 Z5 VQ B4e P5 hsz hlk2 hHeld ⊢
  refine iY ?_
  refine dE (i:=10) (N:=none) #[I,I,I,I,I,I,I,I,I,I,I,O] rfl rfl (aI ak.out (by kernel_rfl)) (by decide) (λK hK=>?_)
  have eY:=(show we.cell? ⟨g5,0,none⟩=some (.int .i64 0) by simpa using B5.out.cell 0)
  have ig:=B5.out.frozen 0
  have BI:we.cell? ⟨g5,1,none⟩=some (.int .i64 0):=by simpa using B5.out.cell 1
  have BP:we.frozen? ⟨g5,1,none⟩=false:=B5.out.frozen 1
  refine gW (w1:=?_) (by rfl) rfl ?_ ?_
  rotate_left
  .go_simp
   rfl
  refine hK.out _ _ ?_
  clear hK K eY ig BI BP
  have B5f:=aa.mk (B5.out.set2 (.int .i64 v0) (.int .i64 v1))
  have HAf:=aa.mk ((Z5.out.other (p:=⟨g5,0,none⟩) (by simp only;omega) (by simp only;omega) (.int .i64 v0)).other (p:=⟨g5,1,none⟩) (by simp only;omega) (by simp only;omega) (.int .i64 v1))
  have B3f:=aa.mk ((VQ.out.move (w':=we.setCell ⟨g5,0,none⟩ (.int .i64 v0)) (Below.heap_setCell _ _ _ _ (by simp only;omega))).move (w':=(we.setCell ⟨g5,0,none⟩ (.int .i64 v0)).setCell ⟨g5,1,none⟩ (.int .i64 v1)) (Below.heap_setCell _ _ _ _ (by simp only;omega)))
  have Xx:=aa.mk ((B4e.out.move (w':=we.setCell ⟨g5,0,none⟩ (.int .i64 v0)) (Below.heap_setCell _ _ _ _ (by simp only;omega))).move (w':=(we.setCell ⟨g5,0,none⟩ (.int .i64 v0)).setCell ⟨g5,1,none⟩ (.int .i64 v1)) (Below.heap_setCell _ _ _ _ (by simp only;omega)))
  have KWf:=aa.mk ((P5.out.setCell (p:=⟨g5,0,none⟩) (.inr (by simp only;omega)) (.int .i64 v0)).setCell (p:=⟨g5,1,none⟩) (.inr (by simp only;omega)) (.int .i64 v1))
  have Wm:((we.setCell ⟨g5,0,none⟩ (.int .i64 v0)).setCell ⟨g5,1,none⟩ (.int .i64 v1)).heap.size=g5+1:=by simp[World.setCell,hsz]
  clear B5 Z5 VQ B4e P5 hsz hlk2 hHeld
  generalize(we.setCell ⟨g5,0,none⟩ (.int .i64 v0)).setCell ⟨g5,1,none⟩ (.int .i64 v1)=wf at B5f HAf B3f Xx KWf Wm ⊢
  refine aZ 11 6 #[I,I,I,I,I,I,I,I,I,I,I,I] ak (h:=?_)
  refine dK (bG ak.out (by kernel_rfl)) ?_
  have h50:=B5f.out.cell 0
  have CY:=B5f.out.cell 1
  have jB:=B3f.out.cell 0
  have h31:=B3f.out.cell 1
  have lH:=Xx.out.cell 0
  have oI:=Xx.out.cell 1
  have o6:=Xx.out.frozen 0
  have tH:=Xx.out.frozen 1
  simp only[eP,eO] at h50 CY jB h31 lH oI
  cases b
  .clear hb1 hb0
   go_wp2_with fail
   clear h50 CY jB h31 lH oI o6 tH
   have HAg:=aa.mk (HAf.out.alloc (.cells #[.int .i64 1048576,.int .i64 (-1)] 202))
   have B3g:=aa.mk (B3f.out.alloc (.cells #[.int .i64 1048576,.int .i64 (-1)] 202))
   have B4g:=aa.mk (Xx.out.alloc (.cells #[.int .i64 1048576,.int .i64 (-1)] 202))
   have B7g:=aa.mk (aR.new wf [.int .i64 1048576,.int .i64 (-1)] 202)
   have KWg:=aa.mk (KWf.out.alloc (by omega) (.cells #[.int .i64 1048576,.int .i64 (-1)] 202))
   rw[Wm] at B7g
   have hsg:(wf.alloc (.cells #[.int .i64 1048576,.int .i64 (-1)] 202)).heap.size=g5+1+1:=by simp[Wm]
   clear B5f HAf B3f Xx KWf Wm
   generalize wf.alloc (.cells #[.int .i64 1048576,.int .i64 (-1)] 202)=wg at HAg B3g B4g B7g KWg hsg ⊢
   refine(bU.calls 9 left _ wg (EX hl)).mono ?_
   rintro e wl ⟨v_,rfl,hR,hbl⟩
   obtain⟨Al,cl,rfl,hcl,hil⟩:=yR hR
   rw[List.length_map] at hcl
   have HIL:=aa.mk hil
   have HAl:=aa.mk (HAg.out.keep hbl)
   have B3l:=aa.mk (B3g.out.below hbl)
   have B4l:=aa.mk (B4g.out.below hbl)
   have PR:=aa.mk (B7g.out.below hbl)
   have KWl:=aa.mk (KWg.out.trans (bq.of_below (S:=λb=>b=mb) hbl (by omega)))
   clear hR hil hbl HAg B3g B4g B7g KWg
   rw[hsg] at HIL
   rw[List.length_map]
   have hpl:=Bj left
   go_wp2_with fail
   go_loopw [39] (λv wr=>∃k:Nat,k<=(places left).length/\v= .int .i64 k/\aa (pM wr ga vW vR T F mb)/\aa (aR wr w.heap.size [.int .i64 at_,.int .i64 left] 205)/\aa (aR wr (w.heap.size+1) [.int .i64 0,.int .i64 0] 202)/\aa (aR wr (g5+1) [.int .i64 (tZ T at_ left k).1,.int .i64 (tZ T at_ left k).2] 202)/\aa (mH wr (g5+1+1) Al ((places left).map (λn:Nat=>(n:Int))))/\aa (bq w.heap.size (λb=>b=mb) w wr)) (λv _=>(places left).length-(intOf v).toNat)
   case atStart=>exact⟨0,Nat.zero_le _,rfl,HAl,B3l,B4l,PR,HIL,KWl⟩
   case round=>
    clear HIL HAl B3l B4l PR KWl
    obtain⟨k,hk,rfl,HA,B3,B4,B7,HI,KW⟩:=hrel
    by_cases hkl:k<(places left).length
    .obtain⟨n,hn⟩:∃n,(places left)[k]=n:=⟨_,rfl⟩
     have hnm:n ∈ places left:=by rw[<- hn];exact List.getElem_mem hkl
     have PX:=(kC.1 hnm).1
     have aol:(n:Int)<8:=by omega
     have aoA:(at_:Int)<8:=by omega
     have hdl:=xV hnm
     have hdrop:=M3 hl PX
     have hls:tZ T at_ left (k+1)=_:=J8 T at_ left k hkl
     rw[hn] at hls
     unfold oz at hls
     have SG:=aa.mk hls
     clear hls
     obtain⟨gl,hgl,yX,uh,ry⟩:=HI.out k (by rw[List.length_map];exact hkl)
     subst hgl
     have hgd:((places left).map (λn:Nat=>(n:Int))).getD k 0=(n:Int):=by
      simp[List.getD,hkl,hn]
     rw[hgd] at ry
     clear hgd
     go_wp2_with fail
     have jB:=B3.out.cell 0
     have h31:=B3.out.cell 1
     simp only[eP,eO] at jB h31
     have hTc:=HA.out.eZ.time (i:=at_) (j:=n) ha PX
     have hcall:=IH.out (fM left n) hdl (by omega) n PX wr.drew HA.out.drew
     obtain⟨⟨r0,r1⟩,hr⟩:∃x,rest T n (fM left n)=x:=⟨_,rfl⟩
     have hrb:=jT HT.out n (fM left n)
     have YW:=HT.out at_ n
     obtain⟨tn,htn⟩:∃x,T at_ n=x:=⟨_,rfl⟩
     rw[hr] at hcall hrb
     rw[htn] at hTc YW
     have HR:=aa.mk hr
     have HTN:=aa.mk htn
     clear hr htn
     unfold jV at hcall
     simp only at hcall hrb
     have hsum:wrap64 (tn+r0)=tn+r0:=IntWalk.wrap64_in _ (by omega)
     have C9:=aa.mk hcall
     clear hcall
     refine dB (n:=21) (S:=λw'=>w'.cell? ⟨w.heap.size,0,none⟩=some (.int .i64 (at_:Int))/\w'.cell? ⟨w.heap.size,1,none⟩=some (.int .i64 (left:Int))/\w'.cell? ⟨ga,2+at_*8+n,none⟩=some (.int .i64 tn)) (ds:=[]) #[O,O,O,O,O,O,O,O,O,O,O,O,O,O,O,O,O,O,O,O,O] (by kernel_rfl) rfl rfl ⟨jB,h31,hTc⟩ (λhHeld=>?_);refine bu rest.D9 rest.zf (λak bN=>?_)
     have PM:=aa.mk HA.out.drew
     have Ja:=aa.mk (show aR wr.drew w.heap.size [.int .i64 at_,.int .i64 left] 205 from B3.out)
     have B4d:=aa.mk (show aR wr.drew (w.heap.size+1) [.int .i64 0,.int .i64 0] 202 from B4.out)
     have B7d:=aa.mk (show aR wr.drew (g5+1) [.int .i64 (tZ T at_ left k).1,.int .i64 (tZ T at_ left k).2] 202 from B7.out)
     have HId:=aa.mk HI.out.drew
     have CZ:=aa.mk KW.out.drew
     have ahZ:=B7d.out.lt
     have ahr:=PM.out.memo.lt
     clear HA B3 B4 B7 HI KW jB h31 hTc ry
     replace uh:gl<wr.drew.heap.size:=uh
     generalize wr.drew=wd at PM Ja B4d B7d HId CZ C9 ahZ ahr uh hHeld ⊢
     refine aZ 0 43 #[I,O,O,O,O,O,O,O,O,O,O,O,O,O,O,O,O,O,O,O,O] ak (h:=?_)
     refine aZ 1 44 #[I,I,O,O,O,O,O,O,O,O,O,O,O,O,O,O,O,O,O,O,O] ak (h:=?_)
     refine dG 2 45 #[I,I,I,O,O,O,O,O,O,O,O,O,O,O,O,O,O,O,O,O,O] ak bN hHeld (hy:=by(rintro w' ⟨s0,s1,s2⟩;go_simp;with_reducible rfl)) (h:=?_)
     refine aZ 3 46 #[I,I,I,I,O,O,O,O,O,O,O,O,O,O,O,O,O,O,O,O,O] ak (h:=?_)
     refine aZ 4 47 #[I,I,I,I,I,O,O,O,O,O,O,O,O,O,O,O,O,O,O,O,O] ak (h:=?_)
     refine aZ 5 48 #[I,I,I,I,I,I,O,O,O,O,O,O,O,O,O,O,O,O,O,O,O] ak (h:=?_)
     refine aZ 6 49 #[I,I,I,I,I,I,I,O,O,O,O,O,O,O,O,O,O,O,O,O,O] ak (h:=?_)
     refine aZ 7 50 #[I,I,I,I,I,I,I,I,O,O,O,O,O,O,O,O,O,O,O,O,O] ak (h:=?_)
     refine dG 8 51 #[I,I,I,I,I,I,I,I,I,O,O,O,O,O,O,O,O,O,O,O,O] ak bN hHeld (hy:=by(rintro w' ⟨s0,s1,s2⟩;go_simp;with_reducible rfl)) (h:=?_)
     refine aZ 9 52 #[I,I,I,I,I,I,I,I,I,I,O,O,O,O,O,O,O,O,O,O,O] ak (h:=?_)
     refine aZ 10 53 #[I,I,I,I,I,I,I,I,I,I,I,O,O,O,O,O,O,O,O,O,O] ak (h:=?_)
     refine aZ 11 54 #[I,I,I,I,I,I,I,I,I,I,I,I,O,O,O,O,O,O,O,O,O] ak (h:=?_)
     refine dG 12 55 #[I,I,I,I,I,I,I,I,I,I,I,I,I,O,O,O,O,O,O,O,O] ak bN hHeld (hy:=by(rintro w' ⟨s0,s1,s2⟩;go_simp;with_reducible rfl)) (h:=?_)
     refine aZ 13 56 #[I,I,I,I,I,I,I,I,I,I,I,I,I,I,O,O,O,O,O,O,O] ak (h:=?_)
     refine aZ 14 57 #[I,I,I,I,I,I,I,I,I,I,I,I,I,I,I,O,O,O,O,O,O] ak (h:=?_)
     refine aZ 15 58 #[I,I,I,I,I,I,I,I,I,I,I,I,I,I,I,I,O,O,O,O,O] ak (h:=?_)
     refine aZ 16 59 #[I,I,I,I,I,I,I,I,I,I,I,I,I,I,I,I,I,O,O,O,O] ak (h:=?_)
     refine dO (i:=17) (N:=some 60) #[I,I,I,I,I,I,I,I,I,I,I,I,I,I,I,I,I,I,O,O,O] rfl rfl (aI ak.out (by kernel_rfl)) (by decide) (λK hK=>?_)
     refine bW Tryz.func105 (by kernel_rfl) rfl #[.pointer (some ⟨ga,0,none⟩),.agg #[.int .i64 (n:Int),.int .i64 (fM left n:Int)]] (by rfl) rfl rfl (by(try simp only[List.map_toArray,List.map_cons,List.map_nil]);rfl) ?_
     refine(C9.out).mono ?_
     rintro e_ w_ ⟨rfl,OY,CW⟩
     refine⟨_,rfl,hK.out _ _ ⟨by simpa using (Ja.out.move (CW.block _ (by omega) (by omega))).cell 0,by simpa using (Ja.out.move (CW.block _ (by omega) (by omega))).cell 1,by rw[OY.eZ.time (i:=at_) (j:=n) ha PX,HTN.out]⟩ (λhHeld=>?_)⟩
     clear hK K
     have Z5:=aa.mk OY
     have VQ:=aa.mk (Ja.out.move (CW.block _ (by omega) (by omega)))
     have B4e:=aa.mk (B4d.out.move (CW.block _ (by omega) (by omega)))
     have Gf:=aa.mk (B7d.out.move (CW.block _ (by omega) (by omega)))
     have HIe:=aa.mk (HId.out.keep CW (Nat.le_refl _) (by rintro g rfl;omega))
     have P5:=aa.mk (CZ.out.trans (CW.mono (by omega) (λ_ _ h=>h)))
     clear OY CW PM Ja B4d B7d HId CZ C9
     refine iY ?_
     refine aZ 18 61 #[I,I,I,I,I,I,I,I,I,I,I,I,I,I,I,I,I,I,I,O,O] ak (h:=?_)
     refine aZ 19 62 #[I,I,I,I,I,I,I,I,I,I,I,I,I,I,I,I,I,I,I,I,O] ak (h:=?_)
     refine aZ 20 10 #[I,I,I,I,I,I,I,I,I,I,I,I,I,I,I,I,I,I,I,I,I] ak (h:=?_)
     refine dK (bG ak.out (by kernel_rfl)) ?_
     obtain⟨⟨b0,b1⟩,Rf⟩:∃x,tZ T at_ left k=x:=⟨_,rfl⟩
     rw[Rf] at Gf SG
     rw[HR.out,HTN.out] at SG
     clear Rf
     have Kz:=Gf.out.cell 0
     have Ky:=Gf.out.cell 1
     have ao4:=Gf.out.frozen 0
     have aie:=Gf.out.frozen 1
     simp only[eP,eO] at Kz Ky
     have hgm:=Z5.out.ne
     by_cases hb:tn+r0<b0
     .have hbd:decide (tn+r0<b0)=true:=by simpa using hb
      have hls:=SG.out
      rw[if_pos hb] at hls
      have HLT:=aa.mk hls
      clear SG hls
      go_wp2_with fail
      go_roundw
      case rel=>
       refine⟨k+1,by omega,by go_num,⟨(Z5.out.other (p:=⟨g5+1,0,none⟩) (by simp only;omega) (by simp only;omega) _).other (p:=⟨g5+1,1,none⟩) (by simp only;omega) (by simp only;omega) _⟩,⟨?_⟩,⟨?_⟩,⟨?_⟩,⟨(HIe.out.setCell (p:=⟨g5+1,0,none⟩) (by simp only;omega) _).setCell (p:=⟨g5+1,1,none⟩) (by simp only;omega) _⟩,⟨(P5.out.setCell (p:=⟨g5+1,0,none⟩) (.inr (by simp only;omega)) _).setCell (p:=⟨g5+1,1,none⟩) (.inr (by simp only;omega)) _⟩⟩
       .exact(VQ.out.move (Below.heap_setCell _ _ _ _ (by simp only;omega))).move (Below.heap_setCell _ _ _ _ (by simp only;omega))
       .exact(B4e.out.move (Below.heap_setCell _ _ _ _ (by simp only;omega))).move (Below.heap_setCell _ _ _ _ (by simp only;omega))
       .rw[HLT.out]
        exact Gf.out.set2 _ _
      case measure=>simp[intOf];omega
     .have hbd:decide (tn+r0<b0)=false:=by simpa using hb
      have hls:=SG.out
      rw[if_neg hb] at hls
      have HLT:=aa.mk hls
      clear SG hls
      go_wp2_with fail
      go_roundw
      case rel=>exact⟨k+1,by omega,by go_num,Z5,VQ,B4e,⟨by rw[HLT.out];exact Gf.out⟩,HIe,P5⟩
      case measure=>simp[intOf];omega
    .obtain rfl:k=(places left).length:=by omega
     rw[Ox T at_ left h0] at B7
     obtain⟨o,ho,hMo⟩:=HA.out.drew.memo.update ha hl
     unfold jX jV at ho
     have HMO:=aa.mk hMo
     clear hMo
     have hM:=HA.out.eZ.map.2.2
     have jB:=B3.out.cell 0
     have h31:=B3.out.cell 1
     have Kz:=B7.out.cell 0
     have Ky:=B7.out.cell 1
     simp only[eP,eO] at jB h31 Kz Ky
     have hmw:=HA.out.memo.lt
     have h4w:=B4.out.lt
     have h7w:=B7.out.lt
     have hgm:=HA.out.ne
     go_wp2_with fail
     go_region
     have HAu:=aa.mk (show pM (wr.drew.putObj mb o) ga vW vR T F mb from⟨HA.out.drew.eZ.move (fK _ _ hgm),HMO.out,hgm⟩)
     have B4u:=aa.mk (B4.out.move (w':=wr.drew.putObj mb o) (fK _ _ (by omega)))
     have B7u:=aa.mk (B7.out.move (w':=wr.drew.putObj mb o) (fK _ _ (by omega)))
     have KWu:=aa.mk (KW.out.drew.put (.inl rfl) o)
     clear HA B3 B4 B7 HI KW hM jB h31 Kz Ky ho HMO
     generalize wr.drew.putObj mb o=wu at HAu B4u B7u KWu ⊢
     have Kz:=B7u.out.cell 0
     have Ky:=B7u.out.cell 1
     have lH:=B4u.out.cell 0
     have oI:=B4u.out.cell 1
     have o6:=B4u.out.frozen 0
     have tH:=B4u.out.frozen 1
     simp only[eP,eO] at Kz Ky lH oI
     go_wp2_with fail
     refine A8 (g:=w.heap.size+1) rfl rfl (B4u.out.set2 _ _) ⟨rfl,?_,?_⟩
     .exact(HAu.out.other (p:=⟨w.heap.size+1,0,none⟩) (by simp only;omega) (by simp only;omega) _).other (p:=⟨w.heap.size+1,1,none⟩) (by simp only;omega) (by simp only;omega) _
     .exact(KWu.out.setCell (p:=⟨w.heap.size+1,0,none⟩) (.inr (by simp only;omega)) _).setCell (p:=⟨w.heap.size+1,1,none⟩) (.inr (by simp only;omega)) _
  .have hb:=hb1 rfl
   clear hb1 hb0
   unfold jV at hb
   simp only[Value.agg.injEq,Array.mk.injEq,List.cons.injEq,Value.int.injEq,true_and,and_true] at hb
   obtain⟨rfl,rfl⟩:=hb
   go_wp2_with fail
   refine A8 (g:=w.heap.size+1) rfl rfl (Xx.out.set2 _ _) ⟨rfl,?_,?_⟩
   .exact(HAf.out.other (p:=⟨w.heap.size+1,0,none⟩) (by simp only;omega) (by simp only;omega) _).other (p:=⟨w.heap.size+1,1,none⟩) (by simp only;omega) (by simp only;omega) _
   .exact(KWf.out.setCell (p:=⟨w.heap.size+1,0,none⟩) (.inr (by simp only;omega)) _).setCell (p:=⟨w.heap.size+1,1,none⟩) (.inr (by simp only;omega)) _
end Go.Proofs.YtkjoilgpmngndaaGreat.Wk
