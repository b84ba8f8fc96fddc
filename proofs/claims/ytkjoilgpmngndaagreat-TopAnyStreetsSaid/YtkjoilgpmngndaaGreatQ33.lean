import Derived.BigQuiet
import Derived.BigRegion
import Derived.BigRegionIn
import Derived.Deep.DeepCutAuto
import Derived.Deep.QuietTactic
import Derived.DeepKeys3
import Derived.Maps.Keyed
import Derived.Test.YtkjoilgpmngndaaGreatQ32
set_option linter.all false
namespace Go.Proofs.YtkjoilgpmngndaaGreat.Wk
open Go.RowKit Go.Proofs.YtkjoilgpmngndaaGreat.av Go.Proofs.YtkjoilgpmngndaaGreatW.aA Go.Instr
def jJ(a s:Int):Value:= .agg #[.int .i64 a,.int .i64 s]
def jA(x:Int×Int):Value:= .agg #[.int .i64 x.1,.int .i64 x.2]
theorem ui:Maps.Keyed Tryz.prog 205:= .of_law (deep_law (m:=2) (by decide) (by kernel_rfl) (by kernel_rfl) (by kernel_rfl))
theorem Pp:∀a:Fin 8,∀s:Fin 256,(keyOf Tryz.prog 205 (.agg #[.int .i64 (a.1:Int),.int .i64 (s.1:Int)])).isSome=true:=by decide +kernel
theorem sF{a s:Nat}(ha:a<8)(hs:s<256):∃l,keyOf Tryz.prog 205 (jJ a s)=some l:=Option.isSome_iff_exists.1 (Pp ⟨a,ha⟩ ⟨s,hs⟩)
def xz(w:World)(mb:Nat)(T:Nat->Nat->Int):Prop:=∃es clock,w.heap[mb]?=some (.map es clock)/\∀e ∈ es.toList,∃a s:Nat,a<8/\s<256/\e.key=jJ a s/\e.val=jA (rest T a s)
theorem xz.move{w w':World}{mb:Nat}{T:Nat->Nat->Int}(h:xz w mb T)(e:w'.heap[mb]?=w.heap[mb]?):xz w' mb T:=by
 obtain⟨es,clock,h0,h1⟩:=h
 exact⟨es,clock,e.trans h0,h1⟩
theorem xz.lt{w:World}{mb:Nat}{T:Nat->Nat->Int}(h:xz w mb T):mb<w.heap.size:=by
 obtain⟨es,clock,h0,h1⟩:=h
 exact(Array.getElem?_eq_some_iff.1 h0).1
theorem xz.new{w:World}{mb:Nat}{T:Nat->Nat->Int}(h:w.heap[mb]?=some (.map #[] 0)):xz w mb T:=⟨_,_,h,fun e he=>by simp at he⟩
theorem Po{a s b t:Nat}(h:jJ a s=jJ b t):a=b/\s=t:=by
 unfold jJ at h
 simp only[Value.agg.injEq,Array.mk.injEq,List.cons.injEq,Value.int.injEq,true_and,and_true,Int.natCast_inj] at h
 exact h
theorem RY:Tryz.prog.underlying 154=some (.map 205 202):=by kernel_rfl
theorem aiJ(w:World):(zeroValue 202).run Tryz.prog w= .ok (jA (0,0)) w:=Tryz.zeroValue202 w
theorem xz.lookup{w:World}{mb:Nat}{T:Nat->Nat->Int}(h:xz w mb T){a s:Nat}(ha:a<8)(hs:s<256):
  ∃v b,(b=true->v=jA (rest T a s))/\(b=false->v=jA (0,0))/\∀w':World,w'.heap[mb]?=w.heap[mb]? ->
   (Instr.lookup 154 (.map (some mb)) (jJ a s) true).run Tryz.prog w'= .ok (.tuple #[v,.bool b]) w':=by
 obtain⟨es,clock,h0,h1⟩:=h
 obtain⟨l,hl⟩:=sF ha hs
 have hk:∀e ∈ es.toList,∃l,keyOf Tryz.prog 205 e.key=some l:=fun e he=>by
  obtain⟨b,t,hb,ht,h2,h3⟩:=h1 e he
  rw[h2]
  exact sF hb ht
 by_cases hex:∃e ∈ es.toList,e.key=jJ a s
 .refine⟨jA (rest T a s),true,fun _=>rfl,fun e=>by(cases e),fun w' hw'=>?_⟩
  rw[h0] at hw'
  have hg:(getObj mb).run Tryz.prog w'= .ok (.map es clock) w':=by simp[getObj,Sem.run,hw']
  unfold Instr.lookup
  simp only[Sem.run_bind,run_underlying RY,Result.andThen_ok,hg,ui.check w' es.isEmpty hl,Sem.run_pure]
  rcases ui.find w' hl es.toList hk with⟨hf,hn⟩|⟨j,e,hf,hj,he⟩
  .obtain⟨e,he,he2⟩:=hex
   exact absurd he2 (hn e he)
  .rw[hf]
   obtain⟨b,t,hb,ht,h2,h3⟩:=h1 e (List.mem_of_getElem? hj)
   rw[h2] at he
   obtain⟨rfl,rfl⟩:=Po he
   simp only[Result.andThen_ok,Sem.run_bind,Sem.run_pure,if_true,h3]
 .refine⟨jA (0,0),false,fun e=>by(cases e),fun _=>rfl,fun w' hw'=>?_⟩
  rw[h0] at hw'
  have hg:(getObj mb).run Tryz.prog w'= .ok (.map es clock) w':=by simp[getObj,Sem.run,hw']
  unfold Instr.lookup
  simp only[Sem.run_bind,run_underlying RY,Result.andThen_ok,hg,ui.check w' es.isEmpty hl,Sem.run_pure]
  rcases ui.find w' hl es.toList hk with⟨hf,hn⟩|⟨j,e,hf,hj,he⟩
  .rw[hf]
   simp only[Result.andThen_ok,Sem.run_bind,aiJ,Sem.run_pure,if_true]
  .exact absurd ⟨e,List.mem_of_getElem? hj,he⟩ hex
theorem xz.update{w:World}{mb:Nat}{T:Nat->Nat->Int}(h:xz w mb T){a s:Nat}(ha:a<8)(hs:s<256):
  ∃o,(Instr.mapUpdate 154 (.map (some mb)) (jJ a s) (jA (rest T a s))).run Tryz.prog w= .ok () (w.putObj mb o)/\xz (w.putObj mb o) mb T:=by
 have hlt:=h.lt
 obtain⟨es,clock,h0,h1⟩:=h
 obtain⟨l,hl⟩:=sF ha hs
 have hk:∀e ∈ es.toList,∃l,keyOf Tryz.prog 205 e.key=some l:=fun e he=>by
  obtain⟨b,t,hb,ht,h2,h3⟩:=h1 e he
  rw[h2]
  exact sF hb ht
 have hg:(getObj mb).run Tryz.prog w= .ok (.map es clock) w:=by simp[getObj,Sem.run,h0]
 have hset:∀o,(setObj mb o).run Tryz.prog w= .ok () (w.putObj mb o):=fun o=>by simp[setObj,Sem.run,World.putObj,h0]
 unfold Instr.mapUpdate
 simp only[Sem.run_bind,run_underlying RY,Result.andThen_ok,hg,ui.check w false hl,Sem.run_pure]
 rcases ui.find w hl es.toList hk with⟨hf,hn⟩|⟨j,e,hf,hj,he⟩
 .rw[hf]
  refine⟨.map (es.push {key:=jJ a s,val:=jA (rest T a s),born:=clock}) (clock+1),?_,?_⟩
  .simp only[Result.andThen_ok,hset]
  .refine⟨_,_,World.putObj_heap_same hlt,fun e he=>?_⟩
   rw[Array.toList_push,List.mem_append,List.mem_singleton] at he
   rcases he with he|rfl
   .exact h1 e he
   .exact⟨a,s,ha,hs,rfl,rfl⟩
 .rw[hf]
  have hj':es[j]?=some e:=by rw[<- Array.getElem?_toList];exact hj
  refine⟨.map (es.modify j fun e=>{e with key:=jJ a s,val:=jA (rest T a s)}) clock,?_,?_⟩
  .simp only[Result.andThen_ok,Sem.run_bind,hj',Option.map_some,Option.getD_some,he,ui.stays w hl,hset]
  .refine⟨_,_,World.putObj_heap_same hlt,fun e' he'=>?_⟩
   obtain⟨i,hi⟩:=List.getElem?_of_mem he'
   rw[Array.getElem?_toList,Array.getElem?_modify] at hi
   by_cases e:j=i
   .subst e
    rw[if_pos rfl,hj'] at hi
    obtain rfl:=Option.some.inj hi
    exact⟨a,s,ha,hs,rfl,rfl⟩
   .rw[if_neg e] at hi
    exact h1 e' (by rw[<- Array.getElem?_toList] at hi;exact List.mem_of_getElem? hi)
theorem aR.set2{w:World}{g:Nat}{a b:Value}{t:TypeId}(h:aR w g [a,b] t)(u v:Value):aR ((w.setCell ⟨g,0,none⟩ u).setCell ⟨g,1,none⟩ v) g [u,v] t:=by
 have:=bM (bM h 0 u) 1 v
 exact this
structure oK(w:World)(ga:Nat)(vW vR:Value)(T F:Nat->Nat->Int)(mb:Nat):Prop where
 kC:BQ w ga vW vR T F mb
 memo:xz w mb T
 ne:ga≠mb
theorem oK.keep{w w':World}{ga:Nat}{vW vR:Value}{T F:Nat->Nat->Int}{mb:Nat}(h:oK w ga vW vR T F mb)(k:Below w.heap.size w w'):oK w' ga vW vR T F mb:=
 ⟨h.kC.move (k.block ga h.kC.lt),h.memo.move (k.block mb h.memo.lt),h.ne⟩
theorem oK.alloc{w:World}{ga:Nat}{vW vR:Value}{T F:Nat->Nat->Int}{mb:Nat}(h:oK w ga vW vR T F mb)(o:Obj):oK (w.alloc o) ga vW vR T F mb:=h.keep (ae (Below.refl _ _) o)
theorem oK.drew{w:World}{ga:Nat}{vW vR:Value}{T F:Nat->Nat->Int}{mb:Nat}(h:oK w ga vW vR T F mb):oK w.drew ga vW vR T F mb:=⟨h.kC.move rfl,h.memo.move rfl,h.ne⟩
theorem oK.drewN{w:World}{ga:Nat}{vW vR:Value}{T F:Nat->Nat->Int}{mb:Nat}(h:oK w ga vW vR T F mb)(n:Nat):oK (w.drewN n) ga vW vR T F mb:=⟨h.kC.move rfl,h.memo.move rfl,h.ne⟩
theorem oK.other{w:World}{ga:Nat}{vW vR:Value}{T F:Nat->Nat->Int}{mb:Nat}(h:oK w ga vW vR T F mb){p:Addr}(h1:p.block≠ga)(h2:p.block≠mb)(u:Value):oK (w.setCell p u) ga vW vR T F mb:=
 ⟨h.kC.move (Below.heap_setCell _ _ _ _ h1.symm),h.memo.move (Below.heap_setCell _ _ _ _ h2.symm),h.ne⟩
end Go.Proofs.YtkjoilgpmngndaaGreat.Wk
namespace Go.Proofs.YtkjoilgpmngndaaGreat.Wk
open Go.RowKit Go.Proofs.YtkjoilgpmngndaaGreat.av Go.Proofs.YtkjoilgpmngndaaGreatW.aA Go.Proofs.YtkjoilgpmngndaaGreatW.aA.Kd
def lQ(w:World)(lo:Nat)(A:Option Addr)(xs:List Int):Prop:=∀i,i<xs.length->∃g,A=some ⟨g,0,none⟩/\lo<=g/\g<w.heap.size/\w.cell? ⟨g,i,none⟩=some (.int .i64 (xs.getD i 0))
theorem yf{w:World}{base:Nat}{ok:Nat->Prop}{v:Value}{xs:List Int}(h:(Kd.int .i64).R 3 w base ok v xs):∃A c,v= .slice A xs.length c/\xs.length<=c/\lQ w base A xs:=by
 obtain⟨A,c,rfl,hl,hC⟩:=dU h
 refine⟨A,c,rfl,hl,fun i hi=>?_⟩
 obtain⟨ad,c',e⟩:=Kd.KT h (by omega)
 simp only[Value.slice.injEq] at e
 obtain⟨rfl,_,rfl⟩:=e
 obtain⟨g,rfl⟩:=NF h
 have hb:=(dP h).1 g (by simp[Value.ownBlock])
 obtain⟨cs,h1,h2,h3⟩:=aa9 h 0 (i:Int) (by omega) (by omega)
 simp only[Int.toNat_natCast] at h2 h3
 refine⟨g,rfl,hb.2.1,hb.2.2.1,?_⟩
 have h4:cs=[.int .i64 (xs.getD i 0)]:=h2
 subst h4
 have:=h3 0 _ rfl
 rw[Iy,show(Kd.int IntKind.i64).sz=1 from rfl] at this
 simpa using this
theorem lQ.keep{w w':World}{lo:Nat}{A:Option Addr}{xs:List Int}{n:Nat}{S:Nat->Prop}(h:lQ w lo A xs)(k:bq n S w w')(hn:w.heap.size<=n)(hS:∀g,S g->g<lo):lQ w' lo A xs:=fun i hi=>by
 obtain⟨g,h1,h2,h3,h4⟩:=h i hi
 exact⟨g,h1,h2,Nat.lt_of_lt_of_le h3 k.size,(k.cell (p:=⟨g,i,none⟩) (by simp only;omega) (fun hs=>by have:=hS g hs;omega)).trans h4⟩
theorem lQ.setCell{w:World}{lo:Nat}{A:Option Addr}{xs:List Int}(h:lQ w lo A xs){p:Addr}(hp:p.block<lo)(u:Value):lQ (w.setCell p u) lo A xs:=fun i hi=>by
 obtain⟨g,h1,h2,h3,h4⟩:=h i hi
 refine⟨g,h1,h2,by simpa[World.setCell] using h3,?_⟩
 rw[<- h4]
 exact World.cell?_of_block (w:=w) (Below.heap_setCell _ _ _ _ (by simp only;omega))
theorem lQ.drew{w:World}{lo:Nat}{A:Option Addr}{xs:List Int}(h:lQ w lo A xs):lQ w.drew lo A xs:=h
theorem lQ.drewN{w:World}{lo:Nat}{A:Option Addr}{xs:List Int}(h:lQ w lo A xs)(n:Nat):lQ (w.drewN n) lo A xs:=h
end Go.Proofs.YtkjoilgpmngndaaGreat.Wk
namespace Go.Proofs.YtkjoilgpmngndaaGreat.Wk
open Go.RowKit Go.Shelf Go.Proofs.YtkjoilgpmngndaaGreat.av Go.Proofs.YtkjoilgpmngndaaGreatW.aA Go.Proofs.YtkjoilgpmngndaaGreatW.aJ
def rest.T3:Bool×List (List Nat×List Nat):=(true,[([],[]),([0],[0]),([1],[1]),([2],[2]),([],[]),([3,4],[3,4]),([5],[5]),([6],[6]),([6],[6]),([],[]),([9,7,0,1,2,3,4,5,6,7,9],[7,9]),([8,10,0,1,2,3,4,5,6,7,8,9,10],[8])])
def rest.B3:List Nat:=[0,1,3,7,0,31,63,127,127,0,767,2047]
theorem rest.aiE:eu .any (opsOf Tryz.f105 3)=rest.T3:=by kernel_rfl
theorem rest.aeA:bO rest.T3.2 rest.B3=true:=by kernel_rfl
def rest.TL:Bool×List (List Nat×List Nat):=(true,[([],[]),([],[]),([1],[1]),([],[]),([0],[0]),([4],[4]),([5,2],[2,5]),([6,3],[3,6]),([7],[7]),([],[]),([],[]),([],[]),([11],[11]),([],[]),([13],[13]),([12,14],[12,14]),([10,15],[10,15]),([9,16],[9,16]),([17],[17]),([8,18],[8,18]),([19,17,0,1,2,3,4,5,6,7,8,9,10,11,12,13,14,15,16,17,18,19],[19])])
def rest.B10:List Nat:=[0,0,2,0,1,17,55,127,255,0,0,0,2048,0,8192,30720,64512,130560,261632,524287,1048575]
theorem rest.yE:eu .any (opsOf Tryz.f105 10)=rest.TL:=by kernel_rfl
theorem rest.rU:bO rest.TL.2 rest.B10=true:=by kernel_rfl
def rest.T14:Bool×List (List Nat×List Nat):=(true,[([],[]),([0],[0]),([1],[1]),([2],[2]),([],[]),([],[]),([3,4,5,0,1,2,3,4,5],[3,4,5])])
def rest.N7:List Nat:=[0,1,3,7,0,0,63]
theorem rest.XL:eu .any (opsOf Tryz.f105 14)=rest.T14:=by kernel_rfl
theorem rest.Tq:bO rest.T14.2 rest.N7=true:=by kernel_rfl
def rest.T2:Bool×List (List Nat×List Nat):=(true,[([],[]),([],[]),([1],[1]),([0],[0]),([3],[3]),([4,2],[2,4]),([5],[5]),([6],[6]),([7],[7]),([8,0,1,2,3,4,5,6,7,8],[8])])
def rest.B2:List Nat:=[0,0,2,1,9,31,63,127,255,511]
theorem rest.Pm:eu .any (opsOf Tryz.f105 2)=rest.T2:=by kernel_rfl
theorem rest.Dr:bO rest.T2.2 rest.B2=true:=by kernel_rfl
theorem aiK:Tryz.prog.underlying 202=some (.struct (Tryz.prog.fieldsOf 202)):=by kernel_rfl
theorem xZ(a b:Value)(w:World):(Instr.field 202 (Value.agg #[a,b]) 0).run Tryz.prog w= .ok a w:=by
 unfold Instr.field
 simp only[Sem.run_bind,run_underlying Tryz.underlying202,Result.andThen_ok]
 simp[asAgg,part,isAgg,run_underlying Tryz.underlying3]
theorem xY(a b:Value)(w:World):(Instr.field 202 (Value.agg #[a,b]) 1).run Tryz.prog w= .ok b w:=by
 unfold Instr.field
 simp only[Sem.run_bind,run_underlying Tryz.underlying202,Result.andThen_ok]
 simp[asAgg,part,isAgg,run_underlying Tryz.underlying3]
attribute [local go_sem] xZ xY
theorem zZ{R:Ending->World->Prop}{a:Act}{w:World}{g:Nat}{x:Int×Int}(hp:a.tmps.getD 4 undef= .pointer (some ⟨g,0,none⟩))(hd:a.defers=[])(hB:aR w g [.int .i64 x.1,.int .i64 x.2] 202)(hR:R (.returned (jA x)) w):bodyPost Tryz.prog Tryz.f105 R .ret a w:=
 bodyPost_ret (results_cell_row rfl _ _ g 202 #[.int .i64 x.1,.int .i64 x.2] (0,0) _ hp hB aiK rfl (by kernel_rfl)) hd hR
set_option maxRecDepth 100000 in
set_option maxHeartbeats 40000000 in
theorem nR{ga mb:Nat}{vW vR:Value}{T F:Nat->Nat->Int}(hT:lS T):∀(left:Nat),left<256->∀(at_:Nat),at_<8->∀(w:World),oK w ga vW vR T F mb ->
  Calls Tryz.prog 105 #[.pointer (some ⟨ga,0,none⟩),.agg #[.int .i64 at_,.int .i64 left]] w fun e w'=>e= .returned (jA (rest T at_ left))/\oK w' ga vW vR T F mb/\bq w.heap.size (fun b=>b=mb) w w':=by
 intro left
 induction left using Nat.strongRecOn with
 |ind left ih=>
 intro hl at_ ha w hA
 have IH:=aa.mk ih
 have HT:=aa.mk hT
 have HA:=aa.mk hA
 have hga:=hA.kC.lt
 have hmb:=hA.memo.lt
 have hT0:=hA.kC.time (i:=at_) (j:=0) ha (by omega)
 simp only[Nat.add_zero] at hT0
 have hM:=hA.kC.map.2.2
 clear ih hT hA
 by_cases h0:left=0
 .subst h0
  go_enter Tryz.func105,Tryz.ntmps105
  have ha8:(at_:Int)<8:=by omega
  go_wp2_with fail
  go_region
  have HA2:=aa.mk (((HA.out.alloc (.cells #[.int .i64 at_,.int .i64 0] 205)).alloc (.cells #[.int .i64 (T at_ 0),.int .i64 0] 202)).drew)
  go_wp2_with fail
  refine zZ (x:=rest T at_ 0) (g:=w.heap.size+1) rfl rfl ?_ ⟨rfl,HA2.out,(((bq.refl w.heap.size (fun b=>b=mb) w).alloc (Nat.le_refl _) _).alloc (by simp) _).drew⟩
  have:=aR.new (w.alloc (.cells #[.int .i64 at_,.int .i64 0] 205)) [.int .i64 (T at_ 0),.int .i64 0] 202
  simp only[World.size_alloc] at this
  exact this
 .have h0b:((left:Int)==0)=false:=by simpa using h0
  go_enter Tryz.func105,Tryz.ntmps105
  go_wp2_with fail
  have HA1:=aa.mk ((HA.out.alloc (.cells #[.int .i64 at_,.int .i64 left] 205)).alloc (.cells #[.int .i64 0,.int .i64 0] 202))
  have B3:=aa.mk ((aR.new w [.int .i64 at_,.int .i64 left] 205).alloc (.cells #[.int .i64 0,.int .i64 0] 202))
  have B4:=aa.mk (aR.new (w.alloc (.cells #[.int .i64 at_,.int .i64 left] 205)) [.int .i64 0,.int .i64 0] 202)
  have KW:=aa.mk (((bq.refl w.heap.size (fun b=>b=mb) w).alloc (Nat.le_refl _) (.cells #[.int .i64 at_,.int .i64 left] 205)).alloc (by simp) (.cells #[.int .i64 0,.int .i64 0] 202))
  have hsz:((w.alloc (.cells #[.int .i64 at_,.int .i64 left] 205)).alloc (.cells #[.int .i64 0,.int .i64 0] 202)).heap.size=w.heap.size+1+1:=by simp
  simp only[World.size_alloc] at B4
  generalize(w.alloc (.cells #[.int .i64 at_,.int .i64 left] 205)).alloc (.cells #[.int .i64 0,.int .i64 0] 202)=w1 at HA1 B3 B4 KW hsz ⊢
  have VF:ga<w1.heap.size:=by omega
  have Qe:mb<w1.heap.size:=by omega
  have hb3:w.heap.size<w1.heap.size:=by omega
  have hb4:w.heap.size+1<w1.heap.size:=by omega
  have hM1:=HA1.out.kC.map.2.2
  have kQ:=B3.out.cell 0
  have h31:=B3.out.cell 1
  simp only[List.getElem?_cons_zero,List.getElem?_cons_succ] at kQ h31
  clear HA hT0 hM
  obtain⟨v,b,hb1,hb0,hlk⟩:=HA1.out.memo.lookup ha hl
  unfold jJ at hlk
  obtain⟨⟨v0,v1⟩,rfl⟩:∃x,v=jA x:=by
   cases b
   .exact⟨_,hb0 rfl⟩
   .exact⟨_,hb1 rfl⟩
  unfold jA at hlk
  simp only at hlk
  refine gz (n:=12) (S:=fun w'=>w'.cell? ⟨ga,130,none⟩=some (.map (some mb))/\w'.cell? ⟨w.heap.size,0,none⟩=some (.int .i64 (at_:Int))/\w'.cell? ⟨w.heap.size,1,none⟩=some (.int .i64 (left:Int))/\(Instr.lookup 154 (.map (some mb)) (.agg #[.int .i64 at_,.int .i64 left]) true).run Tryz.prog w'= .ok (.tuple #[.agg #[.int .i64 v0,.int .i64 v1],.bool b]) w') (ds:=[10]) #[O,O,O,O,O,O,O,O,O,O,O,O] (by kernel_rfl) rfl rfl ⟨hM1,kQ,h31,(hlk _ rfl)⟩ (fun hHeld=>?_);refine bK rest.aiE rest.aeA (fun aC bW=>?_)
  have YO:=aa.mk HA1.out.drew
  have uf:=aa.mk (show aR w1.drew w.heap.size [.int .i64 at_,.int .i64 left] 205 from B3.out)
  have ry:=aa.mk (show aR w1.drew (w.heap.size+1) [.int .i64 0,.int .i64 0] 202 from B4.out)
  have KWd:=aa.mk KW.out.drew
  have TV:=aa.mk (show w1.drew.heap.size=w.heap.size+1+1 from hsz)
  replace hlk:∀w':World,w'.heap[mb]?=w1.drew.heap[mb]?->(Instr.lookup 154 (.map (some mb)) (.agg #[.int .i64 at_,.int .i64 left]) true).run Tryz.prog w'= .ok (.tuple #[.agg #[.int .i64 v0,.int .i64 v1],.bool b]) w':=hlk
  replace VF:ga<w1.drew.heap.size:=VF
  replace Qe:mb<w1.drew.heap.size:=Qe
  replace hb3:w.heap.size<w1.drew.heap.size:=hb3
  replace hb4:w.heap.size+1<w1.drew.heap.size:=hb4
  have hlw:w.heap.size<=w1.drew.heap.size:=by omega
  clear HA1 B3 B4 KW hM1 kQ h31 hsz
  generalize w1.drew=wd at YO uf ry KWd TV hlk VF Qe hb3 hb4 hlw hHeld ⊢
  refine bI 0 24 #[I,O,O,O,O,O,O,O,O,O,O,O] aC (h:=?_)
  refine bI 1 25 #[I,I,O,O,O,O,O,O,O,O,O,O] aC (h:=?_)
  refine bI 2 26 #[I,I,I,O,O,O,O,O,O,O,O,O] aC (h:=?_)
  refine eP 3 27 #[I,I,I,I,O,O,O,O,O,O,O,O] aC bW hHeld (hy:=by(rintro w' ⟨s0,s1,s2,s3⟩;go_simp;with_reducible rfl)) (h:=?_)
  refine eP 4 28 #[I,I,I,I,I,O,O,O,O,O,O,O] aC bW hHeld (hy:=by(rintro w' ⟨s0,s1,s2,s3⟩;go_simp;with_reducible rfl)) (h:=?_)
  refine eP 5 29 #[I,I,I,I,I,I,O,O,O,O,O,O] aC bW hHeld (hy:=by(rintro w' ⟨s0,s1,s2,s3⟩;go_simp;with_reducible rfl)) (h:=?_)
  refine bI 6 23 #[I,I,I,I,I,I,I,O,O,O,O,O] aC (h:=?_)
  refine bI 7 30 #[I,I,I,I,I,I,I,I,O,O,O,O] aC (h:=?_)
  refine bI 8 31 #[I,I,I,I,I,I,I,I,I,O,O,O] aC (h:=?_)
  refine iC (i:=9) (N:=some 5) #[I,I,I,I,I,I,I,I,I,I,O,O] rfl rfl (aN aC.out (by kernel_rfl)) (by decide) (fun K hK=>?_)
  refine dV (w1:=?_) (v:=?_) (by rfl) rfl ?_ ?_
  rotate_left 2
  .go_simp
   constructor<;>rfl
  refine hK.out _ _ ⟨(YO.out.alloc (.cells #[.int .i64 0,.int .i64 0] 202)).kC.map.2.2,(by simpa using (uf.out.alloc (.cells #[.int .i64 0,.int .i64 0] 202)).cell 0),(by simpa using (uf.out.alloc (.cells #[.int .i64 0,.int .i64 0] 202)).cell 1),(hlk _ (Below.heap_alloc _ _ _ Qe))⟩ (fun hHeld=>?_)
  clear hK K
  have B5:=aa.mk (aR.new wd [.int .i64 0,.int .i64 0] 202)
  have HAe:=aa.mk (YO.out.alloc (.cells #[.int .i64 0,.int .i64 0] 202))
  have QV:=aa.mk (uf.out.alloc (.cells #[.int .i64 0,.int .i64 0] 202))
  have B4e:=aa.mk (ry.out.alloc (.cells #[.int .i64 0,.int .i64 0] 202))
  have KWe:=aa.mk (KWd.out.alloc (by omega) (.cells #[.int .i64 0,.int .i64 0] 202))
  have hsz:(wd.alloc (.cells #[.int .i64 0,.int .i64 0] 202)).heap.size=wd.heap.size+1:=by simp
  have hlk2:∀w':World,w'.heap[mb]?=(wd.alloc (.cells #[.int .i64 0,.int .i64 0] 202)).heap[mb]?->(Instr.lookup 154 (.map (some mb)) (.agg #[.int .i64 at_,.int .i64 left]) true).run Tryz.prog w'= .ok (.tuple #[.agg #[.int .i64 v0,.int .i64 v1],.bool b]) w':=fun w' h=>hlk _ (h.trans (Below.heap_alloc _ _ _ Qe))
  obtain⟨g5,hg5⟩:∃g,wd.heap.size=g:=⟨_,rfl⟩
  rw[hg5] at B5 hsz VF Qe hb3 hb4 ⊢
  clear YO uf ry KWd hlk hg5
  generalize wd.alloc (.cells #[.int .i64 0,.int .i64 0] 202)=we at B5 HAe QV B4e KWe hsz hlk2 hHeld ⊢
  refine bF (by simp only[Act.put,List.setIfInBounds_toArray,List.set_cons_zero,List.set_cons_succ];rfl) ?_
  refine dW (i:=10) (N:=none) #[I,I,I,I,I,I,I,I,I,I,I,O] rfl rfl (aN aC.out (by kernel_rfl)) (by decide) (fun K hK=>?_)
  have eB:=(show we.cell? ⟨g5,0,none⟩=some (.int .i64 0) by simpa using B5.out.cell 0)
  have gP:=B5.out.frozen 0
  have rH:we.cell? ⟨g5,1,none⟩=some (.int .i64 0):=by simpa using B5.out.cell 1
  have rM:we.frozen? ⟨g5,1,none⟩=false:=B5.out.frozen 1
  refine ib (w1:=?_) (by rfl) rfl ?_ ?_
  rotate_left
  .go_simp
   rfl
  refine hK.out _ _ ?_
  clear hK K eB gP rH rM
  have YV:=aa.mk (B5.out.set2 (.int .i64 v0) (.int .i64 v1))
  have HAf:=aa.mk ((HAe.out.other (p:=⟨g5,0,none⟩) (by simp only;omega) (by simp only;omega) (.int .i64 v0)).other (p:=⟨g5,1,none⟩) (by simp only;omega) (by simp only;omega) (.int .i64 v1))
  have B3f:=aa.mk ((QV.out.move (w':=we.setCell ⟨g5,0,none⟩ (.int .i64 v0)) (Below.heap_setCell _ _ _ _ (by simp only;omega))).move (w':=(we.setCell ⟨g5,0,none⟩ (.int .i64 v0)).setCell ⟨g5,1,none⟩ (.int .i64 v1)) (Below.heap_setCell _ _ _ _ (by simp only;omega)))
  have YW:=aa.mk ((B4e.out.move (w':=we.setCell ⟨g5,0,none⟩ (.int .i64 v0)) (Below.heap_setCell _ _ _ _ (by simp only;omega))).move (w':=(we.setCell ⟨g5,0,none⟩ (.int .i64 v0)).setCell ⟨g5,1,none⟩ (.int .i64 v1)) (Below.heap_setCell _ _ _ _ (by simp only;omega)))
  have KWf:=aa.mk ((KWe.out.setCell (p:=⟨g5,0,none⟩) (.inr (by simp only;omega)) (.int .i64 v0)).setCell (p:=⟨g5,1,none⟩) (.inr (by simp only;omega)) (.int .i64 v1))
  have XU:((we.setCell ⟨g5,0,none⟩ (.int .i64 v0)).setCell ⟨g5,1,none⟩ (.int .i64 v1)).heap.size=g5+1:=by simp[World.setCell,hsz]
  clear B5 HAe QV B4e KWe hsz hlk2 hHeld
  generalize(we.setCell ⟨g5,0,none⟩ (.int .i64 v0)).setCell ⟨g5,1,none⟩ (.int .i64 v1)=wf at YV HAf B3f YW KWf XU ⊢
  refine bI 11 6 #[I,I,I,I,I,I,I,I,I,I,I,I] aC (h:=?_)
  refine fF (bQ aC.out (by kernel_rfl)) ?_
  have h50:=YV.out.cell 0
  have Di:=YV.out.cell 1
  have kQ:=B3f.out.cell 0
  have h31:=B3f.out.cell 1
  have pW:=YW.out.cell 0
  have pV:=YW.out.cell 1
  have zf:=YW.out.frozen 0
  have ze:=YW.out.frozen 1
  simp only[List.getElem?_cons_zero,List.getElem?_cons_succ] at h50 Di kQ h31 pW pV
  cases b
  .clear hb1 hb0
   go_wp2_with fail
   clear h50 Di kQ h31 pW pV zf ze
   have HAg:=aa.mk (HAf.out.alloc (.cells #[.int .i64 1048576,.int .i64 (-1)] 202))
   have B3g:=aa.mk (B3f.out.alloc (.cells #[.int .i64 1048576,.int .i64 (-1)] 202))
   have B4g:=aa.mk (YW.out.alloc (.cells #[.int .i64 1048576,.int .i64 (-1)] 202))
   have B7g:=aa.mk (aR.new wf [.int .i64 1048576,.int .i64 (-1)] 202)
   have KWg:=aa.mk (KWf.out.alloc (by omega) (.cells #[.int .i64 1048576,.int .i64 (-1)] 202))
   rw[XU] at B7g
   have hsg:(wf.alloc (.cells #[.int .i64 1048576,.int .i64 (-1)] 202)).heap.size=g5+1+1:=by simp[XU]
   clear YV HAf B3f YW KWf XU
   generalize wf.alloc (.cells #[.int .i64 1048576,.int .i64 (-1)] 202)=wg at HAg B3g B4g B7g KWg hsg ⊢
   refine(bU.calls 9 left _ wg (DU hl)).mono ?_
   rintro e wl ⟨v_,rfl,hR,hbl⟩
   obtain⟨Al,cl,rfl,hcl,hil⟩:=yf hR
   rw[List.length_map] at hcl
   have HIL:=aa.mk hil
   have HAl:=aa.mk (HAg.out.keep hbl)
   have B3l:=aa.mk (B3g.out.below hbl)
   have B4l:=aa.mk (B4g.out.below hbl)
   have QT:=aa.mk (B7g.out.below hbl)
   have KWl:=aa.mk (KWg.out.trans (bq.of_below (S:=fun b=>b=mb) hbl (by omega)))
   clear hR hil hbl HAg B3g B4g B7g KWg
   rw[hsg] at HIL
   rw[List.length_map]
   have hpl:=Ah left
   go_wp2_with fail
   go_loopw [39] (fun v wr=>∃k:Nat,k<=(places left).length/\v= .int .i64 k/\aa (oK wr ga vW vR T F mb)/\aa (aR wr w.heap.size [.int .i64 at_,.int .i64 left] 205)/\aa (aR wr (w.heap.size+1) [.int .i64 0,.int .i64 0] 202)/\aa (aR wr (g5+1) [.int .i64 (rG T at_ left k).1,.int .i64 (rG T at_ left k).2] 202)/\aa (lQ wr (g5+1+1) Al ((places left).map (fun n:Nat=>(n:Int))))/\aa (bq w.heap.size (fun b=>b=mb) w wr)) (fun v _=>(places left).length-(intOf v).toNat)
   case atStart=>exact⟨0,Nat.zero_le _,rfl,HAl,B3l,B4l,QT,HIL,KWl⟩
   case round=>
    clear HIL HAl B3l B4l QT KWl
    obtain⟨k,hk,rfl,HA,B3,B4,B7,HI,KW⟩:=hrel
    by_cases hkl:k<(places left).length
    .obtain⟨n,hn⟩:∃n,(places left)[k]=n:=⟨_,rfl⟩
     have hnm:n ∈ places left:=by rw[<- hn];exact List.getElem_mem hkl
     have Qd:=(l8.1 hnm).1
     have ap1:(n:Int)<8:=by omega
     have aqn:(at_:Int)<8:=by omega
     have hdl:=xh hnm
     have hdrop:=OI hl Qd
     have hls:rG T at_ left (k+1)=_:=MM T at_ left k hkl
     rw[hn] at hls
     unfold nE at hls
     have HLS:=aa.mk hls
     clear hls
     obtain⟨gl,hgl,ajz,Qg,VE⟩:=HI.out k (by rw[List.length_map];exact hkl)
     subst hgl
     have hgd:((places left).map (fun n:Nat=>(n:Int))).getD k 0=(n:Int):=by
      simp[List.getD,hkl,hn]
     rw[hgd] at VE
     clear hgd
     go_wp2_with fail
     have kQ:=B3.out.cell 0
     have h31:=B3.out.cell 1
     simp only[List.getElem?_cons_zero,List.getElem?_cons_succ] at kQ h31
     have hTc:=HA.out.kC.time (i:=at_) (j:=n) ha Qd
     have hcall:=IH.out (fB left n) hdl (by omega) n Qd wr.drew HA.out.drew
     obtain⟨⟨r0,r1⟩,hr⟩:∃x,rest T n (fB left n)=x:=⟨_,rfl⟩
     have hrb:=jU HT.out n (fB left n)
     have hTb:=HT.out at_ n
     obtain⟨tn,htn⟩:∃x,T at_ n=x:=⟨_,rfl⟩
     rw[hr] at hcall hrb
     rw[htn] at hTc hTb
     have HR:=aa.mk hr
     have HTN:=aa.mk htn
     clear hr htn
     unfold jA at hcall
     simp only at hcall hrb
     have hsum:wrap64 (tn+r0)=tn+r0:=IntWalk.wrap64_in _ (by omega)
     have Ue:=aa.mk hcall
     clear hcall
     refine gz (n:=21) (S:=fun w'=>w'.cell? ⟨w.heap.size,0,none⟩=some (.int .i64 (at_:Int))/\w'.cell? ⟨w.heap.size,1,none⟩=some (.int .i64 (left:Int))/\w'.cell? ⟨ga,2+at_*8+n,none⟩=some (.int .i64 tn)) (ds:=[]) #[O,O,O,O,O,O,O,O,O,O,O,O,O,O,O,O,O,O,O,O,O] (by kernel_rfl) rfl rfl ⟨kQ,h31,hTc⟩ (fun hHeld=>?_);refine bK rest.yE rest.rU (fun aC bW=>?_)
     have YO:=aa.mk HA.out.drew
     have uf:=aa.mk (show aR wr.drew w.heap.size [.int .i64 at_,.int .i64 left] 205 from B3.out)
     have ry:=aa.mk (show aR wr.drew (w.heap.size+1) [.int .i64 0,.int .i64 0] 202 from B4.out)
     have B7d:=aa.mk (show aR wr.drew (g5+1) [.int .i64 (rG T at_ left k).1,.int .i64 (rG T at_ left k).2] 202 from B7.out)
     have HId:=aa.mk HI.out.drew
     have KWd:=aa.mk KW.out.drew
     have ajT:=B7d.out.lt
     have ajq:=YO.out.memo.lt
     clear HA B3 B4 B7 HI KW kQ h31 hTc VE
     replace Qg:gl<wr.drew.heap.size:=Qg
     generalize wr.drew=wd at YO uf ry B7d HId KWd Ue ajT ajq Qg hHeld ⊢
     refine bI 0 43 #[I,O,O,O,O,O,O,O,O,O,O,O,O,O,O,O,O,O,O,O,O] aC (h:=?_)
     refine bI 1 44 #[I,I,O,O,O,O,O,O,O,O,O,O,O,O,O,O,O,O,O,O,O] aC (h:=?_)
     refine eP 2 45 #[I,I,I,O,O,O,O,O,O,O,O,O,O,O,O,O,O,O,O,O,O] aC bW hHeld (hy:=by(rintro w' ⟨s0,s1,s2⟩;go_simp;with_reducible rfl)) (h:=?_)
     refine bI 3 46 #[I,I,I,I,O,O,O,O,O,O,O,O,O,O,O,O,O,O,O,O,O] aC (h:=?_)
     refine bI 4 47 #[I,I,I,I,I,O,O,O,O,O,O,O,O,O,O,O,O,O,O,O,O] aC (h:=?_)
     refine bI 5 48 #[I,I,I,I,I,I,O,O,O,O,O,O,O,O,O,O,O,O,O,O,O] aC (h:=?_)
     refine bI 6 49 #[I,I,I,I,I,I,I,O,O,O,O,O,O,O,O,O,O,O,O,O,O] aC (h:=?_)
     refine bI 7 50 #[I,I,I,I,I,I,I,I,O,O,O,O,O,O,O,O,O,O,O,O,O] aC (h:=?_)
     refine eP 8 51 #[I,I,I,I,I,I,I,I,I,O,O,O,O,O,O,O,O,O,O,O,O] aC bW hHeld (hy:=by(rintro w' ⟨s0,s1,s2⟩;go_simp;with_reducible rfl)) (h:=?_)
     refine bI 9 52 #[I,I,I,I,I,I,I,I,I,I,O,O,O,O,O,O,O,O,O,O,O] aC (h:=?_)
     refine bI 10 53 #[I,I,I,I,I,I,I,I,I,I,I,O,O,O,O,O,O,O,O,O,O] aC (h:=?_)
     refine bI 11 54 #[I,I,I,I,I,I,I,I,I,I,I,I,O,O,O,O,O,O,O,O,O] aC (h:=?_)
     refine eP 12 55 #[I,I,I,I,I,I,I,I,I,I,I,I,I,O,O,O,O,O,O,O,O] aC bW hHeld (hy:=by(rintro w' ⟨s0,s1,s2⟩;go_simp;with_reducible rfl)) (h:=?_)
     refine bI 13 56 #[I,I,I,I,I,I,I,I,I,I,I,I,I,I,O,O,O,O,O,O,O] aC (h:=?_)
     refine bI 14 57 #[I,I,I,I,I,I,I,I,I,I,I,I,I,I,I,O,O,O,O,O,O] aC (h:=?_)
     refine bI 15 58 #[I,I,I,I,I,I,I,I,I,I,I,I,I,I,I,I,O,O,O,O,O] aC (h:=?_)
     refine bI 16 59 #[I,I,I,I,I,I,I,I,I,I,I,I,I,I,I,I,I,O,O,O,O] aC (h:=?_)
     refine iC (i:=17) (N:=some 60) #[I,I,I,I,I,I,I,I,I,I,I,I,I,I,I,I,I,I,O,O,O] rfl rfl (aN aC.out (by kernel_rfl)) (by decide) (fun K hK=>?_)
     refine fD Tryz.func105 (by kernel_rfl) rfl #[.pointer (some ⟨ga,0,none⟩),.agg #[.int .i64 (n:Int),.int .i64 (fB left n:Int)]] (by rfl) rfl rfl (by(try simp only[List.map_toArray,List.map_cons,List.map_nil]);rfl) ?_
     refine(Ue.out).mono ?_
     rintro e_ w_ ⟨rfl,hA_,Ya⟩
     refine⟨_,rfl,hK.out _ _ ⟨by simpa using (uf.out.move (Ya.block _ (by omega) (by omega))).cell 0,by simpa using (uf.out.move (Ya.block _ (by omega) (by omega))).cell 1,by rw[hA_.kC.time (i:=at_) (j:=n) ha Qd,HTN.out]⟩ (fun hHeld=>?_)⟩
     clear hK K
     have HAe:=aa.mk hA_
     have QV:=aa.mk (uf.out.move (Ya.block _ (by omega) (by omega)))
     have B4e:=aa.mk (ry.out.move (Ya.block _ (by omega) (by omega)))
     have IM:=aa.mk (B7d.out.move (Ya.block _ (by omega) (by omega)))
     have HIe:=aa.mk (HId.out.keep Ya (Nat.le_refl _) (by rintro g rfl;omega))
     have KWe:=aa.mk (KWd.out.trans (Ya.mono (by omega) (fun _ _ h=>h)))
     clear hA_ Ya YO uf ry B7d HId KWd Ue
     refine bF (by simp only[Act.put,List.setIfInBounds_toArray,List.set_cons_zero,List.set_cons_succ];rfl) ?_
     refine bI 18 61 #[I,I,I,I,I,I,I,I,I,I,I,I,I,I,I,I,I,I,I,O,O] aC (h:=?_)
     refine bI 19 62 #[I,I,I,I,I,I,I,I,I,I,I,I,I,I,I,I,I,I,I,I,O] aC (h:=?_)
     refine bI 20 10 #[I,I,I,I,I,I,I,I,I,I,I,I,I,I,I,I,I,I,I,I,I] aC (h:=?_)
     refine fF (bQ aC.out (by kernel_rfl)) ?_
     obtain⟨⟨b0,b1⟩,ac8⟩:∃x,rG T at_ left k=x:=⟨_,rfl⟩
     rw[ac8] at IM HLS
     rw[HR.out,HTN.out] at HLS
     clear ac8
     have M5:=IM.out.cell 0
     have Qi:=IM.out.cell 1
     have aqJ:=IM.out.frozen 0
     have aqG:=IM.out.frozen 1
     simp only[List.getElem?_cons_zero,List.getElem?_cons_succ] at M5 Qi
     have hgm:=HAe.out.ne
     by_cases hb:tn+r0<b0
     .have hbd:decide (tn+r0<b0)=true:=by simpa using hb
      have hls:=HLS.out
      rw[if_pos hb] at hls
      have HLT:=aa.mk hls
      clear HLS hls
      go_wp2_with fail
      go_roundw
      case rel=>
       refine⟨k+1,by omega,by go_num,⟨(HAe.out.other (p:=⟨g5+1,0,none⟩) (by simp only;omega) (by simp only;omega) _).other (p:=⟨g5+1,1,none⟩) (by simp only;omega) (by simp only;omega) _⟩,⟨?_⟩,⟨?_⟩,⟨?_⟩,⟨(HIe.out.setCell (p:=⟨g5+1,0,none⟩) (by simp only;omega) _).setCell (p:=⟨g5+1,1,none⟩) (by simp only;omega) _⟩,⟨(KWe.out.setCell (p:=⟨g5+1,0,none⟩) (.inr (by simp only;omega)) _).setCell (p:=⟨g5+1,1,none⟩) (.inr (by simp only;omega)) _⟩⟩
       .exact(QV.out.move (Below.heap_setCell _ _ _ _ (by simp only;omega))).move (Below.heap_setCell _ _ _ _ (by simp only;omega))
       .exact(B4e.out.move (Below.heap_setCell _ _ _ _ (by simp only;omega))).move (Below.heap_setCell _ _ _ _ (by simp only;omega))
       .rw[HLT.out]
        exact IM.out.set2 _ _
      case measure=>simp[intOf];omega
     .have hbd:decide (tn+r0<b0)=false:=by simpa using hb
      have hls:=HLS.out
      rw[if_neg hb] at hls
      have HLT:=aa.mk hls
      clear HLS hls
      go_wp2_with fail
      go_roundw
      case rel=>exact⟨k+1,by omega,by go_num,HAe,QV,B4e,⟨by rw[HLT.out];exact IM.out⟩,HIe,KWe⟩
      case measure=>simp[intOf];omega
    .obtain rfl:k=(places left).length:=by omega
     rw[PW T at_ left h0] at B7
     obtain⟨o,ho,hMo⟩:=HA.out.drew.memo.update ha hl
     unfold jJ jA at ho
     have HMO:=aa.mk hMo
     clear hMo
     have hM:=HA.out.kC.map.2.2
     have kQ:=B3.out.cell 0
     have h31:=B3.out.cell 1
     have M5:=B7.out.cell 0
     have Qi:=B7.out.cell 1
     simp only[List.getElem?_cons_zero,List.getElem?_cons_succ] at kQ h31 M5 Qi
     have hmw:=HA.out.memo.lt
     have h4w:=B4.out.lt
     have h7w:=B7.out.lt
     have hgm:=HA.out.ne
     go_wp2_with fail
     go_region
     have HAu:=aa.mk (show oK (wr.drew.putObj mb o) ga vW vR T F mb from⟨HA.out.drew.kC.move (bL _ _ hgm),HMO.out,hgm⟩)
     have B4u:=aa.mk (B4.out.move (w':=wr.drew.putObj mb o) (bL _ _ (by omega)))
     have B7u:=aa.mk (B7.out.move (w':=wr.drew.putObj mb o) (bL _ _ (by omega)))
     have KWu:=aa.mk (KW.out.drew.put (.inl rfl) o)
     clear HA B3 B4 B7 HI KW hM kQ h31 M5 Qi ho HMO
     generalize wr.drew.putObj mb o=wu at HAu B4u B7u KWu ⊢
     have M5:=B7u.out.cell 0
     have Qi:=B7u.out.cell 1
     have pW:=B4u.out.cell 0
     have pV:=B4u.out.cell 1
     have zf:=B4u.out.frozen 0
     have ze:=B4u.out.frozen 1
     simp only[List.getElem?_cons_zero,List.getElem?_cons_succ] at M5 Qi pW pV
     go_wp2_with fail
     refine zZ (g:=w.heap.size+1) rfl rfl (B4u.out.set2 _ _) ⟨rfl,?_,?_⟩
     .exact(HAu.out.other (p:=⟨w.heap.size+1,0,none⟩) (by simp only;omega) (by simp only;omega) _).other (p:=⟨w.heap.size+1,1,none⟩) (by simp only;omega) (by simp only;omega) _
     .exact(KWu.out.setCell (p:=⟨w.heap.size+1,0,none⟩) (.inr (by simp only;omega)) _).setCell (p:=⟨w.heap.size+1,1,none⟩) (.inr (by simp only;omega)) _
  .have hb:=hb1 rfl
   clear hb1 hb0
   unfold jA at hb
   simp only[Value.agg.injEq,Array.mk.injEq,List.cons.injEq,Value.int.injEq,true_and,and_true] at hb
   obtain⟨rfl,rfl⟩:=hb
   go_wp2_with fail
   refine zZ (g:=w.heap.size+1) rfl rfl (YW.out.set2 _ _) ⟨rfl,?_,?_⟩
   .exact(HAf.out.other (p:=⟨w.heap.size+1,0,none⟩) (by simp only;omega) (by simp only;omega) _).other (p:=⟨w.heap.size+1,1,none⟩) (by simp only;omega) (by simp only;omega) _
   .exact(KWf.out.setCell (p:=⟨w.heap.size+1,0,none⟩) (.inr (by simp only;omega)) _).setCell (p:=⟨w.heap.size+1,1,none⟩) (.inr (by simp only;omega)) _
end Go.Proofs.YtkjoilgpmngndaaGreat.Wk
