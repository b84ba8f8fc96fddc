import Derived.DeepKeys3
import Derived.Maps.Keyed
import Derived.WideKeyEntry
import Derived.Test.YtkjoilgpmngndaaGreatQ13
set_option linter.all false
namespace Go.Proofs.YtkjoilgpmngndaaGreat
open Go.RowKit Go.Proofs.YtkjoilgpmngndaaGreat.av Go.Proofs.YtkjoilgpmngndaaGreatW.aA Go.Instr
def oI(a b:Nat):Value:= .agg #[.int .i64 (a:Int),.int .i64 (b:Int)]
theorem J3:Maps.Keyed Tryz.prog 115:= .of_law (deep_law (m:=2) (by decide) (by kernel_rfl) (by kernel_rfl) (by kernel_rfl))
theorem R9:∀a:Fin 8,∀b:Fin 8,(keyOf Tryz.prog 115 (.agg #[.int .i64 (a.1:Int),.int .i64 (b.1:Int)])).isSome=true:=by decide +kernel
theorem vP{a b:Nat}(ha:a<8)(hb:b<8):∃l,keyOf Tryz.prog 115 (oI a b)=some l:=Option.isSome_iff_exists.1 (R9 ⟨a,ha⟩ ⟨b,hb⟩)
theorem JZ{a s b t:Nat}(h:oI a s=oI b t):a=b/\s=t:=by
 unfold oI at h
 simp only[Value.agg.injEq,Array.mk.injEq,List.cons.injEq,Value.int.injEq,true_and,and_true,Int.natCast_inj] at h
 exact h
theorem XR:Tryz.prog.underlying 130=some (.map 115 4):=by kernel_rfl
theorem Yr(w:World):(zeroValue 4).run Tryz.prog w= .ok (.bool false) w:=Tryz.zeroValue4 w
def oJ(w:World)(mb:Nat)(f:Nat->Nat->Bool):Prop:=∃es clock,w.heap[mb]?=some (.map es clock)/\(∀e ∈ es.toList,∃a b:Nat,a<8/\b<8/\e.key=oI a b/\e.val= .bool true/\f a b=true)
 /\(∀a b:Nat,a<8->b<8->f a b=true->∃e ∈ es.toList,e.key=oI a b)/\(∀e ∈ es.toList,e.born<clock)/\(es.toList.map (·.born)).Nodup
theorem oJ.move{w w':World}{mb:Nat}{f:Nat->Nat->Bool}(h:oJ w mb f)(e:w'.heap[mb]?=w.heap[mb]?):oJ w' mb f:=by
 obtain⟨es,clock,h0,h1⟩:=h
 exact⟨es,clock,e.trans h0,h1⟩
theorem oJ.lt{w:World}{mb:Nat}{f:Nat->Nat->Bool}(h:oJ w mb f):mb<w.heap.size:=by
 obtain⟨es,clock,h0,h1⟩:=h
 exact(Array.getElem?_eq_some_iff.1 h0).1
theorem oJ.new{w:World}{mb:Nat}(h:w.heap[mb]?=some (.map #[] 0)):oJ w mb (fun _ _=>false):=⟨_,_,h,fun e he=>by simp at he,fun a b _ _ h=>by simp at h,fun e he=>by simp at he,by simp⟩
theorem oJ.congr{w:World}{mb:Nat}{f g:Nat->Nat->Bool}(h:oJ w mb f)(e:∀a b,a<8->b<8->f a b=g a b):oJ w mb g:=by
 obtain⟨es,clock,h0,h1,h2,h3⟩:=h
 refine⟨es,clock,h0,fun e' he=>?_,fun a b ha hb hg=>h2 a b ha hb (by rw[e a b ha hb];exact hg),h3⟩
 obtain⟨a,b,ha,hb,k1,k2,k3⟩:=h1 e' he
 exact⟨a,b,ha,hb,k1,k2,by rw[<- e a b ha hb];exact k3⟩
theorem oJ.lookup{w:World}{mb:Nat}{f:Nat->Nat->Bool}(h:oJ w mb f){a s:Nat}(ha:a<8)(hs:s<8)(w':World)(hw':w'.heap[mb]?=w.heap[mb]?):
  (Instr.lookup 130 (.map (some mb)) (oI a s) false).run Tryz.prog w'= .ok (.bool (f a s)) w':=by
 obtain⟨es,clock,h0,h1,h2,h3⟩:=h
 obtain⟨l,hl⟩:=vP ha hs
 have hk:∀e ∈ es.toList,∃l,keyOf Tryz.prog 115 e.key=some l:=fun e he=>by
  obtain⟨b,t,hb,ht,h2,h3⟩:=h1 e he
  rw[h2]
  exact vP hb ht
 rw[h0] at hw'
 have hg:(getObj mb).run Tryz.prog w'= .ok (.map es clock) w':=by simp[getObj,Sem.run,hw']
 unfold Instr.lookup
 simp only[Sem.run_bind,run_underlying XR,Result.andThen_ok,hg,J3.check w' es.isEmpty hl,Sem.run_pure]
 rcases J3.find w' hl es.toList hk with⟨hf,hn⟩|⟨j,e,hf,hj,he⟩
 .have X4:f a s=false:=by
   cases hfa:f a s with
   |false=>rfl
   |true=>
    obtain⟨e,he,he2⟩:=h2 a s ha hs hfa
    exact absurd he2 (hn e he)
  rw[hf,X4]
  simp[Result.andThen_ok,Sem.run_bind,Yr,Sem.run_pure]
 .rw[hf]
  obtain⟨b,t,hb,ht,k2,k3,k4⟩:=h1 e (List.mem_of_getElem? hj)
  rw[k2] at he
  obtain⟨rfl,rfl⟩:=JZ he
  simp[Result.andThen_ok,Sem.run_bind,Sem.run_pure,k3,k4]
def Ci(f:Nat->Nat->Bool)(a b:Nat):Nat->Nat->Bool:=fun x y=>f x y||(x==a&&y==b)
theorem oJ.aaE{w:World}{mb:Nat}{f:Nat->Nat->Bool}(h:oJ w mb f){a s:Nat}(ha:a<8)(hs:s<8):
  ∃v0 st o1 o2,(Instr.mapEntry 130 (.map (some mb)) (oI a s)).run Tryz.prog w= .ok (.tuple #[v0,goInt st]) (w.putObj mb o1) /\
   (∀w2:World,w2.heap[mb]?=some o1->(Instr.entryStore 130 (.map (some mb)) (goInt st) (.bool true)).run Tryz.prog w2= .ok () (w2.putObj mb o2)) /\
   ∀w2:World,w2.heap[mb]?=some o2->oJ w2 mb (Ci f a s):=by
 have hlt:=h.lt
 obtain⟨es,clock,h0,h1,h2,h3,h4⟩:=h
 obtain⟨l,hl⟩:=vP ha hs
 have hk:∀e ∈ es.toList,∃l,keyOf Tryz.prog 115 e.key=some l:=fun e he=>by
  obtain⟨b,t,hb,ht,h2,h3⟩:=h1 e he
  rw[h2]
  exact vP hb ht
 have hg:(getObj mb).run Tryz.prog w= .ok (.map es clock) w:=by simp[getObj,Sem.run,h0]
 have hset:∀(w:World) (o:Obj) (e:Array MapEntry) (c:Nat),w.heap[mb]?=some (.map e c)->(setObj mb o).run Tryz.prog w= .ok () (w.putObj mb o):=fun w o e c hm=>by simp[setObj,Sem.run,World.putObj,hm]
 unfold Instr.mapEntry Instr.entryStore
 simp only[Sem.run_bind,run_underlying XR,Result.andThen_ok,hg,J3.check w false hl,Sem.run_pure]
 rcases J3.find w hl es.toList hk with⟨hf,hn⟩|⟨j,e,hf,hj,he⟩
 .rw[hf]
  refine⟨.bool false,clock,.map (es.push {key:=oI a s,val:= .bool false,born:=clock}) (clock+1),.map (es.push {key:=oI a s,val:= .bool true,born:=clock}) (clock+1),?_,fun w2 hw2=>?_,fun w2 hw2=>?_⟩
  .simp only[Result.andThen_ok,Sem.run_bind,Yr,hset _ _ _ _ h0,Sem.run_pure]
  .have hg2:(getObj mb).run Tryz.prog w2= .ok (.map (es.push {key:=oI a s,val:= .bool false,born:=clock}) (clock+1)) w2:=by simp[getObj,Sem.run,hw2]
   have hidx:(es.push {key:=oI a s,val:= .bool false,born:=clock}).findIdx? (fun e=>((e.born:Nat):Int)==((clock:Nat):Int))=some es.size:=by
    rw[WideElems.findIdx_arr]
    have:=WideElems.findIdx_born (l:=(es.push {key:=oI a s,val:= .bool false,born:=clock}).toList) (j:=es.size) (e0:={key:=oI a s,val:= .bool false,born:=clock}) (by
     simp only[Array.toList_push,List.map_append,List.map_cons,List.map_nil]
     refine List.nodup_append.2 ⟨h4,by simp,fun a ha c hc e1=>?_⟩
     simp only[List.mem_singleton] at hc
     obtain⟨x,hx,rfl⟩:=List.mem_map.1 ha
     have:=h3 x hx
     omega) (by simp)
    exact this
   have hmod:(es.push {key:=oI a s,val:= .bool false,born:=clock}).modify es.size (fun e=>{e with val:= .bool true})=es.push {key:=oI a s,val:= .bool true,born:=clock}:=by
    apply Array.ext'
    rw[Array.toList_modify,Array.toList_push,Array.toList_push,<- Array.length_toList,WideElems.modify_last]
   simp only[Sem.run_bind,hg2,Result.andThen_ok]
   simp[asInt,asIntOf,goInt,hidx,hmod,Result.andThen,hset w2 _ _ _ hw2]
  .refine⟨_,_,hw2,fun e he=>?_,fun x y hx hy hxy=>?_,fun e he=>?_,?_⟩
   .rw[Array.toList_push,List.mem_append,List.mem_singleton] at he
    rcases he with he|rfl
    .obtain⟨p,q,hp,hq,k1,k2,k3⟩:=h1 e he
     exact⟨p,q,hp,hq,k1,k2,by unfold Ci;rw[k3];rfl⟩
    .exact⟨a,s,ha,hs,rfl,rfl,by unfold Ci;simp⟩
   .unfold Ci at hxy
    rw[Bool.or_eq_true] at hxy
    rw[Array.toList_push]
    rcases hxy with hxy|hxy
    .obtain⟨e,he,k⟩:=h2 x y hx hy hxy
     exact⟨e,List.mem_append_left _ he,k⟩
    .simp only[Bool.and_eq_true,beq_iff_eq] at hxy
     obtain⟨rfl,rfl⟩:=hxy
     exact⟨_,List.mem_append_right _ (List.mem_singleton.2 rfl),rfl⟩
   .rw[Array.toList_push,List.mem_append,List.mem_singleton] at he
    rcases he with he|rfl
    .have:=h3 e he;omega
    .simp
   .simp only[Array.toList_push,List.map_append,List.map_cons,List.map_nil]
    refine List.nodup_append.2 ⟨h4,by simp,fun a ha c hc e1=>?_⟩
    simp only[List.mem_singleton] at hc
    obtain⟨x,hx,rfl⟩:=List.mem_map.1 ha
    have:=h3 x hx
    omega
 .rw[hf]
  have hj':es[j]?=some e:=by rw[<- Array.getElem?_toList];exact hj
  obtain⟨p,q,hp,hq,k1,k2,k3⟩:=h1 e (List.mem_of_getElem? hj)
  have hpq:p=a/\q=s:=JZ (k1.symm.trans he)
  obtain⟨rfl,rfl⟩:=hpq
  have hsame:es.modify j (fun e=>{e with key:=oI p q})=es:=by
   apply Array.ext'
   rw[Array.toList_modify,ChangeMaps.modify_eq_set _ _ _ _ hj]
   have:({e with key:=oI p q}:MapEntry)=e:=by rw[<- k1]
   rw[this]
   exact WideElems.set_self _ _ _ hj
  have ZR:es.modify j (fun e=>{e with val:= .bool true})=es:=by
   apply Array.ext'
   rw[Array.toList_modify,ChangeMaps.modify_eq_set _ _ _ _ hj]
   have:({e with val:= .bool true}:MapEntry)=e:=by rw[<- k2]
   rw[this]
   exact WideElems.set_self _ _ _ hj
  refine⟨e.val,e.born,.map es clock,.map es clock,?_,fun w2 hw2=>?_,fun w2 hw2=>?_⟩
  .simp only[Result.andThen_ok,Sem.run_bind,hj',Option.map_some,Option.getD_some,he,J3.stays w hl,hsame,hset _ _ _ _ h0,Sem.run_pure]
  .have hg2:(getObj mb).run Tryz.prog w2= .ok (.map es clock) w2:=by simp[getObj,Sem.run,hw2]
   have hidx:es.findIdx? (fun x=>((x.born:Nat):Int)==((e.born:Nat):Int))=some j:=by
    rw[WideElems.findIdx_arr]
    exact WideElems.findIdx_born h4 hj
   simp only[Sem.run_bind,hg2,Result.andThen_ok]
   simp[asInt,asIntOf,goInt,hidx,ZR,Result.andThen,hset w2 _ _ _ hw2]
  .refine⟨_,_,hw2,fun e' he'=>?_,fun x y hx hy hxy=>?_,h3,h4⟩
   .obtain⟨x,y,hx,hy,g1,g2,g3⟩:=h1 e' he'
    exact⟨x,y,hx,hy,g1,g2,by unfold Ci;rw[g3];rfl⟩
   .unfold Ci at hxy
    rw[Bool.or_eq_true] at hxy
    rcases hxy with hxy|hxy
    .exact h2 x y hx hy hxy
    .simp only[Bool.and_eq_true,beq_iff_eq] at hxy
     obtain⟨rfl,rfl⟩:=hxy
     exact⟨e,List.mem_of_getElem? hj,k1⟩
theorem oJ.entry{w:World}{mb:Nat}{f:Nat->Nat->Bool}(h:oJ w mb f){a s:Nat}(ha:a<8)(hs:s<8):
  ∃v0 st o1 o2,(Instr.mapEntry 130 (.map (some mb)) (oI a s)).run Tryz.prog w= .ok (.tuple #[v0,(.int .i64 st)]) (w.putObj mb o1) /\
   (∀w2:World,w2.heap[mb]?=some o1->(Instr.entryStore 130 (.map (some mb)) ((.int .i64 st)) (.bool true)).run Tryz.prog w2= .ok () (w2.putObj mb o2)) /\
   ∀w2:World,w2.heap[mb]?=some o2->oJ w2 mb (Ci f a s):=h.aaE ha hs
end Go.Proofs.YtkjoilgpmngndaaGreat
namespace Go.Proofs.YtkjoilgpmngndaaGreat
open Go.RowKit Go.Shelf Go.Proofs.YtkjoilgpmngndaaGreat.av Go.Proofs.YtkjoilgpmngndaaGreatW.aA Go.Proofs.YtkjoilgpmngndaaGreatW.aJ Go.Proofs.YtkjoilgpmngndaaGreatW.dn
def wk.T5:Bool×List (List Nat×List Nat):=(true,[([],[]),([0],[0]),([1],[1]),([2],[2]),([],[]),([],[]),([5],[5]),([6],[6]),([7],[7]),([],[]),([9],[9]),([],[]),([11],[11]),([10,12],[10,12]),([3,4,8],[3,4]),([14],[14]),([3,15,14,0,1,2,3,4,8,14],[3,15]),([8,13,16,0,1,2,3,4,8,14,15,16],[8,13]),([17],[17]),([8,18,17,0,1,2,3,4,5,6,7,8,9,10,11,12,13,14,15,16,17],[8,18])])
def wk.B5:List Nat:=[0,1,3,7,0,0,32,96,224,0,512,0,2048,7680,511,16895,49663,131071,262143,524287]
theorem wk.Jf:eu .any (opsOf Tryz.f46 5)=wk.T5:=by kernel_rfl
theorem wk.yT:bO wk.T5.2 wk.B5=true:=by kernel_rfl
def jn(js:List bS)(a b:Nat):Bool:=js.any (fun j=>(j.f0==(a:Int)&&j.f1==(b:Int))||(j.f0==(b:Int)&&j.f1==(a:Int)))
theorem Vb(js:List bS)(a b:Nat)(x y:Nat):jn (js++[⟨(a:Int),(b:Int)⟩]) x y=Ci (Ci (jn js) a b) b a x y:=by
 unfold jn Ci
 rw[List.any_append]
 simp only[List.any_cons,List.any_nil,Bool.or_false]
 rw[Bool.eq_iff_iff]
 simp only[Bool.or_eq_true,Bool.and_eq_true,beq_iff_eq]
 constructor
 .rintro(h|⟨h1,h2⟩|⟨h1,h2⟩)
  .exact .inl (.inl h)
  .exact .inl (.inr ⟨by omega,by omega⟩)
  .exact .inr ⟨by omega,by omega⟩
 .rintro((h|⟨h1,h2⟩)|⟨h1,h2⟩)
  .exact .inl h
  .exact .inr (.inl ⟨by omega,by omega⟩)
  .exact .inr (.inr ⟨by omega,by omega⟩)
theorem U1(js:List bS)(k:Nat)(h:k<js.length):qw js (k:Int)=js[k]:=by simp[qw,h]
structure Xl(w:World)(g mb:Nat)(A0:Option Addr)(c0:Nat)(old:List Int)(nw:Int)(A2:Option Addr)(c2:Nat)(ss:List bH)(A3:Option Addr)(c3:Nat)(js:List bS):Prop where
 blk:aR w g [.slice A0 old.length c0,.int .i64 nw,.slice A2 ss.length c2,.slice A3 js.length c3,.map (some mb)] 132
 jm:oJ w mb (jn js)
set_option maxRecDepth 100000 in
set_option maxHeartbeats 40000000 in
theorem zN{A0:Option Addr}{c0:Nat}{old:List Int}{nw:Int}{A2:Option Addr}{c2:Nat}{ss:List bH}{A3:Option Addr}{c3:Nat}{js:List bS}{w:World}(h:uX w A0 c0 old A2 c2 ss A3 c3 js)(hss:ss.length<=8)(hjs:js.length<=20)(hjo:js.all (ni ss.length)=true):
  Calls Tryz.prog 46 #[.agg #[.slice A0 old.length c0,.int .i64 nw,.slice A2 ss.length c2,.slice A3 js.length c3]] w fun e w'=>e= .returned (.pointer (some ⟨w.heap.size+1+1,0,none⟩))/\Xl w' (w.heap.size+1+1) (w.heap.size+1) A0 c0 old nw A2 c2 ss A3 c3 js/\Below w.heap.size w w':=by
 have H:=aa.mk h
 have HJO:=aa.mk hjo
 clear h hjo
 go_enter Tryz.func46,Tryz.ntmps46
 have hmm:=@run_makeMap Tryz.prog
 go_wp2_with fail
 clear hmm
 have HBS:=aa.mk (show Below w.heap.size w (((w.alloc (.cells #[.slice A0 old.length c0,.int .i64 nw,.slice A2 ss.length c2,.slice A3 js.length c3] 43)).alloc (.map #[] 0)).alloc (.cells #[.slice A0 old.length c0,.int .i64 nw,.slice A2 ss.length c2,.slice A3 js.length c3,.map (some (w.heap.size+1))] 132)) from ae (ae (ae (Below.refl w.heap.size w) (.cells #[.slice A0 old.length c0,.int .i64 nw,.slice A2 ss.length c2,.slice A3 js.length c3] 43)) (.map #[] 0)) (.cells #[.slice A0 old.length c0,.int .i64 nw,.slice A2 ss.length c2,.slice A3 js.length c3,.map (some (w.heap.size+1))] 132))
 have BW0:=aa.mk (show aR (((w.alloc (.cells #[.slice A0 old.length c0,.int .i64 nw,.slice A2 ss.length c2,.slice A3 js.length c3] 43)).alloc (.map #[] 0)).alloc (.cells #[.slice A0 old.length c0,.int .i64 nw,.slice A2 ss.length c2,.slice A3 js.length c3,.map (some (w.heap.size+1))] 132)) (w.heap.size+1+1) [.slice A0 old.length c0,.int .i64 nw,.slice A2 ss.length c2,.slice A3 js.length c3,.map (some (w.heap.size+1))] 132 by have hB:=aR.new ((w.alloc (.cells #[.slice A0 old.length c0,.int .i64 nw,.slice A2 ss.length c2,.slice A3 js.length c3] 43)).alloc (.map #[] 0)) [.slice A0 old.length c0,.int .i64 nw,.slice A2 ss.length c2,.slice A3 js.length c3,.map (some (w.heap.size+1))] 132;simp only[World.size_alloc] at hB;exact hB)
 have HJ0:=aa.mk (show oJ (((w.alloc (.cells #[.slice A0 old.length c0,.int .i64 nw,.slice A2 ss.length c2,.slice A3 js.length c3] 43)).alloc (.map #[] 0)).alloc (.cells #[.slice A0 old.length c0,.int .i64 nw,.slice A2 ss.length c2,.slice A3 js.length c3,.map (some (w.heap.size+1))] 132)) (w.heap.size+1) (jn (js.take 0)) from oJ.new (by have:=heap_alloc_new (w.alloc (.cells #[.slice A0 old.length c0,.int .i64 nw,.slice A2 ss.length c2,.slice A3 js.length c3] 43)) (.map #[] 0);simp only[World.size_alloc] at this;exact(Below.heap_alloc _ _ _ (by simp)).trans this))
 generalize((w.alloc (.cells #[.slice A0 old.length c0,.int .i64 nw,.slice A2 ss.length c2,.slice A3 js.length c3] 43)).alloc (.map #[] 0)).alloc (.cells #[.slice A0 old.length c0,.int .i64 nw,.slice A2 ss.length c2,.slice A3 js.length c3,.map (some (w.heap.size+1))] 132)=w1 at HBS BW0 HJ0 ⊢
 go_loopw [13] (fun v wr=>∃k:Nat,k<=js.length/\v= .int .i64 k/\aa (Below w.heap.size w wr)/\aa (aR wr (w.heap.size+1+1) [.slice A0 old.length c0,.int .i64 nw,.slice A2 ss.length c2,.slice A3 js.length c3,.map (some (w.heap.size+1))] 132)/\aa (oJ wr (w.heap.size+1) (jn (js.take k)))) (fun v _=>js.length-(intOf v).toNat)
 case atStart=>exact⟨0,Nat.zero_le _,rfl,HBS,BW0,HJ0⟩
 case round=>
  clear HBS BW0 HJ0
  obtain⟨k,hk,rfl,HB,BW,HJ⟩:=hrel
  by_cases hkl:k<js.length
  .obtain⟨ad,e,h0,h1⟩:=OQ (H.out.below HB.out).kjo (k:Int) (by omega) (by omega)
   cases e
   simp only[Int.toNat_natCast] at h0 h1
   obtain⟨r,hr⟩:∃r,qw js (k:Int)=r:=⟨_,rfl⟩
   have XV:js[k]=r:=by rw[<- hr];exact(U1 js k hkl).symm
   have hok:=List.all_eq_true.1 HJO.out _ (List.getElem_mem hkl)
   rw[XV] at hok
   have HTK:=aa.mk (show js.take (k+1)=js.take k++[r] by rw[List.take_succ_eq_append_getElem hkl,XV])
   rw[hr] at h0 h1
   clear hr XV
   obtain⟨r0,r1⟩:=r
   unfold ni aY at hok
   simp only[Bool.and_eq_true,decide_eq_true_eq] at hok h0 h1
   obtain⟨⟨q1,q2⟩,⟨q3,q4⟩,q5⟩:=hok
   obtain⟨a,rfl⟩:∃a:Nat,r0=(a:Int):=⟨r0.toNat,by omega⟩
   obtain⟨b,rfl⟩:∃b:Nat,r1=(b:Int):=⟨r1.toNat,by omega⟩
   have ha:a<8:=by omega
   have hb:b<8:=by omega
   have hg:=BW.out.lt
   clear q1 q2 q3 q4 q5
   go_wp2_with fail
   replace BW:=aa.mk (BW.out.alloc (.cells #[.int .i64 (a:Int),.int .i64 (b:Int)] 115))
   replace HB:=aa.mk (ae HB.out (.cells #[.int .i64 (a:Int),.int .i64 (b:Int)] 115))
   replace HJ:=aa.mk (HJ.out.move (Below.heap_alloc _ (.cells #[.int .i64 (a:Int),.int .i64 (b:Int)] 115) _ HJ.out.lt))
   have B5:=aa.mk (aR.new wr [.int .i64 (a:Int),.int .i64 (b:Int)] 115)
   have hms:w.heap.size+1<(wr.alloc (.cells #[.int .i64 (a:Int),.int .i64 (b:Int)] 115)).heap.size:=by simp;omega
   have hsz:wr.heap.size<(wr.alloc (.cells #[.int .i64 (a:Int),.int .i64 (b:Int)] 115)).heap.size:=by simp
   generalize wr.alloc (.cells #[.int .i64 (a:Int),.int .i64 (b:Int)] 115)=wr5 at BW HB HJ B5 hms hsz ⊢
   obtain⟨g5,hg5⟩:∃g,wr.heap.size=g:=⟨_,rfl⟩
   rw[hg5] at B5 hsz hg ⊢
   clear hg5 h0 h1
   refine gz (n:=20) (S:=fun w'=>w'.cell? ⟨w.heap.size+1+1,4,none⟩=some (.map (some (w.heap.size+1)))/\w'.cell? ⟨g5,0,none⟩=some (.int .i64 (a:Int))/\w'.cell? ⟨g5,1,none⟩=some (.int .i64 (b:Int))) (ds:=[17,19]) #[O,O,O,O,O,O,O,O,O,O,O,O,O,O,O,O,O,O,O,O] (by kernel_rfl) rfl rfl ⟨(by simpa using BW.out.cell 4),(by simpa using B5.out.cell 0),(by simpa using B5.out.cell 1)⟩ (fun hHeld=>?_);refine bK wk.Jf wk.yT (fun aC bW=>?_)
   have HJd:=aa.mk (HJ.out.move (w':=wr5.drew) rfl)
   have Cb:=aa.mk (BW.out.move rfl:aR wr5.drew _ _ _)
   have IP:=aa.mk (B5.out.move rfl:aR wr5.drew _ _ _)
   have qV:=aa.mk (bG HB.out)
   have Vz:w.heap.size+1<wr5.drew.heap.size:=hms
   have ZN:g5<wr5.drew.heap.size:=hsz
   clear HJ BW B5 HB hms hsz
   generalize wr5.drew=wd at HJd Cb IP qV Vz ZN hHeld ⊢
   refine bI 0 17 #[I,O,O,O,O,O,O,O,O,O,O,O,O,O,O,O,O,O,O,O] aC (h:=?_)
   refine bI 1 18 #[I,I,O,O,O,O,O,O,O,O,O,O,O,O,O,O,O,O,O,O] aC (h:=?_)
   refine bI 2 19 #[I,I,I,O,O,O,O,O,O,O,O,O,O,O,O,O,O,O,O,O] aC (h:=?_)
   refine eP 3 20 #[I,I,I,I,O,O,O,O,O,O,O,O,O,O,O,O,O,O,O,O] aC bW hHeld (hy:=by(rintro w' ⟨s0,s1,s2⟩;go_simp;with_reducible rfl)) (h:=?_)
   refine eP 4 21 #[I,I,I,I,I,O,O,O,O,O,O,O,O,O,O,O,O,O,O,O] aC bW hHeld (hy:=by(rintro w' ⟨s0,s1,s2⟩;go_simp;with_reducible rfl)) (h:=?_)
   refine bI 5 22 #[I,I,I,I,I,I,O,O,O,O,O,O,O,O,O,O,O,O,O,O] aC (h:=?_)
   refine bI 6 23 #[I,I,I,I,I,I,I,O,O,O,O,O,O,O,O,O,O,O,O,O] aC (h:=?_)
   refine bI 7 24 #[I,I,I,I,I,I,I,I,O,O,O,O,O,O,O,O,O,O,O,O] aC (h:=?_)
   refine eP 8 25 #[I,I,I,I,I,I,I,I,I,O,O,O,O,O,O,O,O,O,O,O] aC bW hHeld (hy:=by(rintro w' ⟨s0,s1,s2⟩;go_simp;with_reducible rfl)) (h:=?_)
   refine bI 9 26 #[I,I,I,I,I,I,I,I,I,I,O,O,O,O,O,O,O,O,O,O] aC (h:=?_)
   refine eP 10 27 #[I,I,I,I,I,I,I,I,I,I,I,O,O,O,O,O,O,O,O,O] aC bW hHeld (hy:=by(rintro w' ⟨s0,s1,s2⟩;go_simp;with_reducible rfl)) (h:=?_)
   refine bI 11 28 #[I,I,I,I,I,I,I,I,I,I,I,I,O,O,O,O,O,O,O,O] aC (h:=?_)
   refine eP 12 29 #[I,I,I,I,I,I,I,I,I,I,I,I,I,O,O,O,O,O,O,O] aC bW hHeld (hy:=by(rintro w' ⟨s0,s1,s2⟩;go_simp;with_reducible rfl)) (h:=?_)
   refine bI 13 30 #[I,I,I,I,I,I,I,I,I,I,I,I,I,I,O,O,O,O,O,O] aC (h:=?_)
   refine iC (i:=14) (N:=some 31) #[I,I,I,I,I,I,I,I,I,I,I,I,I,I,I,O,O,O,O,O] rfl rfl (aN aC.out (by kernel_rfl)) (by decide) (fun K hK=>?_)
   obtain⟨v1,st1,o1,o2,hm1,hm2,hm3⟩:=HJd.out.entry ha hb
   unfold oI at hm1
   have zG:=aa.mk hm2
   have YI:=aa.mk hm3
   clear hm2 hm3
   refine dV (w1:=wd.putObj (w.heap.size+1) o1) (v:= .tuple #[v1,(.int .i64 st1)]) (by rfl) rfl ?_ ?_
   .go_simp
   clear hm1
   refine hK.out _ _ ⟨(by simpa using (Cb.out.move (bL _ _ (by omega))).cell 4),(by simpa using (IP.out.move (bL _ _ (by omega))).cell 0),(by simpa using (IP.out.move (bL _ _ (by omega))).cell 1)⟩ (fun hHeld=>?_)
   clear hK K
   have BWe:=aa.mk (Cb.out.move (w':=wd.putObj (w.heap.size+1) o1) (bL _ _ (by omega)))
   have Q6:=aa.mk (IP.out.move (w':=wd.putObj (w.heap.size+1) o1) (bL _ _ (by omega)))
   have QP:=aa.mk (qV.out.grown (grownBy_putObj' wd (w.heap.size+1) o1) qV.out.size (fun k e=>by cases e;omega))
   have Vy:w.heap.size+1<(wd.putObj (w.heap.size+1) o1).heap.size:=by simpa using Vz
   have ZM:g5<(wd.putObj (w.heap.size+1) o1).heap.size:=by simpa using ZN
   have IE:=aa.mk (show(wd.putObj (w.heap.size+1) o1).heap[w.heap.size+1]?=some o1 from World.putObj_heap_same Vz)
   clear HJd Cb IP qV Vz ZN
   generalize wd.putObj (w.heap.size+1) o1=we at BWe Q6 QP Vy ZM IE hHeld ⊢
   refine bF (by simp only[Act.put,List.setIfInBounds_toArray,List.set_cons_zero,List.set_cons_succ];rfl) ?_
   refine bI 15 32 #[I,I,I,I,I,I,I,I,I,I,I,I,I,I,I,I,O,O,O,O] aC (h:=?_)
   refine iC (i:=16) (N:=none) #[I,I,I,I,I,I,I,I,I,I,I,I,I,I,I,I,I,O,O,O] rfl rfl (aN aC.out (by kernel_rfl)) (by decide) (fun K hK=>?_)
   have hm2:=zG.out _ IE.out
   refine ib (w1:=we.putObj (w.heap.size+1) o2) (by rfl) rfl ?_ ?_
   .go_simp
   clear hm2
   refine hK.out _ _ ⟨(by simpa using (BWe.out.move (bL _ _ (by omega))).cell 4),(by simpa using (Q6.out.move (bL _ _ (by omega))).cell 0),(by simpa using (Q6.out.move (bL _ _ (by omega))).cell 1)⟩ (fun hHeld=>?_)
   clear hK K
   have BWf:=aa.mk (BWe.out.move (w':=we.putObj (w.heap.size+1) o2) (bL _ _ (by omega)))
   have YV:=aa.mk (Q6.out.move (w':=we.putObj (w.heap.size+1) o2) (bL _ _ (by omega)))
   have xM:=aa.mk (QP.out.grown (grownBy_putObj' we (w.heap.size+1) o2) QP.out.size (fun k e=>by cases e;omega))
   have Vx:w.heap.size+1<(we.putObj (w.heap.size+1) o2).heap.size:=by simpa using Vy
   have ZL:g5<(we.putObj (w.heap.size+1) o2).heap.size:=by simpa using ZM
   have HJf:=aa.mk (YI.out _ (show(we.putObj (w.heap.size+1) o2).heap[w.heap.size+1]?=some o2 from World.putObj_heap_same Vy))
   clear BWe Q6 QP Vy ZM IE zG YI
   generalize we.putObj (w.heap.size+1) o2=wf at BWf YV xM Vx ZL HJf hHeld ⊢
   refine dW (i:=17) (N:=some 33) #[I,I,I,I,I,I,I,I,I,I,I,I,I,I,I,I,I,I,O,O] rfl rfl (aN aC.out (by kernel_rfl)) (by decide) (fun K hK=>?_)
   obtain⟨v2,st2,o3,o4,hm1,hm2,hm3⟩:=HJf.out.entry hb ha
   unfold oI at hm1
   have I5:=aa.mk hm2
   have HN2:=aa.mk hm3
   clear hm2 hm3
   refine dV (w1:=wf.putObj (w.heap.size+1) o3) (v:= .tuple #[v2,(.int .i64 st2)]) (by rfl) rfl ?_ ?_
   .go_simp
   clear hm1
   refine hK.out _ _ ?_
   clear hK K
   have BWg:=aa.mk (BWf.out.move (w':=wf.putObj (w.heap.size+1) o3) (bL _ _ (by omega)))
   have B5g:=aa.mk (YV.out.move (w':=wf.putObj (w.heap.size+1) o3) (bL _ _ (by omega)))
   have HBg:=aa.mk (xM.out.grown (grownBy_putObj' wf (w.heap.size+1) o3) xM.out.size (fun k e=>by cases e;omega))
   have Vw:w.heap.size+1<(wf.putObj (w.heap.size+1) o3).heap.size:=by simpa using Vx
   have ZK:g5<(wf.putObj (w.heap.size+1) o3).heap.size:=by simpa using ZL
   have QK:=aa.mk (show(wf.putObj (w.heap.size+1) o3).heap[w.heap.size+1]?=some o3 from World.putObj_heap_same Vx)
   clear HJf BWf YV xM Vx ZL
   generalize wf.putObj (w.heap.size+1) o3=wg at BWg B5g HBg Vw ZK QK ⊢
   refine bF (by simp only[Act.put,List.setIfInBounds_toArray,List.set_cons_zero,List.set_cons_succ];rfl) ?_
   refine bI 18 34 #[I,I,I,I,I,I,I,I,I,I,I,I,I,I,I,I,I,I,I,O] aC (h:=?_)
   refine dW (i:=19) (N:=none) #[I,I,I,I,I,I,I,I,I,I,I,I,I,I,I,I,I,I,I,I] rfl rfl (aN aC.out (by kernel_rfl)) (by decide) (fun K hK=>?_)
   have hm2:=I5.out _ QK.out
   refine ib (w1:=wg.putObj (w.heap.size+1) o4) (by rfl) rfl ?_ ?_
   .go_simp
   clear hm2
   refine hK.out _ _ ?_
   clear hK K
   have BWh:=aa.mk (BWg.out.move (w':=wg.putObj (w.heap.size+1) o4) (bL _ _ (by omega)))
   have B5h:=aa.mk (B5g.out.move (w':=wg.putObj (w.heap.size+1) o4) (bL _ _ (by omega)))
   have HBh:=aa.mk (HBg.out.grown (grownBy_putObj' wg (w.heap.size+1) o4) HBg.out.size (fun k e=>by cases e;omega))
   have ajp:w.heap.size+1<(wg.putObj (w.heap.size+1) o4).heap.size:=by simpa using Vw
   have ai8:g5<(wg.putObj (w.heap.size+1) o4).heap.size:=by simpa using ZK
   have HJh:=aa.mk (HN2.out _ (show(wg.putObj (w.heap.size+1) o4).heap[w.heap.size+1]?=some o4 from World.putObj_heap_same Vw))
   clear BWg B5g HBg Vw ZK QK I5 HN2
   generalize wg.putObj (w.heap.size+1) o4=wh at BWh B5h HBh ajp ai8 HJh ⊢
   refine fF (bQ aC.out (by kernel_rfl)) ?_
   go_wp2_with fail
   go_roundw
   case rel=>exact⟨k+1,by omega,by go_num,HBh,BWh,⟨by rw[HTK.out];exact HJh.out.congr (fun x y _ _=>(Vb _ a b x y).symm)⟩⟩
   case measure=>simp[intOf];omega
  .obtain rfl:k=js.length:=by omega
   rw[List.take_length] at HJ
   go_wp2_with fail
   go_ret
   exact⟨rfl,⟨BW.out,HJ.out⟩,HB.out⟩
end Go.Proofs.YtkjoilgpmngndaaGreat
