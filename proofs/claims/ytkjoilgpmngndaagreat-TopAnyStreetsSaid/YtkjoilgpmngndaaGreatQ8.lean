import Derived.Laws.EntriesVeiled
import Derived.LoopIn
import Derived.LoopNIn
import Derived.OwnWalkIn
import Derived.RangeFuncBound
import Derived.RangeFuncCalls
import Derived.RangeFuncLeaves
import Derived.RangeFuncNested
import Derived.Shelf.Abstract
import Derived.Shelf.RegionOpen
import Derived.TacticsInMore
import Derived.Test.YtkjoilgpmngndaaGreatQ7
set_option linter.all false
namespace Go.Proofs.YtkjoilgpmngndaaGreat
open Go.RowKit Go.Shelf Go.Proofs.YtkjoilgpmngndaaGreat.av Go.Proofs.YtkjoilgpmngndaaGreatW.aA Go.Proofs.YtkjoilgpmngndaaGreatW.aJ
def BG(g:Nat)(args:Array Value)(b:Bool)(w:World):Prop:=
 ∀(W:World),Below w.heap.size w W->Calls Tryz.prog g args W fun e w'=>e= .returned (.bool b)/\Below W.heap.size W w'
theorem BG.later{g:Nat}{args:Array Value}{b:Bool}{w W:World}(h:BG g args b w)(hb:Below w.heap.size w W):BG g args b W:=
 fun W' hb'=>h W' (hb.trans (hb'.mono hb.size))
def fi{α:Type}(p:α->Bool):List α->Nat->Int
 |[],_=> -1
 |x::xs,i=>if p x then(i:Int) else fi p xs (i+1)
theorem kS{α:Type}(p:α->Bool)(xs:List α)(i:Nat):decide (0<=fi p xs i)=xs.any p:=by
 induction xs generalizing i with
 |nil=>simp[fi]
 |cons x xs ih=>
  unfold fi
  by_cases h:p x=true
  .simp[h]
  .simp[h,ih]
theorem getD_drop{α:Type}(xs:List α)(k:Nat)(d:α)(h:k<xs.length):xs.drop k=xs.getD k d::xs.drop (k+1):=by
 rw[List.drop_eq_getElem_cons h]
 simp[List.getD,h]
theorem nH{α:Type}(p:α->Bool)(xs:List α)(k:Nat)(d:α)(h:k<xs.length):fi p (xs.drop k) k=if p (xs.getD k d) then(k:Int) else fi p (xs.drop (k+1)) (k+1):=by
 rw[getD_drop xs k d h]
 rfl
theorem bR{w a b:World}(h:Below w.heap.size w a)(k:Below a.heap.size a b):Below w.heap.size w b:=h.trans (k.mono h.size)
theorem bP{a b:Bool}(h:a=b):Ending.returned (.bool a)= .returned (.bool b):=by rw[h]
theorem fO{k:IntKind}{a b:Int}(h:a=b):Ending.returned (.int k a)= .returned (.int k b):=by rw[h]
theorem enters {g:Nat} {fn:Func} {c:Code} (hf:Tryz.prog.funcs[g]?=some fn) (hname:(fn.name== "runtime.NumGoroutine")=false) (hb:fn.body=some c):
  ∀args w,(callFunc g args).run Tryz.prog w= .ok (.enter g args) w:=by
 intro args w
 have h1:fn.name≠ "runtime.NumGoroutine" :=by simpa using hname
 simp[callFunc,hf,h1,hb,mark]
def aG(xs:List bH)(k:Nat):bH:=fI xs (k:Int)
def iA(xs:List bS)(k:Nat):bS:=qw xs (k:Int)
def dE(xs:List Int)(k:Nat):Int:=rd xs (k:Int)
def nZ(x:bH):Value:= .agg #[.int .i64 x.f0,.int .i64 x.f1,.int .i64 x.f2,.int .i64 x.f3.f0,.int .i64 x.f3.f1]
def jZ(g:Nat)(first cap:Array Value)(p:bH->Bool)(w:World):Prop:=
 ∀(W:World) (x:bH),Below w.heap.size w W->Calls Tryz.prog g (first.push (nZ x)++cap) W fun e w'=>e= .returned (.bool (p x))/\Below W.heap.size W w'
theorem jZ.later{g:Nat}{first cap:Array Value}{p:bH->Bool}{w W:World}(h:jZ g first cap p w)(hb:Below w.heap.size w W):jZ g first cap p W:=
 fun W' x hb'=>h W' x (hb.trans (hb'.mono hb.size))
set_option maxHeartbeats 1000000 in
theorem DY(g:Nat)(cap:Array Value)(hg:∀args w,(callFunc g args).run Tryz.prog w= .ok (.enter g args) w)(p:bH->Bool)(A:Option Addr)(c:Nat)(xs:List bH)(w:World)
  (hr:Kd.C uB w A xs.length xs) (hlen:xs.length<=9223372036854775807) (hp:jZ g #[] cap p w):
  Calls Tryz.prog 156 #[.slice A xs.length c,.func (.func g) #[] cap] w fun e w'=>e= .returned (.int .i64 (fi p xs 0))/\Below w.heap.size w w':=by
 have HR:=aa.mk hr
 have HP:=aa.mk hp
 clear hr hp
 go_enter Tryz.func156,Tryz.ntmps156
 go_wp2
 go_loopw [8] (fun v wr=>∃k:Nat,k<=xs.length/\v= .int .i64 k/\aa (Below w.heap.size w wr)/\aa (fi p xs 0=fi p (xs.drop k) k)) (fun v _=>xs.length-(intOf v).toNat)
 case atStart=>exact⟨0,Nat.zero_le _,rfl,⟨Below.refl _ _⟩,⟨rfl⟩⟩
 case round=>
  obtain⟨k,hk,rfl,HB,HF⟩:=hrel
  by_cases hlt:k<xs.length
  .obtain⟨ad,e,h0,h1,h2,h3,h4⟩:=qO HR.out k (by omega) (by omega)
   cases e
   have hb:=HB.out
   replace h0:=(hb.cell (World.block_lt_of_cell? w _ h0)).trans h0
   replace h1:=(hb.cell (World.block_lt_of_cell? w _ h1)).trans h1
   replace h2:=(hb.cell (World.block_lt_of_cell? w _ h2)).trans h2
   replace h3:=(hb.cell (World.block_lt_of_cell? w _ h3)).trans h3
   replace h4:=(hb.cell (World.block_lt_of_cell? w _ h4)).trans h4
   simp only[Int.toNat_natCast] at h0 h1 h2 h3 h4
   clear hb HR
   go_wp2_with fail
   have hc:=HP.out wr (aG xs k) HB.out
   simp only[nZ,aG,List.push_toArray,List.nil_append] at hc
   have hfs:=aa.mk (nH p xs k z105 hlt)
   rw[show xs.getD k z105=aG xs k from by simp[aG,fI,Int.toNat_natCast]] at hfs
   have HX:aa (∃y,y=aG xs k):=⟨⟨_,rfl⟩⟩
   refine(hc).mono ?_
   rintro e w' ⟨rfl,hb'⟩
   have xN:=aa.mk (bR HB.out hb')
   clear hb' h0 h1 h2 h3 h4 hc HB
   cases hpx:p (aG xs k)
   .simp only[aG] at hpx
    have oD:=aa.mk hpx
    clear hpx
    simp only[oD.out]
    go_wp2
    go_roundw
    case rel=>exact⟨k+1,by omega,by go_num,xN,⟨by rw[HF.out,hfs.out,if_neg (by simp[aG,oD.out])]⟩⟩
    case measure=>simp[intOf];omega
   .simp only[aG] at hpx
    have oD:=aa.mk hpx
    clear hpx
    simp only[oD.out]
    go_wp2
    go_ret
    exact⟨fO (by rw[HF.out,hfs.out,if_pos (by simp[aG,oD.out])]),xN.out⟩
  .have hk':k=xs.length:=by omega
   subst hk'
   go_wp2
   go_ret
   exact⟨fO (by rw[HF.out,List.drop_length];rfl),HB.out⟩
theorem zh(g:Nat)(cap:Array Value)(hg:∀args w,(callFunc g args).run Tryz.prog w= .ok (.enter g args) w)(p:bH->Bool)(A:Option Addr)(c:Nat)(xs:List bH)(w:World)
  (hr:Kd.C uB w A xs.length xs) (hlen:xs.length<=9223372036854775807) (hp:jZ g #[] cap p w):
  Calls Tryz.prog 122 #[.slice A xs.length c,.func (.func g) #[] cap] w fun e w'=>e= .returned (.bool (xs.any p))/\Below w.heap.size w w':=by
 go_enter Tryz.func122,Tryz.ntmps122
 go_wp2_with fail
 refine(DY g cap hg p A c xs w hr hlen hp).mono ?_
 rintro e w' ⟨rfl,hb⟩
 obtain⟨j,hj⟩:∃j,fi p xs 0=j:=⟨_,rfl⟩
 have hn:=aa.mk (kS p xs 0)
 rw[hj] at hn ⊢
 clear hj
 go_wp2
 go_ret
 exact⟨bP (by rw[<- hn.out]),hb⟩
theorem KN(g:Nat)(first cap:Array Value)(hg:∀args w,(callFunc g args).run Tryz.prog w= .ok (.enter g args) w)(p:bH->Bool)(x:bH)(gp:Nat)(w:World)
  (hc:w.cell? ⟨gp,0,none⟩=some (.func (.func g) first cap)) (hp:jZ g first cap p w):
  Calls Tryz.prog 123 ((#[]:Array Value).push (nZ x)++#[.pointer (some ⟨gp,0,none⟩)]) w fun e w'=>e= .returned (.bool (!p x))/\Below w.heap.size w w':=by
 simp only[Array.empty_append,List.push_toArray,List.append_toArray,List.nil_append,List.cons_append,nZ]
 have Ow:gp<w.heap.size:=World.block_lt_of_cell? w _ hc
 have HP:=aa.mk hp
 clear hp
 go_enter Tryz.func123,Tryz.ntmps123
 go_wp2_with fail
 have hc:=HP.out _ x ((Below.refl w.heap.size w).alloc (Nat.le_refl _) (.cells #[.int .i64 x.f0,.int .i64 x.f1,.int .i64 x.f2,.int .i64 x.f3.f0,.int .i64 x.f3.f1] 105))
 simp only[nZ] at hc
 refine hc.mono ?_
 rintro e w' ⟨rfl,hb⟩
 obtain⟨b,hb1⟩:∃b,p x=b:=⟨_,rfl⟩
 rw[hb1]
 go_wp2
 go_ret
 exact⟨bP (by rw[hb1]),bR ((Below.refl w.heap.size w).alloc (Nat.le_refl _) (.cells #[.int .i64 x.f0,.int .i64 x.f1,.int .i64 x.f2,.int .i64 x.f3.f0,.int .i64 x.f3.f1] 105)) hb⟩
theorem Nu(g:Nat)(first cap:Array Value)(hg:∀args w,(callFunc g args).run Tryz.prog w= .ok (.enter g args) w)(p:bH->Bool)(A:Option Addr)(c:Nat)(xs:List bH)(w:World)
  (hr:Kd.C uB w A xs.length xs) (hlen:xs.length<=9223372036854775807) (hp:jZ g first cap p w):
  Calls Tryz.prog 91 #[.slice A xs.length c,.func (.func g) first cap] w fun e w'=>e= .returned (.bool (xs.all p))/\Below w.heap.size w w':=by
 go_enter Tryz.func91,Tryz.ntmps91
 have HR:=aa.mk hr
 have HP:=aa.mk hp
 clear hr hp
 go_wp2_with fail
 have hB:Below w.heap.size w (w.alloc (.cells #[.func (.func g) first cap] 190)):=(Below.refl _ _).alloc (Nat.le_refl _) _
 refine(zh 123 #[.pointer (some ⟨w.heap.size,0,none⟩)] (enters Tryz.func123 (by kernel_rfl) rfl) (fun x=>!p x) A c xs _ (Kd.aK HR.out hB) hlen ?_).mono ?_
 .intro W x hW
  refine KN g first cap hg p x w.heap.size W ?_ (HP.out.later (hB.trans (hW.mono hB.size)))
  rw[hW.cell (p:=⟨w.heap.size,0,none⟩) (by simp)]
  simp
 rintro e w' ⟨rfl,hb⟩
 have hn:=aa.mk (List.any_eq_not_all_not (l:=xs) (p:=fun x=>!p x))
 obtain⟨j,hj⟩:∃j,(xs.any fun x=>!p x)=j:=⟨_,rfl⟩
 rw[hj] at hn ⊢
 clear hj
 go_wp2
 go_ret
 exact⟨bP (by rw[hn.out];simp),bR hB hb⟩
def rR(x:bS):Value:= .agg #[.int .i64 x.f0,.int .i64 x.f1]
def mq(g:Nat)(first cap:Array Value)(p:bS->Bool)(w:World):Prop:=
 ∀(W:World) (x:bS),Below w.heap.size w W->Calls Tryz.prog g (first.push (rR x)++cap) W fun e w'=>e= .returned (.bool (p x))/\Below W.heap.size W w'
theorem mq.later{g:Nat}{first cap:Array Value}{p:bS->Bool}{w W:World}(h:mq g first cap p w)(hb:Below w.heap.size w W):mq g first cap p W:=
 fun W' x hb'=>h W' x (hb.trans (hb'.mono hb.size))
set_option maxHeartbeats 1000000 in
theorem MW(g:Nat)(cap:Array Value)(hg:∀args w,(callFunc g args).run Tryz.prog w= .ok (.enter g args) w)(p:bS->Bool)(A:Option Addr)(c:Nat)(xs:List bS)(w:World)
  (hr:Kd.C Cv w A xs.length xs) (hlen:xs.length<=9223372036854775807) (hp:mq g #[] cap p w):
  Calls Tryz.prog 157 #[.slice A xs.length c,.func (.func g) #[] cap] w fun e w'=>e= .returned (.int .i64 (fi p xs 0))/\Below w.heap.size w w':=by
 have HR:=aa.mk hr
 have HP:=aa.mk hp
 clear hr hp
 go_enter Tryz.func157,Tryz.ntmps157
 go_wp2
 go_loopw [8] (fun v wr=>∃k:Nat,k<=xs.length/\v= .int .i64 k/\aa (Below w.heap.size w wr)/\aa (fi p xs 0=fi p (xs.drop k) k)) (fun v _=>xs.length-(intOf v).toNat)
 case atStart=>exact⟨0,Nat.zero_le _,rfl,⟨Below.refl _ _⟩,⟨rfl⟩⟩
 case round=>
  obtain⟨k,hk,rfl,HB,HF⟩:=hrel
  by_cases hlt:k<xs.length
  .obtain⟨ad,e,h0,h1⟩:=OQ HR.out k (by omega) (by omega)
   cases e
   have hb:=HB.out
   replace h0:=(hb.cell (World.block_lt_of_cell? w _ h0)).trans h0
   replace h1:=(hb.cell (World.block_lt_of_cell? w _ h1)).trans h1
   simp only[Int.toNat_natCast] at h0 h1
   clear hb HR
   go_wp2_with fail
   have hc:=HP.out wr (iA xs k) HB.out
   simp only[rR,iA,List.push_toArray,List.nil_append] at hc
   have hfs:=aa.mk (nH p xs k UJ hlt)
   rw[show xs.getD k UJ=iA xs k from by simp[iA,qw,Int.toNat_natCast]] at hfs
   have HX:aa (∃y,y=iA xs k):=⟨⟨_,rfl⟩⟩
   refine(hc).mono ?_
   rintro e w' ⟨rfl,hb'⟩
   have xN:=aa.mk (bR HB.out hb')
   clear hb' h0 h1 hc HB
   cases hpx:p (iA xs k)
   .simp only[iA] at hpx
    have oD:=aa.mk hpx
    clear hpx
    simp only[oD.out]
    go_wp2
    go_roundw
    case rel=>exact⟨k+1,by omega,by go_num,xN,⟨by rw[HF.out,hfs.out,if_neg (by simp[iA,oD.out])]⟩⟩
    case measure=>simp[intOf];omega
   .simp only[iA] at hpx
    have oD:=aa.mk hpx
    clear hpx
    simp only[oD.out]
    go_wp2
    go_ret
    exact⟨fO (by rw[HF.out,hfs.out,if_pos (by simp[iA,oD.out])]),xN.out⟩
  .have hk':k=xs.length:=by omega
   subst hk'
   go_wp2
   go_ret
   exact⟨fO (by rw[HF.out,List.drop_length];rfl),HB.out⟩
theorem CF(g:Nat)(cap:Array Value)(hg:∀args w,(callFunc g args).run Tryz.prog w= .ok (.enter g args) w)(p:bS->Bool)(A:Option Addr)(c:Nat)(xs:List bS)(w:World)
  (hr:Kd.C Cv w A xs.length xs) (hlen:xs.length<=9223372036854775807) (hp:mq g #[] cap p w):
  Calls Tryz.prog 124 #[.slice A xs.length c,.func (.func g) #[] cap] w fun e w'=>e= .returned (.bool (xs.any p))/\Below w.heap.size w w':=by
 go_enter Tryz.func124,Tryz.ntmps124
 go_wp2_with fail
 refine(MW g cap hg p A c xs w hr hlen hp).mono ?_
 rintro e w' ⟨rfl,hb⟩
 obtain⟨j,hj⟩:∃j,fi p xs 0=j:=⟨_,rfl⟩
 have hn:=aa.mk (kS p xs 0)
 rw[hj] at hn ⊢
 clear hj
 go_wp2
 go_ret
 exact⟨bP (by rw[<- hn.out]),hb⟩
theorem QC(g:Nat)(first cap:Array Value)(hg:∀args w,(callFunc g args).run Tryz.prog w= .ok (.enter g args) w)(p:bS->Bool)(x:bS)(gp:Nat)(w:World)
  (hc:w.cell? ⟨gp,0,none⟩=some (.func (.func g) first cap)) (hp:mq g first cap p w):
  Calls Tryz.prog 125 ((#[]:Array Value).push (rR x)++#[.pointer (some ⟨gp,0,none⟩)]) w fun e w'=>e= .returned (.bool (!p x))/\Below w.heap.size w w':=by
 simp only[Array.empty_append,List.push_toArray,List.append_toArray,List.nil_append,List.cons_append,rR]
 have Ow:gp<w.heap.size:=World.block_lt_of_cell? w _ hc
 have HP:=aa.mk hp
 clear hp
 go_enter Tryz.func125,Tryz.ntmps125
 go_wp2_with fail
 have hc:=HP.out _ x ((Below.refl w.heap.size w).alloc (Nat.le_refl _) (.cells #[.int .i64 x.f0,.int .i64 x.f1] 115))
 simp only[rR] at hc
 refine hc.mono ?_
 rintro e w' ⟨rfl,hb⟩
 obtain⟨b,hb1⟩:∃b,p x=b:=⟨_,rfl⟩
 rw[hb1]
 go_wp2
 go_ret
 exact⟨bP (by rw[hb1]),bR ((Below.refl w.heap.size w).alloc (Nat.le_refl _) (.cells #[.int .i64 x.f0,.int .i64 x.f1] 115)) hb⟩
theorem TB(g:Nat)(first cap:Array Value)(hg:∀args w,(callFunc g args).run Tryz.prog w= .ok (.enter g args) w)(p:bS->Bool)(A:Option Addr)(c:Nat)(xs:List bS)(w:World)
  (hr:Kd.C Cv w A xs.length xs) (hlen:xs.length<=9223372036854775807) (hp:mq g first cap p w):
  Calls Tryz.prog 93 #[.slice A xs.length c,.func (.func g) first cap] w fun e w'=>e= .returned (.bool (xs.all p))/\Below w.heap.size w w':=by
 go_enter Tryz.func93,Tryz.ntmps93
 have HR:=aa.mk hr
 have HP:=aa.mk hp
 clear hr hp
 go_wp2_with fail
 have hB:Below w.heap.size w (w.alloc (.cells #[.func (.func g) first cap] 191)):=(Below.refl _ _).alloc (Nat.le_refl _) _
 refine(CF 125 #[.pointer (some ⟨w.heap.size,0,none⟩)] (enters Tryz.func125 (by kernel_rfl) rfl) (fun x=>!p x) A c xs _ (Kd.aK HR.out hB) hlen ?_).mono ?_
 .intro W x hW
  refine QC g first cap hg p x w.heap.size W ?_ (HP.out.later (hB.trans (hW.mono hB.size)))
  rw[hW.cell (p:=⟨w.heap.size,0,none⟩) (by simp)]
  simp
 rintro e w' ⟨rfl,hb⟩
 have hn:=aa.mk (List.any_eq_not_all_not (l:=xs) (p:=fun x=>!p x))
 obtain⟨j,hj⟩:∃j,(xs.any fun x=>!p x)=j:=⟨_,rfl⟩
 rw[hj] at hn ⊢
 clear hj
 go_wp2
 go_ret
 exact⟨bP (by rw[hn.out];simp),bR hB hb⟩
def jO(x:Int):Value:= .int .i64 x
def gQ(g:Nat)(first cap:Array Value)(p:Int->Bool)(w:World):Prop:=
 ∀(W:World) (x:Int),Below w.heap.size w W->Calls Tryz.prog g (first.push (jO x)++cap) W fun e w'=>e= .returned (.bool (p x))/\Below W.heap.size W w'
theorem gQ.later{g:Nat}{first cap:Array Value}{p:Int->Bool}{w W:World}(h:gQ g first cap p w)(hb:Below w.heap.size w W):gQ g first cap p W:=
 fun W' x hb'=>h W' x (hb.trans (hb'.mono hb.size))
set_option maxHeartbeats 1000000 in
theorem yg(g:Nat)(cap:Array Value)(hg:∀args w,(callFunc g args).run Tryz.prog w= .ok (.enter g args) w)(p:Int->Bool)(A:Option Addr)(c:Nat)(xs:List Int)(w:World)
  (hr:Kd.C (Kd.int .i64) w A xs.length xs) (hlen:xs.length<=9223372036854775807) (hp:gQ g #[] cap p w):
  Calls Tryz.prog 131 #[.slice A xs.length c,.func (.func g) #[] cap] w fun e w'=>e= .returned (.int .i64 (fi p xs 0))/\Below w.heap.size w w':=by
 have HR:=aa.mk hr
 have HP:=aa.mk hp
 clear hr hp
 go_enter Tryz.func131,Tryz.ntmps131
 go_wp2
 go_loopw [8] (fun v wr=>∃k:Nat,k<=xs.length/\v= .int .i64 k/\aa (Below w.heap.size w wr)/\aa (fi p xs 0=fi p (xs.drop k) k)) (fun v _=>xs.length-(intOf v).toNat)
 case atStart=>exact⟨0,Nat.zero_le _,rfl,⟨Below.refl _ _⟩,⟨rfl⟩⟩
 case round=>
  obtain⟨k,hk,rfl,HB,HF⟩:=hrel
  by_cases hlt:k<xs.length
  .obtain⟨ad,e,h0⟩:=Kd.dz HR.out k (by omega) (by omega)
   cases e
   have hb:=HB.out
   replace h0:=(hb.cell (World.block_lt_of_cell? w _ h0)).trans h0
   simp only[Int.toNat_natCast] at h0
   clear hb HR
   go_wp2_with fail
   have hc:=HP.out wr (dE xs k) HB.out
   simp only[jO,dE,List.push_toArray,List.nil_append] at hc
   have hfs:=aa.mk (nH p xs k 0 hlt)
   rw[show xs.getD k 0=dE xs k from by simp[dE,rd,Int.toNat_natCast]] at hfs
   have HX:aa (∃y,y=dE xs k):=⟨⟨_,rfl⟩⟩
   refine(hc).mono ?_
   rintro e w' ⟨rfl,hb'⟩
   have xN:=aa.mk (bR HB.out hb')
   clear hb' h0 hc HB
   cases hpx:p (dE xs k)
   .simp only[dE] at hpx
    have oD:=aa.mk hpx
    clear hpx
    simp only[oD.out]
    go_wp2
    go_roundw
    case rel=>exact⟨k+1,by omega,by go_num,xN,⟨by rw[HF.out,hfs.out,if_neg (by simp[dE,oD.out])]⟩⟩
    case measure=>simp[intOf];omega
   .simp only[dE] at hpx
    have oD:=aa.mk hpx
    clear hpx
    simp only[oD.out]
    go_wp2
    go_ret
    exact⟨fO (by rw[HF.out,hfs.out,if_pos (by simp[dE,oD.out])]),xN.out⟩
  .have hk':k=xs.length:=by omega
   subst hk'
   go_wp2
   go_ret
   exact⟨fO (by rw[HF.out,List.drop_length];rfl),HB.out⟩
theorem nI(g:Nat)(cap:Array Value)(hg:∀args w,(callFunc g args).run Tryz.prog w= .ok (.enter g args) w)(p:Int->Bool)(A:Option Addr)(c:Nat)(xs:List Int)(w:World)
  (hr:Kd.C (Kd.int .i64) w A xs.length xs) (hlen:xs.length<=9223372036854775807) (hp:gQ g #[] cap p w):
  Calls Tryz.prog 103 #[.slice A xs.length c,.func (.func g) #[] cap] w fun e w'=>e= .returned (.bool (xs.any p))/\Below w.heap.size w w':=by
 go_enter Tryz.func103,Tryz.ntmps103
 go_wp2_with fail
 refine(yg g cap hg p A c xs w hr hlen hp).mono ?_
 rintro e w' ⟨rfl,hb⟩
 obtain⟨j,hj⟩:∃j,fi p xs 0=j:=⟨_,rfl⟩
 have hn:=aa.mk (kS p xs 0)
 rw[hj] at hn ⊢
 clear hj
 go_wp2
 go_ret
 exact⟨bP (by rw[<- hn.out]),hb⟩
theorem Bj(g:Nat)(first cap:Array Value)(hg:∀args w,(callFunc g args).run Tryz.prog w= .ok (.enter g args) w)(p:Int->Bool)(x:Int)(gp:Nat)(w:World)
  (hc:w.cell? ⟨gp,0,none⟩=some (.func (.func g) first cap)) (hp:gQ g first cap p w):
  Calls Tryz.prog 121 ((#[]:Array Value).push (jO x)++#[.pointer (some ⟨gp,0,none⟩)]) w fun e w'=>e= .returned (.bool (!p x))/\Below w.heap.size w w':=by
 simp only[Array.empty_append,List.push_toArray,List.append_toArray,List.nil_append,List.cons_append,jO]
 have Ow:gp<w.heap.size:=World.block_lt_of_cell? w _ hc
 have HP:=aa.mk hp
 clear hp
 go_enter Tryz.func121,Tryz.ntmps121
 go_wp2_with fail
 have hc:=HP.out _ x (Below.refl _ _)
 simp only[jO] at hc
 refine hc.mono ?_
 rintro e w' ⟨rfl,hb⟩
 obtain⟨b,hb1⟩:∃b,p x=b:=⟨_,rfl⟩
 rw[hb1]
 go_wp2
 go_ret
 exact⟨bP (by rw[hb1]),bR (Below.refl _ _) hb⟩
theorem Iw(g:Nat)(first cap:Array Value)(hg:∀args w,(callFunc g args).run Tryz.prog w= .ok (.enter g args) w)(p:Int->Bool)(A:Option Addr)(c:Nat)(xs:List Int)(w:World)
  (hr:Kd.C (Kd.int .i64) w A xs.length xs) (hlen:xs.length<=9223372036854775807) (hp:gQ g first cap p w):
  Calls Tryz.prog 89 #[.slice A xs.length c,.func (.func g) first cap] w fun e w'=>e= .returned (.bool (xs.all p))/\Below w.heap.size w w':=by
 go_enter Tryz.func89,Tryz.ntmps89
 have HR:=aa.mk hr
 have HP:=aa.mk hp
 clear hr hp
 go_wp2_with fail
 have hB:Below w.heap.size w (w.alloc (.cells #[.func (.func g) first cap] 118)):=(Below.refl _ _).alloc (Nat.le_refl _) _
 refine(nI 121 #[.pointer (some ⟨w.heap.size,0,none⟩)] (enters Tryz.func121 (by kernel_rfl) rfl) (fun x=>!p x) A c xs _ (Kd.aK HR.out hB) hlen ?_).mono ?_
 .intro W x hW
  refine Bj g first cap hg p x w.heap.size W ?_ (HP.out.later (hB.trans (hW.mono hB.size)))
  rw[hW.cell (p:=⟨w.heap.size,0,none⟩) (by simp)]
  simp
 rintro e w' ⟨rfl,hb⟩
 have hn:=aa.mk (List.any_eq_not_all_not (l:=xs) (p:=fun x=>!p x))
 obtain⟨j,hj⟩:∃j,(xs.any fun x=>!p x)=j:=⟨_,rfl⟩
 rw[hj] at hn ⊢
 clear hj
 go_wp2
 go_ret
 exact⟨bP (by rw[hn.out];simp),bR hB hb⟩
def aR(w:World)(g:Nat)(cs:List Value)(t:TypeId):Prop:=w.heap[g]?=some (.cells cs.toArray t (0,0))
theorem aR.below{w w1:World}{g:Nat}{cs:List Value}{t:TypeId}(h:aR w g cs t)(hb:Below w.heap.size w w1):aR w1 g cs t:=gZ h hb
theorem aR.cell{w:World}{g:Nat}{cs:List Value}{t:TypeId}(h:aR w g cs t)(i:Nat):w.cell? ⟨g,i,none⟩=cs[i]?:=(ak h i).trans (by simp)
theorem aR.frozen{w:World}{g:Nat}{cs:List Value}{t:TypeId}(h:aR w g cs t)(i:Nat):w.frozen? ⟨g,i,none⟩=false:=ag h i
theorem aR.lt{w:World}{g:Nat}{cs:List Value}{t:TypeId}(h:aR w g cs t):g<w.heap.size:=fQ h
theorem aR.new(w:World)(cs:List Value)(t:TypeId):aR (w.alloc (.cells cs.toArray t)) w.heap.size cs t:=heap_alloc_new w _
theorem aR.alloc{w:World}{g:Nat}{cs:List Value}{t:TypeId}(h:aR w g cs t)(o:Obj):aR (w.alloc o) g cs t:=aQ h o
structure bq(n₀:Nat)(S:Nat->Prop)(w w':World):Prop where
 os:w'.os=w.os
 tape:w'.tape=w.tape
 output:w'.output=w.output
 size:w.heap.size<=w'.heap.size
 block:∀k,k<n₀->¬S k->w'.heap[k]?=w.heap[k]?
theorem bq.refl(n₀:Nat)(S:Nat->Prop)(w:World):bq n₀ S w w:=⟨rfl,rfl,rfl,Nat.le_refl _,fun _ _ _=>rfl⟩
theorem bq.trans{n₀:Nat}{S:Nat->Prop}{a b c:World}(h:bq n₀ S a b)(k:bq n₀ S b c):bq n₀ S a c:=
 ⟨k.os.trans h.os,k.tape.trans h.tape,k.output.trans h.output,Nat.le_trans h.size k.size,fun i hi hs=>(k.block i hi hs).trans (h.block i hi hs)⟩
theorem bq.of_below{n₀ B:Nat}{S:Nat->Prop}{a b:World}(h:Below B a b)(hB:n₀<=B):bq n₀ S a b:=⟨h.os,h.tape,h.output,h.size,fun k hk _=>h.block k (by omega)⟩
theorem bq.mono{n₀ n₁:Nat}{S T:Nat->Prop}{a b:World}(h:bq n₀ S a b)(hn:n₁<=n₀)(hS:∀k,k<n₁->S k->T k):bq n₁ T a b:=⟨h.os,h.tape,h.output,h.size,fun k hk hs=>h.block k (by omega) (fun x=>hs (hS k hk x))⟩
theorem bq.alloc{n₀:Nat}{S:Nat->Prop}{a b:World}(h:bq n₀ S a b)(hB:n₀<=b.heap.size)(o:Obj):bq n₀ S a (b.alloc o):=
 h.trans (bq.of_below ((Below.refl b.heap.size b).alloc (Nat.le_refl _) o) hB)
theorem bq.setCell{n₀:Nat}{S:Nat->Prop}{a b:World}(h:bq n₀ S a b){p:Addr}(hp:S p.block\/n₀<=p.block)(u:Value):bq n₀ S a (b.setCell p u):=
 h.trans ⟨rfl,rfl,rfl,by simp[World.setCell],fun k hk hs=>Below.heap_setCell _ _ _ _ (by
  rintro rfl
  rcases hp with hp|hp
  .exact hs hp
  .omega)⟩
theorem bq.drewN{n₀:Nat}{S:Nat->Prop}{a b:World}(h:bq n₀ S a b)(n:Nat):bq n₀ S a (b.drewN n):=⟨h.os,h.tape,h.output,h.size,h.block⟩
theorem bq.drew{n₀:Nat}{S:Nat->Prop}{a b:World}(h:bq n₀ S a b):bq n₀ S a b.drew:=⟨h.os,h.tape,h.output,h.size,h.block⟩
theorem bq.put{n₀:Nat}{S:Nat->Prop}{a b:World}(h:bq n₀ S a b){l:Nat}(hl:S l\/n₀<=l)(o:Obj):bq n₀ S a (b.putObj l o):=
 h.trans ⟨rfl,rfl,rfl,by simp[World.putObj],fun k hk hs=>World.putObj_heap_other (by
  rintro rfl
  rcases hl with hl|hl
  .exact hs hl
  .omega)⟩
theorem bq.cell{n₀:Nat}{S:Nat->Prop}{w w':World}(h:bq n₀ S w w'){p:Addr}(hp:p.block<n₀)(hs:¬S p.block):w'.cell? p=w.cell? p:=World.cell?_of_block (w:=w) (h.block p.block hp hs)
theorem bq.frozen{n₀:Nat}{S:Nat->Prop}{w w':World}(h:bq n₀ S w w'){p:Addr}(hp:p.block<n₀)(hs:¬S p.block):w'.frozen? p=w.frozen? p:=World.frozen?_of_block (w:=w) (h.block p.block hp hs)
theorem zo{n₀:Nat}{S:Nat->Prop}{w:World}(hn:n₀<=w.heap.size)(W:World)(l:Nat)(o o':Obj)(hl:w.heap.size<=l)(h:W.heap[l]?=some o)(_:o.isCells=false)(_:o.isWalk=false):bq n₀ S W (W.putObj l o'):=
 bq.of_below ((Below.refl n₀ W).grown (grownBy_putObj' W l o') (by have:=(Array.getElem?_eq_some_iff.1 h).1;omega) (fun k e=>by cases e;omega)) (Nat.le_refl _)
theorem aR.move{w w':World}{g:Nat}{cs:List Value}{t:TypeId}(h:aR w g cs t)(e:w'.heap[g]?=w.heap[g]?):aR w' g cs t:=e.trans h
theorem aR.set2{w:World}{g:Nat}{a b:Value}{t:TypeId}(h:aR w g [a,b] t)(u v:Value):aR ((w.setCell ⟨g,0,none⟩ u).setCell ⟨g,1,none⟩ v) g [u,v] t:=by
 have:=bM (bM h 0 u) 1 v
 exact this
theorem LV(l:List Int)(k:Nat)(h:k<l.length):rd l (k:Int)=l[k]:=by simp[rd,List.getD,h]
theorem wrap_small{a:Int}(h0:0<=a)(h1:a<1000000000):wrap64 a=a:=by unfold wrap64;omega
theorem iN{α:Type}{d:Kd α}{e:Nat}{w:World}{base:Nat}{ok:Nat->Prop}{v:Value}{xs:List α}(h:d.R e w base ok v xs):∃A n c,v= .slice A n c:=by
 obtain⟨a_,b_,e_,_,_⟩:=Kd.dU h
 exact⟨_,_,_,e_⟩
theorem size_set(w:World)(p:Addr)(u:Value):(w.setCell p u).heap.size=w.heap.size:=by simp[World.setCell]
theorem size_alloc(w:World)(o:Obj):w.heap.size<(w.alloc o).heap.size:=by simp
def aY(n lo hi:Int):Bool:=decide (lo<=n)&&decide (n<=hi)
theorem iq(n lo hi:Int)(w:World):
  Calls Tryz.prog 53 #[.int .i64 n,.int .i64 lo,.int .i64 hi] w fun e w'=>e= .returned (.bool (aY n lo hi))/\Below w.heap.size w w':=by
 refine(iB.calls n lo hi (aY n lo hi) w ?_).mono ?_
 .unfold iB.f aY
  by_cases h:lo<=n<;>simp[h]
 .rintro e w' ⟨h1,h2⟩
  exact⟨h1,h2.below⟩
theorem Cx(n:Int)(w:World):Calls Tryz.prog 90 #[.int .i64 n] w fun e w'=>e= .returned (.bool (aY n 0 10000))/\Below w.heap.size w w':=by
 refine(lI.calls n (aY n 0 10000) w ?_).mono ?_
 .unfold lI.f iB.f aY
  by_cases h:0<=n<;>simp[h]
 .rintro e w' ⟨h1,h2⟩
  exact⟨h1,h2.below⟩
def gW(lo hi b:Int):Bool:=decide (0<=lo)&&(decide (lo<=hi)&&decide (hi<=b))
theorem nG(lo hi b:Int)(w:World):
  Calls Tryz.prog 94 #[.agg #[.int .i64 lo,.int .i64 hi],.int .i64 b] w fun e w'=>e= .returned (.bool (gW lo hi b))/\Below w.heap.size w w':=by
 refine iY.calls lo hi b (gW lo hi b) w ?_
 unfold iY.f gW
 by_cases h:0<=lo<;>by_cases h':lo<=hi<;>simp[h,h']
end Go.Proofs.YtkjoilgpmngndaaGreat
namespace Go.Proofs.YtkjoilgpmngndaaGreat
open Go.RowKit Go.Shelf Go.Proofs.YtkjoilgpmngndaaGreat.av Go.Proofs.YtkjoilgpmngndaaGreatW.aA Go.Proofs.YtkjoilgpmngndaaGreatW.aJ
structure uX(w:World)(A0:Option Addr)(c0:Nat)(old:List Int)(A2:Option Addr)(c2:Nat)(ss:List bH)(A3:Option Addr)(c3:Nat)(js:List bS):Prop where
 PY:Kd.C (Kd.int .i64) w A0 old.length old
 l0:old.length<=c0
 Lg:Kd.C uB w A2 ss.length ss
 l2:ss.length<=c2
 kjo:Kd.C Cv w A3 js.length js
 l3:js.length<=c3
 b0:old.length<=281474976710656
 b2:ss.length<=281474976710656
 b3:js.length<=281474976710656
theorem uX.below{w w1:World}{A0:Option Addr}{c0:Nat}{old:List Int}{A2:Option Addr}{c2:Nat}{ss:List bH}{A3:Option Addr}{c3:Nat}{js:List bS}(h:uX w A0 c0 old A2 c2 ss A3 c3 js)(hb:Below w.heap.size w w1):uX w1 A0 c0 old A2 c2 ss A3 c3 js:=
 ⟨Kd.aK h.PY hb,h.l0,Kd.aK h.Lg hb,h.l2,Kd.aK h.kjo hb,h.l3,h.b0,h.b2,h.b3⟩
def lq(no:Nat)(nw:Int)(x:bH):Bool:=aY x.f0 0 ((no:Int)-1)&&(aY x.f1 0 (nw-1)&&(aY x.f2 0 1000&&gW x.f3.f0 x.f3.f1 10000))
def ni(ns:Nat)(x:bS):Bool:=aY x.f0 0 ((ns:Int)-1)&&(aY x.f1 0 ((ns:Int)-1)&&(x.f0 !=x.f1))
set_option maxHeartbeats 4000000 in
theorem DD{A0:Option Addr}{c0 no:Nat}{nw:Int}{A2:Option Addr}{c2 ns:Nat}{A3:Option Addr}{c3 nj:Nat}(x:bH)(w:World)(hno:no<=281474976710656)(hnw:0<=nw/\nw<=1000):
  Calls Tryz.prog 87 #[.agg #[.slice A0 no c0,.int .i64 nw,.slice A2 ns c2,.slice A3 nj c3],.agg #[.int .i64 x.f0,.int .i64 x.f1,.int .i64 x.f2,.int .i64 x.f3.f0,.int .i64 x.f3.f1]] w fun e w'=>e= .returned (.bool (lq no nw x))/\Below w.heap.size w w':=by
 obtain⟨y0,y1,y2,y3,y4⟩:=x
 have hw0:wrap64 ((no:Int)-1)=(no:Int)-1:=by unfold wrap64;omega
 have hw1:wrap64 (nw-1)=nw-1:=by unfold wrap64;omega
 unfold lq
 simp only
 go_enter Tryz.func87,Tryz.ntmps87
 go_wp2_with fail
 have HB:=aa.mk (ae (ae (Below.refl w.heap.size w) (.cells #[.slice A0 no c0,.int .i64 nw,.slice A2 ns c2,.slice A3 nj c3] 43)) (.cells #[.int .i64 y0,.int .i64 y1,.int .i64 y2,.int .i64 y3,.int .i64 y4] 105))
 have B2:=aa.mk ((aR.new w [.slice A0 no c0,.int .i64 nw,.slice A2 ns c2,.slice A3 nj c3] 43).alloc (.cells #[.int .i64 y0,.int .i64 y1,.int .i64 y2,.int .i64 y3,.int .i64 y4] 105))
 have B3:=aa.mk (show aR _ (w.heap.size+1) _ _ by simpa using aR.new (w.alloc (.cells #[.slice A0 no c0,.int .i64 nw,.slice A2 ns c2,.slice A3 nj c3] 43)) [.int .i64 y0,.int .i64 y1,.int .i64 y2,.int .i64 y3,.int .i64 y4] 105)
 generalize(w.alloc (.cells #[.slice A0 no c0,.int .i64 nw,.slice A2 ns c2,.slice A3 nj c3] 43)).alloc (.cells #[.int .i64 y0,.int .i64 y1,.int .i64 y2,.int .i64 y3,.int .i64 y4] 105)=w0 at HB B2 B3 ⊢
 refine(iq y0 0 ((no:Int)-1) w0).mono ?_
 rintro e w1 ⟨rfl,hb1⟩
 have HB1:=aa.mk (HB.out.trans (hb1.mono HB.out.size))
 have xK:=aa.mk (B2.out.below hb1)
 have xJ:=aa.mk (B3.out.below hb1)
 clear hb1 HB B2 B3
 cases h1:aY y0 0 ((no:Int)-1)
 .go_wp2
  go_ret
  exact⟨bP (by simp[h1]),HB1.out⟩
 have h20:=xK.out.cell 0
 have h21:=xK.out.cell 1
 have kQ:=xJ.out.cell 0
 have h31:=xJ.out.cell 1
 have h32:=xJ.out.cell 2
 simp only[List.getElem?_cons_zero,List.getElem?_cons_succ] at h20 h21 kQ h31 h32
 go_wp2_with fail
 refine(iq y1 0 (nw-1) w1).mono ?_
 rintro e w2 ⟨rfl,hb2⟩
 have HB2:=aa.mk (HB1.out.trans (hb2.mono HB1.out.size))
 have BM:=aa.mk (xJ.out.below hb2)
 clear hb2 HB1 xK xJ h20 h21 kQ h31 h32
 cases h2:aY y1 0 (nw-1)
 .go_wp2
  go_ret
  exact⟨bP (by simp[h1,h2]),HB2.out⟩
 have h32:=BM.out.cell 2
 simp only[List.getElem?_cons_zero,List.getElem?_cons_succ] at h32
 go_wp2_with fail
 refine(iq y2 0 1000 w2).mono ?_
 rintro e w3 ⟨rfl,hb3⟩
 have HB3:=aa.mk (HB2.out.trans (hb3.mono HB2.out.size))
 have B33:=aa.mk (BM.out.below hb3)
 clear hb3 HB2 BM h32
 cases h3:aY y2 0 1000
 .go_wp2
  go_ret
  exact⟨bP (by simp[h1,h2,h3]),HB3.out⟩
 have CB:=B33.out.cell 3
 have h34:=B33.out.cell 4
 simp only[List.getElem?_cons_zero,List.getElem?_cons_succ] at CB h34
 go_wp2_with fail
 refine(nG y3 y4 10000 w3).mono ?_
 rintro e w4 ⟨rfl,hb4⟩
 have kY:=aa.mk (HB3.out.trans (hb4.mono HB3.out.size))
 clear hb4
 cases h4:gW y3 y4 10000
 .go_wp2
  go_ret
  exact⟨bP (by simp[h1,h2,h3,h4]),kY.out⟩
 .go_wp2
  go_ret
  exact⟨bP (by simp[h1,h2,h3,h4]),kY.out⟩
set_option maxHeartbeats 4000000 in
theorem MR{A0:Option Addr}{c0 no:Nat}{nw:Int}{A2:Option Addr}{c2 ns:Nat}{A3:Option Addr}{c3 nj:Nat}(x:bS)(w:World)(hns:ns<=281474976710656):
  Calls Tryz.prog 88 #[.agg #[.slice A0 no c0,.int .i64 nw,.slice A2 ns c2,.slice A3 nj c3],.agg #[.int .i64 x.f0,.int .i64 x.f1]] w fun e w'=>e= .returned (.bool (ni ns x))/\Below w.heap.size w w':=by
 obtain⟨y0,y1⟩:=x
 have hw0:wrap64 ((ns:Int)-1)=(ns:Int)-1:=by unfold wrap64;omega
 unfold ni
 simp only
 go_enter Tryz.func88,Tryz.ntmps88
 go_wp2_with fail
 have HB:=aa.mk (ae (ae (Below.refl w.heap.size w) (.cells #[.slice A0 no c0,.int .i64 nw,.slice A2 ns c2,.slice A3 nj c3] 43)) (.cells #[.int .i64 y0,.int .i64 y1] 115))
 have B2:=aa.mk ((aR.new w [.slice A0 no c0,.int .i64 nw,.slice A2 ns c2,.slice A3 nj c3] 43).alloc (.cells #[.int .i64 y0,.int .i64 y1] 115))
 have B3:=aa.mk (show aR _ (w.heap.size+1) _ _ by simpa using aR.new (w.alloc (.cells #[.slice A0 no c0,.int .i64 nw,.slice A2 ns c2,.slice A3 nj c3] 43)) [.int .i64 y0,.int .i64 y1] 115)
 generalize(w.alloc (.cells #[.slice A0 no c0,.int .i64 nw,.slice A2 ns c2,.slice A3 nj c3] 43)).alloc (.cells #[.int .i64 y0,.int .i64 y1] 115)=w0 at HB B2 B3 ⊢
 refine(iq y0 0 ((ns:Int)-1) w0).mono ?_
 rintro e w1 ⟨rfl,hb1⟩
 have HB1:=aa.mk (HB.out.trans (hb1.mono HB.out.size))
 have xK:=aa.mk (B2.out.below hb1)
 have xJ:=aa.mk (B3.out.below hb1)
 clear hb1 HB B2 B3
 cases h1:aY y0 0 ((ns:Int)-1)
 .go_wp2
  go_ret
  exact⟨bP (by simp[h1]),HB1.out⟩
 have h22:=xK.out.cell 2
 have h31:=xJ.out.cell 1
 simp only[List.getElem?_cons_zero,List.getElem?_cons_succ] at h22 h31
 go_wp2_with fail
 refine(iq y1 0 ((ns:Int)-1) w1).mono ?_
 rintro e w2 ⟨rfl,hb2⟩
 have HB2:=aa.mk (HB1.out.trans (hb2.mono HB1.out.size))
 have BM:=aa.mk (xJ.out.below hb2)
 clear hb2 HB1 xK xJ h22 h31
 cases h2:aY y1 0 ((ns:Int)-1)
 .go_wp2
  go_ret
  exact⟨bP (by simp[h1,h2]),HB2.out⟩
 have kQ:=BM.out.cell 0
 have h31:=BM.out.cell 1
 simp only[List.getElem?_cons_zero,List.getElem?_cons_succ] at kQ h31
 cases h3:(y0 !=y1)
 .go_wp2
  go_ret
  exact⟨bP (by simp only[h1,h2,h3,Bool.and_self,Bool.and_false]),HB2.out⟩
 .go_wp2
  go_ret
  exact⟨bP (by simp only[h1,h2,h3,Bool.and_self,Bool.and_false]),HB2.out⟩
end Go.Proofs.YtkjoilgpmngndaaGreat
