import Derived.Laws.EntriesVeiled
import Derived.LoopIn
import Derived.LoopNIn
import Derived.OwnWalkIn
import Derived.RangeFuncBound
import Derived.RangeFuncCalls
import Derived.RangeFuncLeaves
import Derived.RangeFuncNested
import Derived.Shelf.Abstract
import Derived.Shelf.RegionOpen
import Derived.Test.YtdekaocdmjndaaaGreatQ6
set_option linter.all false
namespace Go.Proofs.YtdekaocdmjndaaaGreat
open Go.RowKit Go.Shelf ah YtdekaocdmjndaaaGreatW.aj YtdekaocdmjndaaaGreatW.aH
def Ae(g:Nat)(args:Array Value)(b:Bool)(w:World):Prop:=
 ∀(W:World),Below w.heap.size w W->Calls Tryz.prog g args W λe w'=>e= .returned (.bool b)/\Below W.heap.size W w'
theorem Ae.later{g:Nat}{args:Array Value}{b:Bool}{w W:World}(h:Ae g args b w)(hb:Below w.heap.size w W):Ae g args b W:=
 λW' hb'=>h W' (hb.trans (hb'.mono hb.size))
def fi{α:Type}(p:α->Bool):List α->Nat->Int
 |[],_=> -1
 |x::xs,i=>if p x then(i:Int) else fi p xs (i+1)
theorem iQ{α:Type}(p:α->Bool)(xs:List α)(i:Nat):decide (0<=fi p xs i)=xs.any p:=by
 induction xs generalizing i with
 |nil=>simp[fi]
 |cons x xs ih=>
  unfold fi
  by_cases h:p x=true
  .simp[h]
  .simp[h,ih]
theorem getD_drop{α:Type}(xs:List α)(k:Nat)(d:α)(h:k<xs.length):xs.drop k=xs.getD k d::xs.drop (k+1):=by
 rw[List.drop_eq_getElem_cons h]
 simp[List.getD,h]
theorem jX{α:Type}(p:α->Bool)(xs:List α)(k:Nat)(d:α)(h:k<xs.length):fi p (xs.drop k) k=if p (xs.getD k d) then(k:Int) else fi p (xs.drop (k+1)) (k+1):=by
 rw[getD_drop xs k d h]
 rfl
theorem bA{w a b:World}(h:Below w.heap.size w a)(k:Below a.heap.size a b):Below w.heap.size w b:=h.trans (k.mono h.size)
theorem bB{a b:Bool}(h:a=b):Ending.returned (.bool a)= .returned (.bool b):=by rw[h]
theorem dL{k:IntKind}{a b:Int}(h:a=b):Ending.returned (.int k a)= .returned (.int k b):=by rw[h]
theorem enters {g:Nat} {fn:Func} {c:Code} (hf:Tryz.prog.funcs[g]?=some fn) (hname:(fn.name== "runtime.NumGoroutine")=false) (hb:fn.body=some c):
  ∀args w,(callFunc g args).run Tryz.prog w= .ok (.enter g args) w:=by
 intro args w
 have h1:fn.name≠ "runtime.NumGoroutine" :=by simpa using hname
 simp[callFunc,hf,h1,hb,mark]
def aR(xs:List eY)(k:Nat):eY:=iL xs (k:Int)
def gM(xs:List jU)(k:Nat):jU:=yB xs (k:Int)
def bY(xs:List Int)(k:Nat):Int:=rd xs (k:Int)
def nH(x:eY):Value:= .agg #[.int .i64 x.f0,.int .i64 x.f1,.int .i64 x.f2,.int .i64 x.f3.f0,.int .i64 x.f3.f1]
def jG(g:Nat)(first cap:Array Value)(p:eY->Bool)(w:World):Prop:=
 ∀(W:World) (x:eY),Below w.heap.size w W->Calls Tryz.prog g (first.push (nH x)++cap) W λe w'=>e= .returned (.bool (p x))/\Below W.heap.size W w'
theorem jG.later{g:Nat}{first cap:Array Value}{p:eY->Bool}{w W:World}(h:jG g first cap p w)(hb:Below w.heap.size w W):jG g first cap p W:=
 λW' x hb'=>h W' x (hb.trans (hb'.mono hb.size))
set_option maxHeartbeats 1000000 in
theorem CR(g:Nat)(cap:Array Value)(hg:∀args w,(callFunc g args).run Tryz.prog w= .ok (.enter g args) w)(p:eY->Bool)(A:Option Addr)(c:Nat)(xs:List eY)(w:World)
  (hr:Kd.C zu w A xs.length xs) (hlen:xs.length<=9223372036854775807) (hp:jG g #[] cap p w):
  Calls Tryz.prog 317 #[.slice A xs.length c,.func (.func g) #[] cap] w λe w'=>e= .returned (.int .i64 (fi p xs 0))/\Below w.heap.size w w':=by
 have HR:=aa.mk hr
 have HP:=aa.mk hp
 clear hr hp
 go_enter Tryz.func317,Tryz.ntmps317
 go_wp2
 go_loopw [8] (λv wr=>∃k:Nat,k<=xs.length/\v= .int .i64 k/\aa (Below w.heap.size w wr)/\aa (fi p xs 0=fi p (xs.drop k) k)) (λv _=>xs.length-(intOf v).toNat)
 case atStart=>exact⟨0,Nat.zero_le _,rfl,⟨Below.refl _ _⟩,⟨rfl⟩⟩
 case round=>
  obtain⟨k,hk,rfl,HB,HF⟩:=hrel
  by_cases hlt:k<xs.length
  .obtain⟨ad,e,h0,h1,h2,h3,h4⟩:=yJ HR.out k (by omega) (by omega)
   cases e
   have hb:=HB.out
   replace h0:=(hb.cell (World.block_lt_of_cell? w _ h0)).trans h0
   replace h1:=(hb.cell (World.block_lt_of_cell? w _ h1)).trans h1
   replace h2:=(hb.cell (World.block_lt_of_cell? w _ h2)).trans h2
   replace h3:=(hb.cell (World.block_lt_of_cell? w _ h3)).trans h3
   replace h4:=(hb.cell (World.block_lt_of_cell? w _ h4)).trans h4
   simp only[Int.toNat_natCast] at h0 h1 h2 h3 h4
   clear hb HR
   go_wp2_with fail
   have hc:=HP.out wr (aR xs k) HB.out
   simp only[nH,aR,List.push_toArray,List.nil_append] at hc
   have hfs:=aa.mk (jX p xs k Qh hlt)
   rw[show xs.getD k Qh=aR xs k from by simp[aR,iL,Int.toNat_natCast]] at hfs
   have HX:aa (∃y,y=aR xs k):=⟨⟨_,rfl⟩⟩
   refine(hc).mono ?_
   rintro e w' ⟨rfl,hb'⟩
   have qV:=aa.mk (bA HB.out hb')
   clear hb' h0 h1 h2 h3 h4 hc HB
   cases hpx:p (aR xs k)
   .simp only[aR] at hpx
    have jV:=aa.mk hpx
    clear hpx
    simp only[jV.out]
    go_wp2
    go_roundw
    case rel=>exact⟨k+1,by omega,by go_num,qV,⟨by rw[HF.out,hfs.out,if_neg (by simp[aR,jV.out])]⟩⟩
    case measure=>simp[intOf];omega
   .simp only[aR] at hpx
    have jV:=aa.mk hpx
    clear hpx
    simp only[jV.out]
    go_wp2
    go_ret
    exact⟨dL (by rw[HF.out,hfs.out,if_pos (by simp[aR,jV.out])]),qV.out⟩
  .have hk':k=xs.length:=by omega
   subst hk'
   go_wp2
   go_ret
   exact⟨dL (by rw[HF.out,List.drop_length];rfl),HB.out⟩
theorem ym(g:Nat)(cap:Array Value)(hg:∀args w,(callFunc g args).run Tryz.prog w= .ok (.enter g args) w)(p:eY->Bool)(A:Option Addr)(c:Nat)(xs:List eY)(w:World)
  (hr:Kd.C zu w A xs.length xs) (hlen:xs.length<=9223372036854775807) (hp:jG g #[] cap p w):
  Calls Tryz.prog 258 #[.slice A xs.length c,.func (.func g) #[] cap] w λe w'=>e= .returned (.bool (xs.any p))/\Below w.heap.size w w':=by
 go_enter Tryz.func258,Tryz.ntmps258
 go_wp2_with fail
 refine(CR g cap hg p A c xs w hr hlen hp).mono ?_
 rintro e w' ⟨rfl,hb⟩
 obtain⟨j,hj⟩:∃j,fi p xs 0=j:=⟨_,rfl⟩
 have hn:=aa.mk (iQ p xs 0)
 rw[hj] at hn ⊢
 clear hj
 go_wp2
 go_ret
 exact⟨bB (by rw[<- hn.out]),hb⟩
theorem Fw(g:Nat)(first cap:Array Value)(hg:∀args w,(callFunc g args).run Tryz.prog w= .ok (.enter g args) w)(p:eY->Bool)(x:eY)(gp:Nat)(w:World)
  (hc:w.cell? ⟨gp,0,none⟩=some (.func (.func g) first cap)) (hp:jG g first cap p w):
  Calls Tryz.prog 259 ((#[]:Array Value).push (nH x)++#[.pointer (some ⟨gp,0,none⟩)]) w λe w'=>e= .returned (.bool (!p x))/\Below w.heap.size w w':=by
 simp only[Array.empty_append,List.push_toArray,List.append_toArray,List.nil_append,List.cons_append,nH]
 have PW:gp<w.heap.size:=World.block_lt_of_cell? w _ hc
 have HP:=aa.mk hp
 clear hp
 go_enter Tryz.func259,Tryz.ntmps259
 go_wp2_with fail
 have hc:=HP.out _ x ((Below.refl w.heap.size w).alloc (Nat.le_refl _) (.cells #[.int .i64 x.f0,.int .i64 x.f1,.int .i64 x.f2,.int .i64 x.f3.f0,.int .i64 x.f3.f1] 142))
 simp only[nH] at hc
 refine hc.mono ?_
 rintro e w' ⟨rfl,hb⟩
 obtain⟨b,hb1⟩:∃b,p x=b:=⟨_,rfl⟩
 rw[hb1]
 go_wp2
 go_ret
 exact⟨bB (by rw[hb1]),bA ((Below.refl w.heap.size w).alloc (Nat.le_refl _) (.cells #[.int .i64 x.f0,.int .i64 x.f1,.int .i64 x.f2,.int .i64 x.f3.f0,.int .i64 x.f3.f1] 142)) hb⟩
theorem H8(g:Nat)(first cap:Array Value)(hg:∀args w,(callFunc g args).run Tryz.prog w= .ok (.enter g args) w)(p:eY->Bool)(A:Option Addr)(c:Nat)(xs:List eY)(w:World)
  (hr:Kd.C zu w A xs.length xs) (hlen:xs.length<=9223372036854775807) (hp:jG g first cap p w):
  Calls Tryz.prog 202 #[.slice A xs.length c,.func (.func g) first cap] w λe w'=>e= .returned (.bool (xs.all p))/\Below w.heap.size w w':=by
 go_enter Tryz.func202,Tryz.ntmps202
 have HR:=aa.mk hr
 have HP:=aa.mk hp
 clear hr hp
 go_wp2_with fail
 have hB:Below w.heap.size w (w.alloc (.cells #[.func (.func g) first cap] 326)):=(Below.refl _ _).alloc (Nat.le_refl _) _
 refine(ym 259 #[.pointer (some ⟨w.heap.size,0,none⟩)] (enters Tryz.func259 (by kernel_rfl) rfl) (λx=>!p x) A c xs _ (Kd.aC HR.out hB) hlen ?_).mono ?_
 .intro W x hW
  refine Fw g first cap hg p x w.heap.size W ?_ (HP.out.later (hB.trans (hW.mono hB.size)))
  rw[hW.cell (p:=⟨w.heap.size,0,none⟩) (by simp)]
  simp
 rintro e w' ⟨rfl,hb⟩
 have hn:=aa.mk (List.any_eq_not_all_not (l:=xs) (p:=λx=>!p x))
 obtain⟨j,hj⟩:∃j,(xs.any λx=>!p x)=j:=⟨_,rfl⟩
 rw[hj] at hn ⊢
 clear hj
 go_wp2
 go_ret
 exact⟨bB (by rw[hn.out];simp),bA hB hb⟩
def rJ(x:jU):Value:= .agg #[.int .i64 x.f0,.int .i64 x.f1]
def lK(g:Nat)(first cap:Array Value)(p:jU->Bool)(w:World):Prop:=
 ∀(W:World) (x:jU),Below w.heap.size w W->Calls Tryz.prog g (first.push (rJ x)++cap) W λe w'=>e= .returned (.bool (p x))/\Below W.heap.size W w'
theorem lK.later{g:Nat}{first cap:Array Value}{p:jU->Bool}{w W:World}(h:lK g first cap p w)(hb:Below w.heap.size w W):lK g first cap p W:=
 λW' x hb'=>h W' x (hb.trans (hb'.mono hb.size))
set_option maxHeartbeats 1000000 in
theorem GV(g:Nat)(cap:Array Value)(hg:∀args w,(callFunc g args).run Tryz.prog w= .ok (.enter g args) w)(p:jU->Bool)(A:Option Addr)(c:Nat)(xs:List jU)(w:World)
  (hr:Kd.C Kz w A xs.length xs) (hlen:xs.length<=9223372036854775807) (hp:lK g #[] cap p w):
  Calls Tryz.prog 318 #[.slice A xs.length c,.func (.func g) #[] cap] w λe w'=>e= .returned (.int .i64 (fi p xs 0))/\Below w.heap.size w w':=by
 have HR:=aa.mk hr
 have HP:=aa.mk hp
 clear hr hp
 go_enter Tryz.func318,Tryz.ntmps318
 go_wp2
 go_loopw [8] (λv wr=>∃k:Nat,k<=xs.length/\v= .int .i64 k/\aa (Below w.heap.size w wr)/\aa (fi p xs 0=fi p (xs.drop k) k)) (λv _=>xs.length-(intOf v).toNat)
 case atStart=>exact⟨0,Nat.zero_le _,rfl,⟨Below.refl _ _⟩,⟨rfl⟩⟩
 case round=>
  obtain⟨k,hk,rfl,HB,HF⟩:=hrel
  by_cases hlt:k<xs.length
  .obtain⟨ad,e,h0,h1⟩:=RB HR.out k (by omega) (by omega)
   cases e
   have hb:=HB.out
   replace h0:=(hb.cell (World.block_lt_of_cell? w _ h0)).trans h0
   replace h1:=(hb.cell (World.block_lt_of_cell? w _ h1)).trans h1
   simp only[Int.toNat_natCast] at h0 h1
   clear hb HR
   go_wp2_with fail
   have hc:=HP.out wr (gM xs k) HB.out
   simp only[rJ,gM,List.push_toArray,List.nil_append] at hc
   have hfs:=aa.mk (jX p xs k Qc hlt)
   rw[show xs.getD k Qc=gM xs k from by simp[gM,yB,Int.toNat_natCast]] at hfs
   have HX:aa (∃y,y=gM xs k):=⟨⟨_,rfl⟩⟩
   refine(hc).mono ?_
   rintro e w' ⟨rfl,hb'⟩
   have qV:=aa.mk (bA HB.out hb')
   clear hb' h0 h1 hc HB
   cases hpx:p (gM xs k)
   .simp only[gM] at hpx
    have jV:=aa.mk hpx
    clear hpx
    simp only[jV.out]
    go_wp2
    go_roundw
    case rel=>exact⟨k+1,by omega,by go_num,qV,⟨by rw[HF.out,hfs.out,if_neg (by simp[gM,jV.out])]⟩⟩
    case measure=>simp[intOf];omega
   .simp only[gM] at hpx
    have jV:=aa.mk hpx
    clear hpx
    simp only[jV.out]
    go_wp2
    go_ret
    exact⟨dL (by rw[HF.out,hfs.out,if_pos (by simp[gM,jV.out])]),qV.out⟩
  .have hk':k=xs.length:=by omega
   subst hk'
   go_wp2
   go_ret
   exact⟨dL (by rw[HF.out,List.drop_length];rfl),HB.out⟩
theorem Bj(g:Nat)(cap:Array Value)(hg:∀args w,(callFunc g args).run Tryz.prog w= .ok (.enter g args) w)(p:jU->Bool)(A:Option Addr)(c:Nat)(xs:List jU)(w:World)
  (hr:Kd.C Kz w A xs.length xs) (hlen:xs.length<=9223372036854775807) (hp:lK g #[] cap p w):
  Calls Tryz.prog 260 #[.slice A xs.length c,.func (.func g) #[] cap] w λe w'=>e= .returned (.bool (xs.any p))/\Below w.heap.size w w':=by
 go_enter Tryz.func260,Tryz.ntmps260
 go_wp2_with fail
 refine(GV g cap hg p A c xs w hr hlen hp).mono ?_
 rintro e w' ⟨rfl,hb⟩
 obtain⟨j,hj⟩:∃j,fi p xs 0=j:=⟨_,rfl⟩
 have hn:=aa.mk (iQ p xs 0)
 rw[hj] at hn ⊢
 clear hj
 go_wp2
 go_ret
 exact⟨bB (by rw[<- hn.out]),hb⟩
theorem Lx(g:Nat)(first cap:Array Value)(hg:∀args w,(callFunc g args).run Tryz.prog w= .ok (.enter g args) w)(p:jU->Bool)(x:jU)(gp:Nat)(w:World)
  (hc:w.cell? ⟨gp,0,none⟩=some (.func (.func g) first cap)) (hp:lK g first cap p w):
  Calls Tryz.prog 261 ((#[]:Array Value).push (rJ x)++#[.pointer (some ⟨gp,0,none⟩)]) w λe w'=>e= .returned (.bool (!p x))/\Below w.heap.size w w':=by
 simp only[Array.empty_append,List.push_toArray,List.append_toArray,List.nil_append,List.cons_append,rJ]
 have PW:gp<w.heap.size:=World.block_lt_of_cell? w _ hc
 have HP:=aa.mk hp
 clear hp
 go_enter Tryz.func261,Tryz.ntmps261
 go_wp2_with fail
 have hc:=HP.out _ x ((Below.refl w.heap.size w).alloc (Nat.le_refl _) (.cells #[.int .i64 x.f0,.int .i64 x.f1] 331))
 simp only[rJ] at hc
 refine hc.mono ?_
 rintro e w' ⟨rfl,hb⟩
 obtain⟨b,hb1⟩:∃b,p x=b:=⟨_,rfl⟩
 rw[hb1]
 go_wp2
 go_ret
 exact⟨bB (by rw[hb1]),bA ((Below.refl w.heap.size w).alloc (Nat.le_refl _) (.cells #[.int .i64 x.f0,.int .i64 x.f1] 331)) hb⟩
theorem O0(g:Nat)(first cap:Array Value)(hg:∀args w,(callFunc g args).run Tryz.prog w= .ok (.enter g args) w)(p:jU->Bool)(A:Option Addr)(c:Nat)(xs:List jU)(w:World)
  (hr:Kd.C Kz w A xs.length xs) (hlen:xs.length<=9223372036854775807) (hp:lK g first cap p w):
  Calls Tryz.prog 204 #[.slice A xs.length c,.func (.func g) first cap] w λe w'=>e= .returned (.bool (xs.all p))/\Below w.heap.size w w':=by
 go_enter Tryz.func204,Tryz.ntmps204
 have HR:=aa.mk hr
 have HP:=aa.mk hp
 clear hr hp
 go_wp2_with fail
 have hB:Below w.heap.size w (w.alloc (.cells #[.func (.func g) first cap] 327)):=(Below.refl _ _).alloc (Nat.le_refl _) _
 refine(Bj 261 #[.pointer (some ⟨w.heap.size,0,none⟩)] (enters Tryz.func261 (by kernel_rfl) rfl) (λx=>!p x) A c xs _ (Kd.aC HR.out hB) hlen ?_).mono ?_
 .intro W x hW
  refine Lx g first cap hg p x w.heap.size W ?_ (HP.out.later (hB.trans (hW.mono hB.size)))
  rw[hW.cell (p:=⟨w.heap.size,0,none⟩) (by simp)]
  simp
 rintro e w' ⟨rfl,hb⟩
 have hn:=aa.mk (List.any_eq_not_all_not (l:=xs) (p:=λx=>!p x))
 obtain⟨j,hj⟩:∃j,(xs.any λx=>!p x)=j:=⟨_,rfl⟩
 rw[hj] at hn ⊢
 clear hj
 go_wp2
 go_ret
 exact⟨bB (by rw[hn.out];simp),bA hB hb⟩
def ji(x:Int):Value:= .int .i64 x
def fP(g:Nat)(first cap:Array Value)(p:Int->Bool)(w:World):Prop:=
 ∀(W:World) (x:Int),Below w.heap.size w W->Calls Tryz.prog g (first.push (ji x)++cap) W λe w'=>e= .returned (.bool (p x))/\Below W.heap.size W w'
theorem fP.later{g:Nat}{first cap:Array Value}{p:Int->Bool}{w W:World}(h:fP g first cap p w)(hb:Below w.heap.size w W):fP g first cap p W:=
 λW' x hb'=>h W' x (hb.trans (hb'.mono hb.size))
set_option maxHeartbeats 1000000 in
theorem xe(g:Nat)(cap:Array Value)(hg:∀args w,(callFunc g args).run Tryz.prog w= .ok (.enter g args) w)(p:Int->Bool)(A:Option Addr)(c:Nat)(xs:List Int)(w:World)
  (hr:Kd.C (Kd.int .i64) w A xs.length xs) (hlen:xs.length<=9223372036854775807) (hp:fP g #[] cap p w):
  Calls Tryz.prog 270 #[.slice A xs.length c,.func (.func g) #[] cap] w λe w'=>e= .returned (.int .i64 (fi p xs 0))/\Below w.heap.size w w':=by
 have HR:=aa.mk hr
 have HP:=aa.mk hp
 clear hr hp
 go_enter Tryz.func270,Tryz.ntmps270
 go_wp2
 go_loopw [8] (λv wr=>∃k:Nat,k<=xs.length/\v= .int .i64 k/\aa (Below w.heap.size w wr)/\aa (fi p xs 0=fi p (xs.drop k) k)) (λv _=>xs.length-(intOf v).toNat)
 case atStart=>exact⟨0,Nat.zero_le _,rfl,⟨Below.refl _ _⟩,⟨rfl⟩⟩
 case round=>
  obtain⟨k,hk,rfl,HB,HF⟩:=hrel
  by_cases hlt:k<xs.length
  .obtain⟨ad,e,h0⟩:=Kd.gu HR.out k (by omega) (by omega)
   cases e
   have hb:=HB.out
   replace h0:=(hb.cell (World.block_lt_of_cell? w _ h0)).trans h0
   simp only[Int.toNat_natCast] at h0
   clear hb HR
   go_wp2_with fail
   have hc:=HP.out wr (bY xs k) HB.out
   simp only[ji,bY,List.push_toArray,List.nil_append] at hc
   have hfs:=aa.mk (jX p xs k 0 hlt)
   rw[show xs.getD k 0=bY xs k from by simp[bY,rd,Int.toNat_natCast]] at hfs
   have HX:aa (∃y,y=bY xs k):=⟨⟨_,rfl⟩⟩
   refine(hc).mono ?_
   rintro e w' ⟨rfl,hb'⟩
   have qV:=aa.mk (bA HB.out hb')
   clear hb' h0 hc HB
   cases hpx:p (bY xs k)
   .simp only[bY] at hpx
    have jV:=aa.mk hpx
    clear hpx
    simp only[jV.out]
    go_wp2
    go_roundw
    case rel=>exact⟨k+1,by omega,by go_num,qV,⟨by rw[HF.out,hfs.out,if_neg (by simp[bY,jV.out])]⟩⟩
    case measure=>simp[intOf];omega
   .simp only[bY] at hpx
    have jV:=aa.mk hpx
    clear hpx
    simp only[jV.out]
    go_wp2
    go_ret
    exact⟨dL (by rw[HF.out,hfs.out,if_pos (by simp[bY,jV.out])]),qV.out⟩
  .have hk':k=xs.length:=by omega
   subst hk'
   go_wp2
   go_ret
   exact⟨dL (by rw[HF.out,List.drop_length];rfl),HB.out⟩
theorem mK(g:Nat)(cap:Array Value)(hg:∀args w,(callFunc g args).run Tryz.prog w= .ok (.enter g args) w)(p:Int->Bool)(A:Option Addr)(c:Nat)(xs:List Int)(w:World)
  (hr:Kd.C (Kd.int .i64) w A xs.length xs) (hlen:xs.length<=9223372036854775807) (hp:fP g #[] cap p w):
  Calls Tryz.prog 211 #[.slice A xs.length c,.func (.func g) #[] cap] w λe w'=>e= .returned (.bool (xs.any p))/\Below w.heap.size w w':=by
 go_enter Tryz.func211,Tryz.ntmps211
 go_wp2_with fail
 refine(xe g cap hg p A c xs w hr hlen hp).mono ?_
 rintro e w' ⟨rfl,hb⟩
 obtain⟨j,hj⟩:∃j,fi p xs 0=j:=⟨_,rfl⟩
 have hn:=aa.mk (iQ p xs 0)
 rw[hj] at hn ⊢
 clear hj
 go_wp2
 go_ret
 exact⟨bB (by rw[<- hn.out]),hb⟩
theorem zR(g:Nat)(first cap:Array Value)(hg:∀args w,(callFunc g args).run Tryz.prog w= .ok (.enter g args) w)(p:Int->Bool)(x:Int)(gp:Nat)(w:World)
  (hc:w.cell? ⟨gp,0,none⟩=some (.func (.func g) first cap)) (hp:fP g first cap p w):
  Calls Tryz.prog 257 ((#[]:Array Value).push (ji x)++#[.pointer (some ⟨gp,0,none⟩)]) w λe w'=>e= .returned (.bool (!p x))/\Below w.heap.size w w':=by
 simp only[Array.empty_append,List.push_toArray,List.append_toArray,List.nil_append,List.cons_append,ji]
 have PW:gp<w.heap.size:=World.block_lt_of_cell? w _ hc
 have HP:=aa.mk hp
 clear hp
 go_enter Tryz.func257,Tryz.ntmps257
 go_wp2_with fail
 have hc:=HP.out _ x (Below.refl _ _)
 simp only[ji] at hc
 refine hc.mono ?_
 rintro e w' ⟨rfl,hb⟩
 obtain⟨b,hb1⟩:∃b,p x=b:=⟨_,rfl⟩
 rw[hb1]
 go_wp2
 go_ret
 exact⟨bB (by rw[hb1]),bA (Below.refl _ _) hb⟩
theorem Dy(g:Nat)(first cap:Array Value)(hg:∀args w,(callFunc g args).run Tryz.prog w= .ok (.enter g args) w)(p:Int->Bool)(A:Option Addr)(c:Nat)(xs:List Int)(w:World)
  (hr:Kd.C (Kd.int .i64) w A xs.length xs) (hlen:xs.length<=9223372036854775807) (hp:fP g first cap p w):
  Calls Tryz.prog 199 #[.slice A xs.length c,.func (.func g) first cap] w λe w'=>e= .returned (.bool (xs.all p))/\Below w.heap.size w w':=by
 go_enter Tryz.func199,Tryz.ntmps199
 have HR:=aa.mk hr
 have HP:=aa.mk hp
 clear hr hp
 go_wp2_with fail
 have hB:Below w.heap.size w (w.alloc (.cells #[.func (.func g) first cap] 192)):=(Below.refl _ _).alloc (Nat.le_refl _) _
 refine(mK 257 #[.pointer (some ⟨w.heap.size,0,none⟩)] (enters Tryz.func257 (by kernel_rfl) rfl) (λx=>!p x) A c xs _ (Kd.aC HR.out hB) hlen ?_).mono ?_
 .intro W x hW
  refine zR g first cap hg p x w.heap.size W ?_ (HP.out.later (hB.trans (hW.mono hB.size)))
  rw[hW.cell (p:=⟨w.heap.size,0,none⟩) (by simp)]
  simp
 rintro e w' ⟨rfl,hb⟩
 have hn:=aa.mk (List.any_eq_not_all_not (l:=xs) (p:=λx=>!p x))
 obtain⟨j,hj⟩:∃j,(xs.any λx=>!p x)=j:=⟨_,rfl⟩
 rw[hj] at hn ⊢
 clear hj
 go_wp2
 go_ret
 exact⟨bB (by rw[hn.out];simp),bA hB hb⟩
def aV(w:World)(g:Nat)(cs:List Value)(t:TypeId):Prop:=w.heap[g]?=some (.cells cs.toArray t (0,0))
theorem aV.below{w w1:World}{g:Nat}{cs:List Value}{t:TypeId}(h:aV w g cs t)(hb:Below w.heap.size w w1):aV w1 g cs t:=gT h hb
theorem aV.cell{w:World}{g:Nat}{cs:List Value}{t:TypeId}(h:aV w g cs t)(i:Nat):w.cell? ⟨g,i,none⟩=cs[i]?:=(av h i).trans (by simp)
theorem aV.frozen{w:World}{g:Nat}{cs:List Value}{t:TypeId}(h:aV w g cs t)(i:Nat):w.frozen? ⟨g,i,none⟩=false:=aA h i
theorem aV.lt{w:World}{g:Nat}{cs:List Value}{t:TypeId}(h:aV w g cs t):g<w.heap.size:=ig h
theorem aV.new(w:World)(cs:List Value)(t:TypeId):aV (w.alloc (.cells cs.toArray t)) w.heap.size cs t:=heap_alloc_new w _
theorem aV.alloc{w:World}{g:Nat}{cs:List Value}{t:TypeId}(h:aV w g cs t)(o:Obj):aV (w.alloc o) g cs t:=ay h o
structure aY(n₀:Nat)(S:Nat->Prop)(w w':World):Prop where
 os:w'.os=w.os
 tape:w'.tape=w.tape
 output:w'.output=w.output
 size:w.heap.size<=w'.heap.size
 block:∀k,k<n₀->¬S k->w'.heap[k]?=w.heap[k]?
theorem aY.refl(n₀:Nat)(S:Nat->Prop)(w:World):aY n₀ S w w:=⟨rfl,rfl,rfl,Nat.le_refl _,λ_ _ _=>rfl⟩
theorem aY.trans{n₀:Nat}{S:Nat->Prop}{a b c:World}(h:aY n₀ S a b)(k:aY n₀ S b c):aY n₀ S a c:=
 ⟨k.os.trans h.os,k.tape.trans h.tape,k.output.trans h.output,Nat.le_trans h.size k.size,λi hi hs=>(k.block i hi hs).trans (h.block i hi hs)⟩
theorem aY.of_below{n₀ B:Nat}{S:Nat->Prop}{a b:World}(h:Below B a b)(hB:n₀<=B):aY n₀ S a b:=⟨h.os,h.tape,h.output,h.size,λk hk _=>h.block k (by omega)⟩
theorem aY.mono{n₀ n₁:Nat}{S T:Nat->Prop}{a b:World}(h:aY n₀ S a b)(hn:n₁<=n₀)(hS:∀k,k<n₁->S k->T k):aY n₁ T a b:=⟨h.os,h.tape,h.output,h.size,λk hk hs=>h.block k (by omega) (λx=>hs (hS k hk x))⟩
theorem aY.alloc{n₀:Nat}{S:Nat->Prop}{a b:World}(h:aY n₀ S a b)(hB:n₀<=b.heap.size)(o:Obj):aY n₀ S a (b.alloc o):=
 h.trans (aY.of_below ((Below.refl b.heap.size b).alloc (Nat.le_refl _) o) hB)
theorem aY.setCell{n₀:Nat}{S:Nat->Prop}{a b:World}(h:aY n₀ S a b){p:Addr}(hp:S p.block\/n₀<=p.block)(u:Value):aY n₀ S a (b.setCell p u):=
 h.trans ⟨rfl,rfl,rfl,by simp[World.setCell],λk hk hs=>Below.heap_setCell _ _ _ _ (by
  rintro rfl
  rcases hp with hp|hp
  .exact hs hp
  .omega)⟩
theorem aY.drewN{n₀:Nat}{S:Nat->Prop}{a b:World}(h:aY n₀ S a b)(n:Nat):aY n₀ S a (b.drewN n):=⟨h.os,h.tape,h.output,h.size,h.block⟩
theorem aY.drew{n₀:Nat}{S:Nat->Prop}{a b:World}(h:aY n₀ S a b):aY n₀ S a b.drew:=⟨h.os,h.tape,h.output,h.size,h.block⟩
theorem aY.put{n₀:Nat}{S:Nat->Prop}{a b:World}(h:aY n₀ S a b){l:Nat}(hl:S l\/n₀<=l)(o:Obj):aY n₀ S a (b.putObj l o):=
 h.trans ⟨rfl,rfl,rfl,by simp[World.putObj],λk hk hs=>World.putObj_heap_other (by
  rintro rfl
  rcases hl with hl|hl
  .exact hs hl
  .omega)⟩
theorem aY.cell{n₀:Nat}{S:Nat->Prop}{w w':World}(h:aY n₀ S w w'){p:Addr}(hp:p.block<n₀)(hs:¬S p.block):w'.cell? p=w.cell? p:=World.cell?_of_block (w:=w) (h.block p.block hp hs)
theorem aY.frozen{n₀:Nat}{S:Nat->Prop}{w w':World}(h:aY n₀ S w w'){p:Addr}(hp:p.block<n₀)(hs:¬S p.block):w'.frozen? p=w.frozen? p:=World.frozen?_of_block (w:=w) (h.block p.block hp hs)
theorem CO{n₀:Nat}{S:Nat->Prop}{w:World}(hn:n₀<=w.heap.size)(W:World)(l:Nat)(o o':Obj)(hl:w.heap.size<=l)(h:W.heap[l]?=some o)(_:o.isCells=false)(_:o.isWalk=false):aY n₀ S W (W.putObj l o'):=
 aY.of_below ((Below.refl n₀ W).grown (grownBy_putObj' W l o') (by have:=(Array.getElem?_eq_some_iff.1 h).1;omega) (λk e=>by cases e;omega)) (Nat.le_refl _)
theorem aV.move{w w':World}{g:Nat}{cs:List Value}{t:TypeId}(h:aV w g cs t)(e:w'.heap[g]?=w.heap[g]?):aV w' g cs t:=e.trans h
theorem aV.set2{w:World}{g:Nat}{a b:Value}{t:TypeId}(h:aV w g [a,b] t)(u v:Value):aV ((w.setCell ⟨g,0,none⟩ u).setCell ⟨g,1,none⟩ v) g [u,v] t:=by
 have:=fV (fV h 0 u) 1 v
 exact this
theorem qX{α:Type}{d:Kd α}{e:Nat}{w:World}{base:Nat}{ok:Nat->Prop}{v:Value}{xs:List α}(h:d.R e w base ok v xs):∃A n c,v= .slice A n c:=by
 obtain⟨a_,b_,e_,_,_⟩:=Kd.dB h
 exact⟨_,_,_,e_⟩
theorem size_set(w:World)(p:Addr)(u:Value):(w.setCell p u).heap.size=w.heap.size:=by simp[World.setCell]
theorem size_alloc(w:World)(o:Obj):w.heap.size<(w.alloc o).heap.size:=by simp
def aX(n lo hi:Int):Bool:=decide (lo<=n)&&decide (n<=hi)
theorem iW(n lo hi:Int)(w:World):
  Calls Tryz.prog 201 #[.int .i64 n,.int .i64 lo,.int .i64 hi] w λe w'=>e= .returned (.bool (aX n lo hi))/\Below w.heap.size w w':=by
 refine(gN.calls n lo hi (aX n lo hi) w ?_).mono ?_
 .unfold gN.f aX
  by_cases h:lo<=n<;>simp[h]
 .rintro e w' ⟨h1,h2⟩
  exact⟨h1,h2.below⟩
theorem A8(n:Int)(w:World):Calls Tryz.prog 200 #[.int .i64 n] w λe w'=>e= .returned (.bool (aX n 0 10000))/\Below w.heap.size w w':=by
 refine(kV.calls n (aX n 0 10000) w ?_).mono ?_
 .unfold kV.f gN.f aX
  by_cases h:0<=n<;>simp[h]
 .rintro e w' ⟨h1,h2⟩
  exact⟨h1,h2.below⟩
def iC(lo hi b:Int):Bool:=decide (0<=lo)&&(decide (lo<=hi)&&decide (hi<=b))
theorem qx(lo hi b:Int)(w:World):
  Calls Tryz.prog 256 #[.agg #[.int .i64 lo,.int .i64 hi],.int .i64 b] w λe w'=>e= .returned (.bool (iC lo hi b))/\Below w.heap.size w w':=by
 refine iM.calls lo hi b (iC lo hi b) w ?_
 unfold iM.f iC
 by_cases h:0<=lo<;>by_cases h':lo<=hi<;>simp[h,h']
structure RS(w:World)(A0:Option Addr)(c0:Nat)(old:List Int)(A2:Option Addr)(c2:Nat)(ss:List eY)(A3:Option Addr)(c3:Nat)(js:List jU):Prop where
 UZ:Kd.C (Kd.int .i64) w A0 old.length old
 l0:old.length<=c0
 UY:Kd.C zu w A2 ss.length ss
 l2:ss.length<=c2
 kjo:Kd.C Kz w A3 js.length js
 l3:js.length<=c3
 b0:old.length<=281474976710656
 b2:ss.length<=281474976710656
 b3:js.length<=281474976710656
theorem RS.below{w w1:World}{A0:Option Addr}{c0:Nat}{old:List Int}{A2:Option Addr}{c2:Nat}{ss:List eY}{A3:Option Addr}{c3:Nat}{js:List jU}(h:RS w A0 c0 old A2 c2 ss A3 c3 js)(hb:Below w.heap.size w w1):RS w1 A0 c0 old A2 c2 ss A3 c3 js:=
 ⟨Kd.aC h.UZ hb,h.l0,Kd.aC h.UY hb,h.l2,Kd.aC h.kjo hb,h.l3,h.b0,h.b2,h.b3⟩
def kF(no:Nat)(nw:Int)(x:eY):Bool:=aX x.f0 0 ((no:Int)-1)&&(aX x.f1 0 (nw-1)&&(aX x.f2 0 1000&&iC x.f3.f0 x.f3.f1 10000))
def xJ(ns:Nat)(x:jU):Bool:=aX x.f0 0 ((ns:Int)-1)&&(aX x.f1 0 ((ns:Int)-1)&&(x.f0 !=x.f1))
set_option maxHeartbeats 4000000 in
theorem Cu{A0:Option Addr}{c0 no:Nat}{nw:Int}{A2:Option Addr}{c2 ns:Nat}{A3:Option Addr}{c3 nj:Nat}(x:eY)(w:World)(hno:no<=281474976710656)(hnw:0<=nw/\nw<=1000):
  Calls Tryz.prog 197 #[.agg #[.slice A0 no c0,.int .i64 nw,.slice A2 ns c2,.slice A3 nj c3],.agg #[.int .i64 x.f0,.int .i64 x.f1,.int .i64 x.f2,.int .i64 x.f3.f0,.int .i64 x.f3.f1]] w λe w'=>e= .returned (.bool (kF no nw x))/\Below w.heap.size w w':=by
 obtain⟨y0,y1,y2,y3,y4⟩:=x
 have hw0:wrap64 ((no:Int)-1)=(no:Int)-1:=by unfold wrap64;omega
 have hw1:wrap64 (nw-1)=nw-1:=by unfold wrap64;omega
 unfold kF
 simp only
 go_enter Tryz.func197,Tryz.ntmps197
 go_wp2_with fail
 have HB:=aa.mk (ae (ae (Below.refl w.heap.size w) (.cells #[.slice A0 no c0,.int .i64 nw,.slice A2 ns c2,.slice A3 nj c3] 146)) (.cells #[.int .i64 y0,.int .i64 y1,.int .i64 y2,.int .i64 y3,.int .i64 y4] 142))
 have B2:=aa.mk ((aV.new w [.slice A0 no c0,.int .i64 nw,.slice A2 ns c2,.slice A3 nj c3] 146).alloc (.cells #[.int .i64 y0,.int .i64 y1,.int .i64 y2,.int .i64 y3,.int .i64 y4] 142))
 have B3:=aa.mk (show aV _ (w.heap.size+1) _ _ by simpa using aV.new (w.alloc (.cells #[.slice A0 no c0,.int .i64 nw,.slice A2 ns c2,.slice A3 nj c3] 146)) [.int .i64 y0,.int .i64 y1,.int .i64 y2,.int .i64 y3,.int .i64 y4] 142)
 generalize(w.alloc (.cells #[.slice A0 no c0,.int .i64 nw,.slice A2 ns c2,.slice A3 nj c3] 146)).alloc (.cells #[.int .i64 y0,.int .i64 y1,.int .i64 y2,.int .i64 y3,.int .i64 y4] 142)=w0 at HB B2 B3 ⊢
 refine(iW y0 0 ((no:Int)-1) w0).mono ?_
 rintro e w1 ⟨rfl,hb1⟩
 have HB1:=aa.mk (HB.out.trans (hb1.mono HB.out.size))
 have Cm:=aa.mk (B2.out.below hb1)
 have Mf:=aa.mk (B3.out.below hb1)
 clear hb1 HB B2 B3
 cases h1:aX y0 0 ((no:Int)-1)
 .go_wp2
  go_ret
  exact⟨bB (by simp[h1]),HB1.out⟩
 have h20:=Cm.out.cell 0
 have h21:=Cm.out.cell 1
 have tJ:=Mf.out.cell 0
 have h31:=Mf.out.cell 1
 have h32:=Mf.out.cell 2
 simp only[dZ,dY] at h20 h21 tJ h31 h32
 go_wp2_with fail
 refine(iW y1 0 (nw-1) w1).mono ?_
 rintro e w2 ⟨rfl,hb2⟩
 have HB2:=aa.mk (HB1.out.trans (hb2.mono HB1.out.size))
 have P9:=aa.mk (Mf.out.below hb2)
 clear hb2 HB1 Cm Mf h20 h21 tJ h31 h32
 cases h2:aX y1 0 (nw-1)
 .go_wp2
  go_ret
  exact⟨bB (by simp[h1,h2]),HB2.out⟩
 have h32:=P9.out.cell 2
 simp only[dZ,dY] at h32
 go_wp2_with fail
 refine(iW y2 0 1000 w2).mono ?_
 rintro e w3 ⟨rfl,hb3⟩
 have HB3:=aa.mk (HB2.out.trans (hb3.mono HB2.out.size))
 have B33:=aa.mk (P9.out.below hb3)
 clear hb3 HB2 P9 h32
 cases h3:aX y2 0 1000
 .go_wp2
  go_ret
  exact⟨bB (by simp[h1,h2,h3]),HB3.out⟩
 have h33:=B33.out.cell 3
 have h34:=B33.out.cell 4
 simp only[dZ,dY] at h33 h34
 go_wp2_with fail
 refine(qx y3 y4 10000 w3).mono ?_
 rintro e w4 ⟨rfl,hb4⟩
 have pY:=aa.mk (HB3.out.trans (hb4.mono HB3.out.size))
 clear hb4
 cases h4:iC y3 y4 10000
 .go_wp2
  go_ret
  exact⟨bB (by simp[h1,h2,h3,h4]),pY.out⟩
 .go_wp2
  go_ret
  exact⟨bB (by simp[h1,h2,h3,h4]),pY.out⟩
set_option maxHeartbeats 4000000 in
theorem GN{A0:Option Addr}{c0 no:Nat}{nw:Int}{A2:Option Addr}{c2 ns:Nat}{A3:Option Addr}{c3 nj:Nat}(x:jU)(w:World)(hns:ns<=281474976710656):
  Calls Tryz.prog 198 #[.agg #[.slice A0 no c0,.int .i64 nw,.slice A2 ns c2,.slice A3 nj c3],.agg #[.int .i64 x.f0,.int .i64 x.f1]] w λe w'=>e= .returned (.bool (xJ ns x))/\Below w.heap.size w w':=by
 obtain⟨y0,y1⟩:=x
 have hw0:wrap64 ((ns:Int)-1)=(ns:Int)-1:=by unfold wrap64;omega
 unfold xJ
 simp only
 go_enter Tryz.func198,Tryz.ntmps198
 go_wp2_with fail
 have HB:=aa.mk (ae (ae (Below.refl w.heap.size w) (.cells #[.slice A0 no c0,.int .i64 nw,.slice A2 ns c2,.slice A3 nj c3] 146)) (.cells #[.int .i64 y0,.int .i64 y1] 331))
 have B2:=aa.mk ((aV.new w [.slice A0 no c0,.int .i64 nw,.slice A2 ns c2,.slice A3 nj c3] 146).alloc (.cells #[.int .i64 y0,.int .i64 y1] 331))
 have B3:=aa.mk (show aV _ (w.heap.size+1) _ _ by simpa using aV.new (w.alloc (.cells #[.slice A0 no c0,.int .i64 nw,.slice A2 ns c2,.slice A3 nj c3] 146)) [.int .i64 y0,.int .i64 y1] 331)
 generalize(w.alloc (.cells #[.slice A0 no c0,.int .i64 nw,.slice A2 ns c2,.slice A3 nj c3] 146)).alloc (.cells #[.int .i64 y0,.int .i64 y1] 331)=w0 at HB B2 B3 ⊢
 refine(iW y0 0 ((ns:Int)-1) w0).mono ?_
 rintro e w1 ⟨rfl,hb1⟩
 have HB1:=aa.mk (HB.out.trans (hb1.mono HB.out.size))
 have Cm:=aa.mk (B2.out.below hb1)
 have Mf:=aa.mk (B3.out.below hb1)
 clear hb1 HB B2 B3
 cases h1:aX y0 0 ((ns:Int)-1)
 .go_wp2
  go_ret
  exact⟨bB (by simp[h1]),HB1.out⟩
 have h22:=Cm.out.cell 2
 have h31:=Mf.out.cell 1
 simp only[dZ,dY] at h22 h31
 go_wp2_with fail
 refine(iW y1 0 ((ns:Int)-1) w1).mono ?_
 rintro e w2 ⟨rfl,hb2⟩
 have HB2:=aa.mk (HB1.out.trans (hb2.mono HB1.out.size))
 have P9:=aa.mk (Mf.out.below hb2)
 clear hb2 HB1 Cm Mf h22 h31
 cases h2:aX y1 0 ((ns:Int)-1)
 .go_wp2
  go_ret
  exact⟨bB (by simp[h1,h2]),HB2.out⟩
 have tJ:=P9.out.cell 0
 have h31:=P9.out.cell 1
 simp only[dZ,dY] at tJ h31
 cases h3:(y0 !=y1)
 .go_wp2
  go_ret
  exact⟨bB (by simp only[h1,h2,h3,Bool.and_self,Bool.and_false]),HB2.out⟩
 .go_wp2
  go_ret
  exact⟨bB (by simp only[h1,h2,h3,Bool.and_self,Bool.and_false]),HB2.out⟩
end Go.Proofs.YtdekaocdmjndaaaGreat
