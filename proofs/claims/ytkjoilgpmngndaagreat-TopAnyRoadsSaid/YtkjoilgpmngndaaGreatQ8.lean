import Derived.LoopIn
import Derived.LoopNIn
import Derived.OwnWalkIn
import Derived.RangeFuncBound
import Derived.RangeFuncCalls
import Derived.RangeFuncLeaves
import Derived.RangeFuncNested
import Derived.Shelf.Abstract
import Derived.Shelf.RegionOpen
import Derived.Test.YtkjoilgpmngndaaGreatQ7
set_option linter.all false
namespace Go.Proofs.YtkjoilgpmngndaaGreat.Wk
open Go.RowKit au YtkjoilgpmngndaaGreatW.aj
def dJ(xs:List dP)(k:Nat):dP:=iA xs (k:Int)
def bM(xs:List aV)(k:Nat):aV:=bZ xs (k:Int)
def dF(xs:List Int)(k:Nat):Int:=rd xs (k:Int)
def oJ(x:dP):Value:= .agg #[.int .i64 x.f0,.int .i64 x.f1]
def kK(g:Nat)(first cap:Array Value)(p:dP->Bool)(w:World):Prop:=
 ∀(W:World) (x:dP),Below w.heap.size w W->Calls Tryz.prog g (first.push (oJ x)++cap) W λe w'=>e= .returned (.bool (p x))/\Below W.heap.size W w'
theorem kK.later{g:Nat}{first cap:Array Value}{p:dP->Bool}{w W:World}(h:kK g first cap p w)(hb:Below w.heap.size w W):kK g first cap p W:=
 λW' x hb'=>h W' x (hb.trans (hb'.mono hb.size))
set_option maxHeartbeats 1000000 in
theorem H5(g:Nat)(cap:Array Value)(hg:∀args w,(callFunc g args).run Tryz.prog w= .ok (.enter g args) w)(p:dP->Bool)(A:Option Addr)(c:Nat)(xs:List dP)(w:World)
  (hr:Kd.C CV w A xs.length xs) (hlen:xs.length<=9223372036854775807) (hp:kK g #[] cap p w):
  Calls Tryz.prog 133 #[.slice A xs.length c,.func (.func g) #[] cap] w λe w'=>e= .returned (.int .i64 (fi p xs 0))/\Below w.heap.size w w':=by
 have HR:=aa.mk hr
 have HP:=aa.mk hp
 clear hr hp
 go_enter Tryz.func133,Tryz.ntmps133
 go_wp2
 go_loopw [8] (λv wr=>∃k:Nat,k<=xs.length/\v= .int .i64 k/\aa (Below w.heap.size w wr)/\aa (fi p xs 0=fi p (xs.drop k) k)) (λv _=>xs.length-(intOf v).toNat)
 case atStart=>exact⟨0,Nat.zero_le _,rfl,⟨Below.refl _ _⟩,⟨rfl⟩⟩
 case round=>
  obtain⟨k,hk,rfl,HB,HF⟩:=hrel
  by_cases hlt:k<xs.length
  .obtain⟨ad,e,h0,h1⟩:=Cr HR.out k (by omega) (by omega)
   cases e
   have hb:=HB.out
   replace h0:=(hb.cell (World.block_lt_of_cell? w _ h0)).trans h0
   replace h1:=(hb.cell (World.block_lt_of_cell? w _ h1)).trans h1
   simp only[Int.toNat_natCast] at h0 h1
   clear hb HR
   go_wp2_with fail
   have hc:=HP.out wr (dJ xs k) HB.out
   simp only[oJ,dJ,List.push_toArray,List.nil_append] at hc
   have hfs:=aa.mk (nC p xs k z88 hlt)
   rw[show xs.getD k z88=dJ xs k from by simp[dJ,iA,Int.toNat_natCast]] at hfs
   have HX:aa (∃y,y=dJ xs k):=⟨⟨_,rfl⟩⟩
   refine(hc).mono ?_
   rintro e w' ⟨rfl,hb'⟩
   have yE:=aa.mk (bQ HB.out hb')
   clear hb' h0 h1 hc HB
   cases hpx:p (dJ xs k)
   .simp only[dJ] at hpx
    have pJ:=aa.mk hpx
    clear hpx
    simp only[pJ.out]
    go_wp2
    go_roundw
    case rel=>exact⟨k+1,by omega,by go_num,yE,⟨by rw[HF.out,hfs.out,if_neg (by simp[dJ,pJ.out])]⟩⟩
    case measure=>simp[intOf];omega
   .simp only[dJ] at hpx
    have pJ:=aa.mk hpx
    clear hpx
    simp only[pJ.out]
    go_wp2
    go_ret
    exact⟨fC (by rw[HF.out,hfs.out,if_pos (by simp[dJ,pJ.out])]),yE.out⟩
  .have hk':k=xs.length:=by omega
   subst hk'
   go_wp2
   go_ret
   exact⟨fC (by rw[HF.out,List.drop_length];rfl),HB.out⟩
def Ij(x:aV):Value:= .agg #[.int .i64 x.f0,.int .i64 x.f1,.int .i64 x.f2.f0,.int .i64 x.f2.f1]
def uW(g:Nat)(first cap:Array Value)(p:aV->Bool)(w:World):Prop:=
 ∀(W:World) (x:aV),Below w.heap.size w W->Calls Tryz.prog g (first.push (Ij x)++cap) W λe w'=>e= .returned (.bool (p x))/\Below W.heap.size W w'
theorem uW.later{g:Nat}{first cap:Array Value}{p:aV->Bool}{w W:World}(h:uW g first cap p w)(hb:Below w.heap.size w W):uW g first cap p W:=
 λW' x hb'=>h W' x (hb.trans (hb'.mono hb.size))
set_option maxHeartbeats 1000000 in
theorem Ke(g:Nat)(cap:Array Value)(hg:∀args w,(callFunc g args).run Tryz.prog w= .ok (.enter g args) w)(p:aV->Bool)(A:Option Addr)(c:Nat)(xs:List aV)(w:World)
  (hr:Kd.C tF w A xs.length xs) (hlen:xs.length<=9223372036854775807) (hp:uW g #[] cap p w):
  Calls Tryz.prog 126 #[.slice A xs.length c,.func (.func g) #[] cap] w λe w'=>e= .returned (.int .i64 (fi p xs 0))/\Below w.heap.size w w':=by
 have HR:=aa.mk hr
 have HP:=aa.mk hp
 clear hr hp
 go_enter Tryz.func126,Tryz.ntmps126
 go_wp2
 go_loopw [8] (λv wr=>∃k:Nat,k<=xs.length/\v= .int .i64 k/\aa (Below w.heap.size w wr)/\aa (fi p xs 0=fi p (xs.drop k) k)) (λv _=>xs.length-(intOf v).toNat)
 case atStart=>exact⟨0,Nat.zero_le _,rfl,⟨Below.refl _ _⟩,⟨rfl⟩⟩
 case round=>
  obtain⟨k,hk,rfl,HB,HF⟩:=hrel
  by_cases hlt:k<xs.length
  .obtain⟨ad,e,h0,h1,h2,h3⟩:=sN HR.out k (by omega) (by omega)
   cases e
   have hb:=HB.out
   replace h0:=(hb.cell (World.block_lt_of_cell? w _ h0)).trans h0
   replace h1:=(hb.cell (World.block_lt_of_cell? w _ h1)).trans h1
   replace h2:=(hb.cell (World.block_lt_of_cell? w _ h2)).trans h2
   replace h3:=(hb.cell (World.block_lt_of_cell? w _ h3)).trans h3
   simp only[Int.toNat_natCast] at h0 h1 h2 h3
   clear hb HR
   go_wp2_with fail
   have hc:=HP.out wr (bM xs k) HB.out
   simp only[Ij,bM,List.push_toArray,List.nil_append] at hc
   have hfs:=aa.mk (nC p xs k z141 hlt)
   rw[show xs.getD k z141=bM xs k from by simp[bM,bZ,Int.toNat_natCast]] at hfs
   have HX:aa (∃y,y=bM xs k):=⟨⟨_,rfl⟩⟩
   refine(hc).mono ?_
   rintro e w' ⟨rfl,hb'⟩
   have yE:=aa.mk (bQ HB.out hb')
   clear hb' h0 h1 h2 h3 hc HB
   cases hpx:p (bM xs k)
   .simp only[bM] at hpx
    have pJ:=aa.mk hpx
    clear hpx
    simp only[pJ.out]
    go_wp2
    go_roundw
    case rel=>exact⟨k+1,by omega,by go_num,yE,⟨by rw[HF.out,hfs.out,if_neg (by simp[bM,pJ.out])]⟩⟩
    case measure=>simp[intOf];omega
   .simp only[bM] at hpx
    have pJ:=aa.mk hpx
    clear hpx
    simp only[pJ.out]
    go_wp2
    go_ret
    exact⟨fC (by rw[HF.out,hfs.out,if_pos (by simp[bM,pJ.out])]),yE.out⟩
  .have hk':k=xs.length:=by omega
   subst hk'
   go_wp2
   go_ret
   exact⟨fC (by rw[HF.out,List.drop_length];rfl),HB.out⟩
def j6(x:Int):Value:= .int .i64 x
def iD(g:Nat)(first cap:Array Value)(p:Int->Bool)(w:World):Prop:=
 ∀(W:World) (x:Int),Below w.heap.size w W->Calls Tryz.prog g (first.push (j6 x)++cap) W λe w'=>e= .returned (.bool (p x))/\Below W.heap.size W w'
theorem iD.later{g:Nat}{first cap:Array Value}{p:Int->Bool}{w W:World}(h:iD g first cap p w)(hb:Below w.heap.size w W):iD g first cap p W:=
 λW' x hb'=>h W' x (hb.trans (hb'.mono hb.size))
set_option maxHeartbeats 1000000 in
theorem yS(g:Nat)(cap:Array Value)(hg:∀args w,(callFunc g args).run Tryz.prog w= .ok (.enter g args) w)(p:Int->Bool)(A:Option Addr)(c:Nat)(xs:List Int)(w:World)
  (hr:Kd.C (Kd.int .i64) w A xs.length xs) (hlen:xs.length<=9223372036854775807) (hp:iD g #[] cap p w):
  Calls Tryz.prog 131 #[.slice A xs.length c,.func (.func g) #[] cap] w λe w'=>e= .returned (.int .i64 (fi p xs 0))/\Below w.heap.size w w':=by
 have HR:=aa.mk hr
 have HP:=aa.mk hp
 clear hr hp
 go_enter Tryz.func131,Tryz.ntmps131
 go_wp2
 go_loopw [8] (λv wr=>∃k:Nat,k<=xs.length/\v= .int .i64 k/\aa (Below w.heap.size w wr)/\aa (fi p xs 0=fi p (xs.drop k) k)) (λv _=>xs.length-(intOf v).toNat)
 case atStart=>exact⟨0,Nat.zero_le _,rfl,⟨Below.refl _ _⟩,⟨rfl⟩⟩
 case round=>
  obtain⟨k,hk,rfl,HB,HF⟩:=hrel
  by_cases hlt:k<xs.length
  .obtain⟨ad,e,h0⟩:=Kd.cK HR.out k (by omega) (by omega)
   cases e
   have hb:=HB.out
   replace h0:=(hb.cell (World.block_lt_of_cell? w _ h0)).trans h0
   simp only[Int.toNat_natCast] at h0
   clear hb HR
   go_wp2_with fail
   have hc:=HP.out wr (dF xs k) HB.out
   simp only[j6,dF,List.push_toArray,List.nil_append] at hc
   have hfs:=aa.mk (nC p xs k 0 hlt)
   rw[show xs.getD k 0=dF xs k from by simp[dF,rd,Int.toNat_natCast]] at hfs
   have HX:aa (∃y,y=dF xs k):=⟨⟨_,rfl⟩⟩
   refine(hc).mono ?_
   rintro e w' ⟨rfl,hb'⟩
   have yE:=aa.mk (bQ HB.out hb')
   clear hb' h0 hc HB
   cases hpx:p (dF xs k)
   .simp only[dF] at hpx
    have pJ:=aa.mk hpx
    clear hpx
    simp only[pJ.out]
    go_wp2
    go_roundw
    case rel=>exact⟨k+1,by omega,by go_num,yE,⟨by rw[HF.out,hfs.out,if_neg (by simp[dF,pJ.out])]⟩⟩
    case measure=>simp[intOf];omega
   .simp only[dF] at hpx
    have pJ:=aa.mk hpx
    clear hpx
    simp only[pJ.out]
    go_wp2
    go_ret
    exact⟨fC (by rw[HF.out,hfs.out,if_pos (by simp[dF,pJ.out])]),yE.out⟩
  .have hk':k=xs.length:=by omega
   subst hk'
   go_wp2
   go_ret
   exact⟨fC (by rw[HF.out,List.drop_length];rfl),HB.out⟩
theorem Ce(g:Nat)(cap:Array Value)(hg:∀args w,(callFunc g args).run Tryz.prog w= .ok (.enter g args) w)(p:dP->Bool)(A:Option Addr)(c:Nat)(xs:List dP)(w:World)
  (hr:Kd.C CV w A xs.length xs) (hlen:xs.length<=9223372036854775807) (hp:kK g #[] cap p w):
  Calls Tryz.prog 107 #[.slice A xs.length c,.func (.func g) #[] cap] w λe w'=>e= .returned (.bool (xs.any p))/\Below w.heap.size w w':=by
 go_enter Tryz.func107,Tryz.ntmps107
 go_wp2_with fail
 refine(H5 g cap hg p A c xs w hr hlen hp).mono ?_
 rintro e w' ⟨rfl,hb⟩
 obtain⟨j,hj⟩:∃j,fi p xs 0=j:=⟨_,rfl⟩
 have hn:=aa.mk (jY p xs 0)
 rw[hj] at hn ⊢
 clear hj
 go_wp2
 go_ret
 exact⟨bP (by rw[<- hn.out]),hb⟩
theorem oC(g:Nat)(cap:Array Value)(hg:∀args w,(callFunc g args).run Tryz.prog w= .ok (.enter g args) w)(p:Int->Bool)(A:Option Addr)(c:Nat)(xs:List Int)(w:World)
  (hr:Kd.C (Kd.int .i64) w A xs.length xs) (hlen:xs.length<=9223372036854775807) (hp:iD g #[] cap p w):
  Calls Tryz.prog 103 #[.slice A xs.length c,.func (.func g) #[] cap] w λe w'=>e= .returned (.bool (xs.any p))/\Below w.heap.size w w':=by
 go_enter Tryz.func103,Tryz.ntmps103
 go_wp2_with fail
 refine(yS g cap hg p A c xs w hr hlen hp).mono ?_
 rintro e w' ⟨rfl,hb⟩
 obtain⟨j,hj⟩:∃j,fi p xs 0=j:=⟨_,rfl⟩
 have hn:=aa.mk (jY p xs 0)
 rw[hj] at hn ⊢
 clear hj
 go_wp2
 go_ret
 exact⟨bP (by rw[<- hn.out]),hb⟩
theorem KZ(g:Nat)(first cap:Array Value)(hg:∀args w,(callFunc g args).run Tryz.prog w= .ok (.enter g args) w)(p:dP->Bool)(x:dP)(gp:Nat)(w:World)
  (hc:w.cell? ⟨gp,0,none⟩=some (.func (.func g) first cap)) (hp:kK g first cap p w):
  Calls Tryz.prog 108 ((#[]:Array Value).push (oJ x)++#[.pointer (some ⟨gp,0,none⟩)]) w λe w'=>e= .returned (.bool (!p x))/\Below w.heap.size w w':=by
 simp only[Array.empty_append,List.push_toArray,List.append_toArray,List.nil_append,List.cons_append,oJ]
 have YD:gp<w.heap.size:=World.block_lt_of_cell? w _ hc
 have HP:=aa.mk hp
 clear hp
 go_enter Tryz.func108,Tryz.ntmps108
 go_wp2_with fail
 have hc:=HP.out _ x ((Below.refl w.heap.size w).alloc (Nat.le_refl _) (.cells #[.int .i64 x.f0,.int .i64 x.f1] 88))
 simp only[oJ] at hc
 refine hc.mono ?_
 rintro e w' ⟨rfl,hb⟩
 obtain⟨b,hb1⟩:∃b,p x=b:=⟨_,rfl⟩
 rw[hb1]
 go_wp2
 go_ret
 exact⟨bP (by rw[hb1]),bQ ((Below.refl w.heap.size w).alloc (Nat.le_refl _) (.cells #[.int .i64 x.f0,.int .i64 x.f1] 88)) hb⟩
theorem Pv(g:Nat)(first cap:Array Value)(hg:∀args w,(callFunc g args).run Tryz.prog w= .ok (.enter g args) w)(p:dP->Bool)(A:Option Addr)(c:Nat)(xs:List dP)(w:World)
  (hr:Kd.C CV w A xs.length xs) (hlen:xs.length<=9223372036854775807) (hp:kK g first cap p w):
  Calls Tryz.prog 70 #[.slice A xs.length c,.func (.func g) first cap] w λe w'=>e= .returned (.bool (xs.all p))/\Below w.heap.size w w':=by
 go_enter Tryz.func70,Tryz.ntmps70
 have HR:=aa.mk hr
 have HP:=aa.mk hp
 clear hr hp
 go_wp2_with fail
 have hB:Below w.heap.size w (w.alloc (.cells #[.func (.func g) first cap] 164)):=(Below.refl _ _).alloc (Nat.le_refl _) _
 refine(Ce 108 #[.pointer (some ⟨w.heap.size,0,none⟩)] (enters Tryz.func108 (by kernel_rfl) rfl) (λx=>!p x) A c xs _ (Kd.av HR.out hB) hlen ?_).mono ?_
 .intro W x hW
  refine KZ g first cap hg p x w.heap.size W ?_ (HP.out.later (hB.trans (hW.mono hB.size)))
  rw[hW.cell (p:=⟨w.heap.size,0,none⟩) (by simp)]
  simp
 rintro e w' ⟨rfl,hb⟩
 have hn:=aa.mk (List.any_eq_not_all_not (l:=xs) (p:=λx=>!p x))
 obtain⟨j,hj⟩:∃j,(xs.any λx=>!p x)=j:=⟨_,rfl⟩
 rw[hj] at hn ⊢
 clear hj
 go_wp2
 go_ret
 exact⟨bP (by rw[hn.out];simp),bQ hB hb⟩
theorem Cs(g:Nat)(first cap:Array Value)(hg:∀args w,(callFunc g args).run Tryz.prog w= .ok (.enter g args) w)(p:Int->Bool)(x:Int)(gp:Nat)(w:World)
  (hc:w.cell? ⟨gp,0,none⟩=some (.func (.func g) first cap)) (hp:iD g first cap p w):
  Calls Tryz.prog 104 ((#[]:Array Value).push (j6 x)++#[.pointer (some ⟨gp,0,none⟩)]) w λe w'=>e= .returned (.bool (!p x))/\Below w.heap.size w w':=by
 simp only[Array.empty_append,List.push_toArray,List.append_toArray,List.nil_append,List.cons_append,j6]
 have YD:gp<w.heap.size:=World.block_lt_of_cell? w _ hc
 have HP:=aa.mk hp
 clear hp
 go_enter Tryz.func104,Tryz.ntmps104
 go_wp2_with fail
 have hc:=HP.out _ x (Below.refl _ _)
 simp only[j6] at hc
 refine hc.mono ?_
 rintro e w' ⟨rfl,hb⟩
 obtain⟨b,hb1⟩:∃b,p x=b:=⟨_,rfl⟩
 rw[hb1]
 go_wp2
 go_ret
 exact⟨bP (by rw[hb1]),bQ (Below.refl _ _) hb⟩
theorem Ah(g:Nat)(first cap:Array Value)(hg:∀args w,(callFunc g args).run Tryz.prog w= .ok (.enter g args) w)(p:Int->Bool)(A:Option Addr)(c:Nat)(xs:List Int)(w:World)
  (hr:Kd.C (Kd.int .i64) w A xs.length xs) (hlen:xs.length<=9223372036854775807) (hp:iD g first cap p w):
  Calls Tryz.prog 67 #[.slice A xs.length c,.func (.func g) first cap] w λe w'=>e= .returned (.bool (xs.all p))/\Below w.heap.size w w':=by
 go_enter Tryz.func67,Tryz.ntmps67
 have HR:=aa.mk hr
 have HP:=aa.mk hp
 clear hr hp
 go_wp2_with fail
 have hB:Below w.heap.size w (w.alloc (.cells #[.func (.func g) first cap] 118)):=(Below.refl _ _).alloc (Nat.le_refl _) _
 refine(oC 104 #[.pointer (some ⟨w.heap.size,0,none⟩)] (enters Tryz.func104 (by kernel_rfl) rfl) (λx=>!p x) A c xs _ (Kd.av HR.out hB) hlen ?_).mono ?_
 .intro W x hW
  refine Cs g first cap hg p x w.heap.size W ?_ (HP.out.later (hB.trans (hW.mono hB.size)))
  rw[hW.cell (p:=⟨w.heap.size,0,none⟩) (by simp)]
  simp
 rintro e w' ⟨rfl,hb⟩
 have hn:=aa.mk (List.any_eq_not_all_not (l:=xs) (p:=λx=>!p x))
 obtain⟨j,hj⟩:∃j,(xs.any λx=>!p x)=j:=⟨_,rfl⟩
 rw[hj] at hn ⊢
 clear hj
 go_wp2
 go_ret
 exact⟨bP (by rw[hn.out];simp),bQ hB hb⟩
structure IsMap(w:World)(A0:Option Addr)(c0:Nat)(W:List dP)(A1:Option Addr)(c1:Nat)(R:List aV):Prop where
 work:Kd.C CV w A0 W.length W
 lw:W.length<=c0
 roads:Kd.C tF w A1 R.length R
 lr:R.length<=c1
 bw:W.length<=281474976710656
 br:R.length<=281474976710656
theorem IsMap.below{w w1:World}{A0:Option Addr}{c0:Nat}{W:List dP}{A1:Option Addr}{c1:Nat}{R:List aV}(h:IsMap w A0 c0 W A1 c1 R)(hb:Below w.heap.size w w1):IsMap w1 A0 c0 W A1 c1 R:=
 ⟨Kd.av h.work hb,h.lw,Kd.av h.roads hb,h.lr,h.bw,h.br⟩
def il(R:List aV)(a b:Int):Int:=fi (λr=>fq r a b) R 0
set_option maxHeartbeats 800000 in
theorem wo{A0:Option Addr}{c0:Nat}{W:List dP}{A1:Option Addr}{c1:Nat}{R:List aV}(a b:Int){w:World}(h:IsMap w A0 c0 W A1 c1 R):
  Calls Tryz.prog 97 #[.agg #[.slice A0 W.length c0,.slice A1 R.length c1],.int .i64 a,.int .i64 b] w λe w'=>e= .returned (.int .i64 (il R a b))/\Below w.heap.size w w':=by
 have H:=aa.mk h
 clear h
 go_enter Tryz.func97,Tryz.ntmps97
 go_wp2_with fail
 have hB:Below w.heap.size w (((w.alloc (.cells #[.slice A0 W.length c0,.slice A1 R.length c1] 78)).alloc (.cells #[.int .i64 a] 3)).alloc (.cells #[.int .i64 b] 3)):=ae (ae (ae (Below.refl _ _) _) _) _
 refine(Ke 127 _ (enters Tryz.func127 (by kernel_rfl) rfl) (λr=>fq r a b) A1 c1 R _ (H.out.below hB).roads (by have:=H.out.br;omega) ?_).mono ?_
 .intro W' x hW
  have:=GN x a b (w.heap.size+1) (w.heap.size+2) W' (by rw[hW.cell (p:=⟨w.heap.size+1,0,none⟩) (by simp)];simp[go_sem]) (by rw[hW.cell (p:=⟨w.heap.size+2,0,none⟩) (by simp)];simp[go_sem])
  exact this
 rintro e w' ⟨rfl,hb⟩
 have hres:fi (λr=>fq r a b) R 0=il R a b:=rfl
 rw[hres]
 clear hres
 obtain⟨j,hj⟩:∃j,il R a b=j:=⟨_,rfl⟩
 rw[hj]
 have HJ:=aa.mk hj
 clear hj
 go_wp2
 go_ret
 exact⟨fC HJ.out.symm,bQ hB hb⟩
def ib(n:Nat)(x:Int):Bool:=aK x 0 ((n:Int)-1)
theorem lS{A0:Option Addr}{c0:Nat}{W:List dP}{A1:Option Addr}{c1:Nat}{R:List aV}(a:Int){w:World}(h:IsMap w A0 c0 W A1 c1 R):
  Calls Tryz.prog 63 #[.agg #[.slice A0 W.length c0,.slice A1 R.length c1],.int .i64 a] w λe w'=>e= .returned (.bool (ib W.length a))/\Below w.heap.size w w':=by
 refine l9.calls A0 c0 W A1 c1 R a (ib W.length a) w h.work h.lw h.roads h.lr ?_
 have hb:=h.bw
 have e:wrap64 ((W.length:Int)-1)=(W.length:Int)-1:=by unfold wrap64;omega
 unfold l9.f eu.f ib aK
 rw[e]
 by_cases h:0<=a<;>simp[h]
def qA(W:List dP)(R:List aV)(k:Nat):Bool:=
 ib W.length (bM R k).f0&&(ib W.length (bM R k).f1&&(!((bM R k).f0==(bM R k).f1)&&(iO (bM R k).f2.f0 (bM R k).f2.f1 1 50&&(il R (bM R k).f0 (bM R k).f1==(k:Int)))))
def jZ(W:List dP)(R:List aV):Bool:=(List.range R.length).all (qA W R)
theorem mf{W:List dP}{R:List aV}(k:Nat)(hk:k<R.length)(h:qA W R k=false):jZ W R=false:=by
 unfold jZ
 rw[List.all_eq_false]
 exact⟨k,by simpa using hk,by simp[h]⟩
theorem GM{W:List dP}{R:List aV}(h:∀j,j<R.length->qA W R j=true):jZ W R=true:=by
 unfold jZ
 rw[List.all_eq_true]
 intro x hx
 exact h x (by simpa using hx)
def aR(w:World)(g:Nat)(cs:List Value)(t:TypeId):Prop:=w.heap[g]?=some (.cells cs.toArray t (0,0))
theorem aR.below{w w1:World}{g:Nat}{cs:List Value}{t:TypeId}(h:aR w g cs t)(hb:Below w.heap.size w w1):aR w1 g cs t:=dn h hb
theorem aR.cell{w:World}{g:Nat}{cs:List Value}{t:TypeId}(h:aR w g cs t)(i:Nat):w.cell? ⟨g,i,none⟩=cs[i]?:=(aA h i).trans (by simp)
theorem aR.frozen{w:World}{g:Nat}{cs:List Value}{t:TypeId}(h:aR w g cs t)(i:Nat):w.frozen? ⟨g,i,none⟩=false:=aD h i
theorem aR.lt{w:World}{g:Nat}{cs:List Value}{t:TypeId}(h:aR w g cs t):g<w.heap.size:=iC h
theorem aR.new(w:World)(cs:List Value)(t:TypeId):aR (w.alloc (.cells cs.toArray t)) w.heap.size cs t:=heap_alloc_new w _
theorem aR.alloc{w:World}{g:Nat}{cs:List Value}{t:TypeId}(h:aR w g cs t)(o:Obj):aR (w.alloc o) g cs t:=ay h o
set_option maxHeartbeats 4000000 in
theorem GL{A0:Option Addr}{c0:Nat}{W:List dP}{A1:Option Addr}{c1:Nat}{R:List aV}{w:World}(h:IsMap w A0 c0 W A1 c1 R):
  Calls Tryz.prog 72 #[.agg #[.slice A0 W.length c0,.slice A1 R.length c1]] w λe w'=>e= .returned (.bool (jZ W R))/\Below w.heap.size w w':=by
 have H:=aa.mk h
 have hbr:=h.br
 have hbw:=h.bw
 clear h
 go_enter Tryz.func72,Tryz.ntmps72
 go_wp2_with fail
 go_loopw [11] (λv wr=>∃k:Nat,k<=R.length/\v= .int .i64 k/\aa (Below w.heap.size w wr)/\aa (aR wr w.heap.size [.slice A0 W.length c0,.slice A1 R.length c1] 78)/\aa (∀j,j<k->qA W R j=true)) (λv _=>R.length-(intOf v).toNat)
 case atStart=>exact⟨0,Nat.zero_le _,rfl,⟨ae (Below.refl _ _) _⟩,⟨aR.new _ _ _⟩,⟨λj hj=>absurd hj (Nat.not_lt_zero _)⟩⟩
 case round=>
  obtain⟨k,hk,rfl,HB,BK,HF⟩:=hrel
  by_cases hlt:k<R.length
  .have HM:=aa.mk (H.out.below HB.out)
   obtain⟨ad,e,h0,h1,h2,h3⟩:=sN HM.out.roads k (by omega) (by omega)
   cases e
   simp only[Int.toNat_natCast] at h0 h1 h2 h3
   obtain⟨r,hr⟩:∃r,bZ R (k:Int)=r:=⟨_,rfl⟩
   rw[hr] at h0 h1 h2 h3
   have HR:=aa.mk hr
   clear hr
   have HO:aa (qA W R k=(ib W.length r.f0&&(ib W.length r.f1&&(!(r.f0==r.f1)&&(iO r.f2.f0 r.f2.f1 1 50&&(il R r.f0 r.f1==(k:Int))))))):=⟨by unfold qA bM;rw[HR.out]⟩
   have hbk:=BK.out.lt
   have hz0:=BK.out.cell 0
   have hz1:=BK.out.cell 1
   simp only[eP,eO] at hz0 hz1
   go_wp2_with fail
   have HB0:=aa.mk (ae HB.out (.cells #[.int .i64 r.f0,.int .i64 r.f1,.int .i64 r.f2.f0,.int .i64 r.f2.f1] 141))
   have I6:=aa.mk (H.out.below HB0.out)
   have BK0:=aa.mk (BK.out.alloc (.cells #[.int .i64 r.f0,.int .i64 r.f1,.int .i64 r.f2.f0,.int .i64 r.f2.f1] 141))
   have BR0:=aa.mk (aR.new wr [.int .i64 r.f0,.int .i64 r.f1,.int .i64 r.f2.f0,.int .i64 r.f2.f1] 141)
   have hx0:=True.intro
   have hx1:=True.intro
   have hx2:=True.intro
   have hx3:=True.intro
   have hgr:=True.intro
   have hgm:=True.intro
   refine(lS r.f0 I6.out).mono ?_
   rintro e w1 ⟨rfl,hb1⟩
   have HB1:=aa.mk (bQ HB0.out hb1)
   have II:=aa.mk (I6.out.below hb1)
   have VP:=aa.mk (BK0.out.below hb1)
   have BR1:=aa.mk (BR0.out.below hb1)
   clear hb1 HB0 I6 BK0 BR0 hz0 hz1 hx0 hx1 hx2 hx3 hgr hgm
   have hgm:=VP.out.lt
   have hgr:=BR1.out.lt
   have hz0:=VP.out.cell 0
   have hz1:=VP.out.cell 1
   have hx0:=BR1.out.cell 0
   have hx1:=BR1.out.cell 1
   have hx2:=BR1.out.cell 2
   have hx3:=BR1.out.cell 3
   simp only[eP,eO] at hz0 hz1 hx0 hx1 hx2 hx3
   obtain⟨b1,b1e⟩:∃b,ib W.length r.f0=b:=⟨_,rfl⟩
   rw[b1e]
   have b1E:=aa.mk b1e
   clear b1e
   cases b1
   .go_wp2
    go_ret
    exact⟨bP (mf k hlt (by rw[HO.out,b1E.out];simp)).symm,HB1.out⟩
   .go_wp2_with fail
    refine(lS r.f1 II.out).mono ?_
    rintro e w2 ⟨rfl,hb2⟩
    have HB2:=aa.mk (bQ HB1.out hb2)
    have SF:=aa.mk (II.out.below hb2)
    have BK2:=aa.mk (VP.out.below hb2)
    have BR2:=aa.mk (BR1.out.below hb2)
    clear hb2 HB1 II VP BR1 hz0 hz1 hx0 hx1 hx2 hx3 hgr hgm
    have hgm:=BK2.out.lt
    have hgr:=BR2.out.lt
    have hz0:=BK2.out.cell 0
    have hz1:=BK2.out.cell 1
    have hx0:=BR2.out.cell 0
    have hx1:=BR2.out.cell 1
    have hx2:=BR2.out.cell 2
    have hx3:=BR2.out.cell 3
    simp only[eP,eO] at hz0 hz1 hx0 hx1 hx2 hx3
    obtain⟨b2,b2e⟩:∃b,ib W.length r.f1=b:=⟨_,rfl⟩
    rw[b2e]
    have b2E:=aa.mk b2e
    clear b2e
    cases b2
    .go_wp2
     go_ret
     exact⟨bP (mf k hlt (by rw[HO.out,b1E.out,b2E.out];simp)).symm,HB2.out⟩
    .cases b3e:(r.f0==r.f1)
     .have b3E:=aa.mk b3e
      go_wp2_with fail
      refine(r9 _ _ _ _ _).mono ?_
      rintro e w3 ⟨rfl,hb3⟩
      have HB3:=aa.mk (bQ HB2.out hb3)
      have HM3:=aa.mk (SF.out.below hb3)
      have BK3:=aa.mk (BK2.out.below hb3)
      have BR3:=aa.mk (BR2.out.below hb3)
      clear hb3 HB2 SF BK2 BR2 hz0 hz1 hx0 hx1 hx2 hx3 hgr hgm
      have hgm:=BK3.out.lt
      have hgr:=BR3.out.lt
      have hz0:=BK3.out.cell 0
      have hz1:=BK3.out.cell 1
      have hx0:=BR3.out.cell 0
      have hx1:=BR3.out.cell 1
      have hx2:=BR3.out.cell 2
      have hx3:=BR3.out.cell 3
      simp only[eP,eO] at hz0 hz1 hx0 hx1 hx2 hx3
      obtain⟨b4,b4e⟩:∃b,iO r.f2.f0 r.f2.f1 1 50=b:=⟨_,rfl⟩
      rw[b4e]
      have b4E:=aa.mk b4e
      clear b4e
      cases b4
      .go_wp2
       go_ret
       exact⟨bP (mf k hlt (by rw[HO.out,b1E.out,b2E.out,b3E.out,b4E.out];simp)).symm,HB3.out⟩
      .go_wp2_with fail
       refine(wo r.f0 r.f1 HM3.out).mono ?_
       rintro e w4 ⟨rfl,hb4⟩
       have jd:=aa.mk (bQ HB3.out hb4)
       have HM4:=aa.mk (HM3.out.below hb4)
       have BK4:=aa.mk (BK3.out.below hb4)
       have BR4:=aa.mk (BR3.out.below hb4)
       clear hb4 HB3 HM3 BK3 BR3 hz0 hz1 hx0 hx1 hx2 hx3 hgr hgm
       have hgm:=BK4.out.lt
       have hgr:=BR4.out.lt
       have hz0:=BK4.out.cell 0
       have hz1:=BK4.out.cell 1
       have hx0:=BR4.out.cell 0
       have hx1:=BR4.out.cell 1
       have hx2:=BR4.out.cell 2
       have hx3:=BR4.out.cell 3
       simp only[eP,eO] at hz0 hz1 hx0 hx1 hx2 hx3
       obtain⟨j5,j5e⟩:∃j,il R r.f0 r.f1=j:=⟨_,rfl⟩
       rw[j5e]
       have J5E:=aa.mk j5e
       clear j5e
       by_cases hj:j5=(k:Int)
       .have hjb:(j5 !=(k:Int))=false:=by rw[hj];simp
        have HJ:=aa.mk hj
        clear hj
        go_wp2
        go_roundw
        case rel=>exact⟨k+1,by omega,by go_num,jd,BK4,⟨λj hj'=>by
         rcases Nat.lt_succ_iff_lt_or_eq.1 hj' with h'|h'
         .exact HF.out j h'
         .subst h'
          rw[HO.out,b1E.out,b2E.out,b3E.out,b4E.out,J5E.out,HJ.out]
          simp⟩⟩
        case measure=>simp[intOf];omega
       .have hjb:(j5 !=(k:Int))=true:=by rw[bne_iff_ne];exact hj
        have HJ:=aa.mk hj
        clear hj
        go_wp2
        go_ret
        exact⟨bP (mf k hlt (by rw[HO.out,b1E.out,b2E.out,b3E.out,b4E.out,J5E.out];simp[HJ.out])).symm,jd.out⟩
     .have b3E:=aa.mk b3e
      go_wp2
      go_ret
      exact⟨bP (mf k hlt (by rw[HO.out,b1E.out,b2E.out,b3E.out];simp)).symm,HB2.out⟩
  .have hk':k=R.length:=by omega
   subst hk'
   go_wp2
   go_ret
   exact⟨bP (GM HF.out).symm,HB.out⟩
def AQ(x:dP):Bool:=iO x.f0 x.f1 0 50
theorem NK(w:World):kK 71 #[] #[] AQ w:=by
 intro W x hW
 simp only[List.push_toArray,List.nil_append,Array.append_empty,oJ]
 refine uC.calls x.f0 x.f1 (AQ x) W ?_
 unfold uC.f fF.f AQ iO
 by_cases h:0<=x.f0<;>by_cases h':x.f0<=x.f1<;>simp[h,h']
def bD(W:List dP)(R:List aV):Int:=
 if W.length<=8/\R.length<=20 then(if W.length=0 then 1 else if W.all AQ then(if jZ W R then 0 else 1) else 1) else 3
set_option maxHeartbeats 4000000 in
theorem dM{A0:Option Addr}{c0:Nat}{W:List dP}{A1:Option Addr}{c1:Nat}{R:List aV}{w:World}(h:IsMap w A0 c0 W A1 c1 R):
  Calls Tryz.prog 29 #[.agg #[.slice A0 W.length c0,.slice A1 R.length c1]] w λe w'=>e= .returned (.int .i64 (bD W R))/\Below w.heap.size w w':=by
 have H:=aa.mk h
 have hbr:=h.br
 have hbw:=h.bw
 clear h
 have HB0:=aa.mk (ae (Below.refl w.heap.size w) (.cells #[.slice A0 W.length c0,.slice A1 R.length c1] 78))
 have I6:=aa.mk (H.out.below HB0.out)
 have BK0:=aa.mk (aR.new w [.slice A0 W.length c0,.slice A1 R.length c1] 78)
 by_cases h1:W.length<=8
 .by_cases h2:R.length<=20
  .by_cases h3:W.length=0
   .have hres:bD W R=1:=by unfold bD;rw[if_pos ⟨h1,h2⟩,if_pos h3]
    have F3:=aa.mk hres
    clear hres
    have h3b:((W.length:Int)==0)=true:=by simp[h3]
    have H3:=aa.mk h3
    clear h3
    go_enter Tryz.func29,Tryz.ntmps29
    go_wp2_with fail
    go_ret
    exact⟨fC F3.out.symm,HB0.out⟩
   .have h3b:((W.length:Int)==0)=false:=beq_eq_false_iff_ne.2 (by omega)
    obtain⟨b,hb⟩:∃b,W.all AQ=b:=⟨_,rfl⟩
    have HWB:=aa.mk hb
    clear hb
    go_enter Tryz.func29,Tryz.ntmps29
    go_wp2_with fail
    refine(Pv 71 #[] #[] (enters Tryz.func71 (by kernel_rfl) rfl) AQ A0 c0 W _ I6.out.work (by omega) (NK _)).mono ?_
    rintro e w1 ⟨rfl,hb1⟩
    have HB1:=aa.mk (bQ HB0.out hb1)
    have II:=aa.mk (I6.out.below hb1)
    have VP:=aa.mk (BK0.out.below hb1)
    clear hb1
    have hgm:=VP.out.lt
    have hz0:=VP.out.cell 0
    have hz1:=VP.out.cell 1
    simp only[eP,eO] at hz0 hz1
    rw[HWB.out]
    cases b
    .have hres:bD W R=1:=by unfold bD;rw[if_pos ⟨h1,h2⟩,if_neg h3,HWB.out];rfl
     have F3:=aa.mk hres
     clear hres h3
     go_wp2_with fail
     go_ret
     exact⟨fC F3.out.symm,HB1.out⟩
    .go_wp2_with fail
     refine(GL II.out).mono ?_
     rintro e w2 ⟨rfl,hb2⟩
     have HB2:=aa.mk (bQ HB1.out hb2)
     clear hb2 hz0 hz1 hgm
     obtain⟨b2,hb2⟩:∃b,jZ W R=b:=⟨_,rfl⟩
     have HRB:=aa.mk hb2
     clear hb2
     rw[HRB.out]
     have hres:bD W R=if b2 then 0 else 1:=by unfold bD;rw[if_pos ⟨h1,h2⟩,if_neg h3,HWB.out,HRB.out];rfl
     have F3:=aa.mk hres
     clear hres h3
     cases b2
     all_goals
      go_wp2_with fail
      go_ret
      exact⟨fC (by rw[F3.out];rfl),HB2.out⟩
  .have hres:bD W R=3:=by unfold bD;rw[if_neg (λh=>h2 h.2)]
   have F3:=aa.mk hres
   clear hres
   have h2':20<R.length:=by omega
   clear h2
   go_enter Tryz.func29,Tryz.ntmps29
   go_wp2_with fail
   go_ret
   exact⟨fC F3.out.symm,HB0.out⟩
 .have hres:bD W R=3:=by unfold bD;rw[if_neg (λh=>h1 h.1)]
  have F3:=aa.mk hres
  clear hres
  have h1':8<W.length:=by omega
  clear h1
  go_enter Tryz.func29,Tryz.ntmps29
  go_wp2_with fail
  go_ret
  exact⟨fC F3.out.symm,HB0.out⟩
end Go.Proofs.YtkjoilgpmngndaaGreat.Wk
namespace Go.Proofs.YtkjoilgpmngndaaGreat.Wk
open Go.RowKit Go.Shelf au YtkjoilgpmngndaaGreatW.aj
attribute [local go_sem] Oper.semAt_some
structure bq(n₀:Nat)(S:Nat->Prop)(w w':World):Prop where
 os:w'.os=w.os
 tape:w'.tape=w.tape
 output:w'.output=w.output
 size:w.heap.size<=w'.heap.size
 block:∀k,k<n₀->¬S k->w'.heap[k]?=w.heap[k]?
theorem bq.refl(n₀:Nat)(S:Nat->Prop)(w:World):bq n₀ S w w:=⟨rfl,rfl,rfl,Nat.le_refl _,λ_ _ _=>rfl⟩
theorem bq.trans{n₀:Nat}{S:Nat->Prop}{a b c:World}(h:bq n₀ S a b)(k:bq n₀ S b c):bq n₀ S a c:=
 ⟨k.os.trans h.os,k.tape.trans h.tape,k.output.trans h.output,Nat.le_trans h.size k.size,λi hi hs=>(k.block i hi hs).trans (h.block i hi hs)⟩
theorem bq.of_below{n₀ B:Nat}{S:Nat->Prop}{a b:World}(h:Below B a b)(hB:n₀<=B):bq n₀ S a b:=⟨h.os,h.tape,h.output,h.size,λk hk _=>h.block k (by omega)⟩
theorem bq.mono{n₀ n₁:Nat}{S T:Nat->Prop}{a b:World}(h:bq n₀ S a b)(hn:n₁<=n₀)(hS:∀k,k<n₁->S k->T k):bq n₁ T a b:=⟨h.os,h.tape,h.output,h.size,λk hk hs=>h.block k (by omega) (λx=>hs (hS k hk x))⟩
theorem bq.alloc{n₀:Nat}{S:Nat->Prop}{a b:World}(h:bq n₀ S a b)(hB:n₀<=b.heap.size)(o:Obj):bq n₀ S a (b.alloc o):=
 h.trans (bq.of_below ((Below.refl b.heap.size b).alloc (Nat.le_refl _) o) hB)
theorem bq.setCell{n₀:Nat}{S:Nat->Prop}{a b:World}(h:bq n₀ S a b){p:Addr}(hp:S p.block\/n₀<=p.block)(u:Value):bq n₀ S a (b.setCell p u):=
 h.trans ⟨rfl,rfl,rfl,by simp[World.setCell],λk hk hs=>Below.heap_setCell _ _ _ _ (by
  rintro rfl
  rcases hp with hp|hp
  .exact hs hp
  .omega)⟩
theorem bq.drewN{n₀:Nat}{S:Nat->Prop}{a b:World}(h:bq n₀ S a b)(n:Nat):bq n₀ S a (b.drewN n):=⟨h.os,h.tape,h.output,h.size,h.block⟩
theorem bq.drew{n₀:Nat}{S:Nat->Prop}{a b:World}(h:bq n₀ S a b):bq n₀ S a b.drew:=⟨h.os,h.tape,h.output,h.size,h.block⟩
theorem bq.put{n₀:Nat}{S:Nat->Prop}{a b:World}(h:bq n₀ S a b){l:Nat}(hl:S l\/n₀<=l)(o:Obj):bq n₀ S a (b.putObj l o):=
 h.trans ⟨rfl,rfl,rfl,by simp[World.putObj],λk hk hs=>World.putObj_heap_other (by
  rintro rfl
  rcases hl with hl|hl
  .exact hs hl
  .omega)⟩
theorem bq.cell{n₀:Nat}{S:Nat->Prop}{w w':World}(h:bq n₀ S w w'){p:Addr}(hp:p.block<n₀)(hs:¬S p.block):w'.cell? p=w.cell? p:=World.cell?_of_block (w:=w) (h.block p.block hp hs)
theorem bq.frozen{n₀:Nat}{S:Nat->Prop}{w w':World}(h:bq n₀ S w w'){p:Addr}(hp:p.block<n₀)(hs:¬S p.block):w'.frozen? p=w.frozen? p:=World.frozen?_of_block (w:=w) (h.block p.block hp hs)
theorem EZ{n₀:Nat}{S:Nat->Prop}{w:World}(hn:n₀<=w.heap.size)(W:World)(l:Nat)(o o':Obj)(hl:w.heap.size<=l)(h:W.heap[l]?=some o)(_:o.isCells=false)(_:o.isWalk=false):bq n₀ S W (W.putObj l o'):=
 bq.of_below ((Below.refl n₀ W).grown (grownBy_putObj' W l o') (by have:=(Array.getElem?_eq_some_iff.1 h).1;omega) (λk e=>by cases e;omega)) (Nat.le_refl _)
def zM(n:Int)(r:aV):Option (Int×Int):=
 if n=r.f0 then(if 0<=r.f1 then some (r.f1,r.f2.f1) else none) else if n=r.f1 then(if 0<=r.f0 then some (r.f0,r.f2.f1) else none) else none
def mV(R:List aV)(n:Int):List (Int×Int):=R.filterMap (zM n)
theorem qW(R:List aV)(n:Int)(k:Nat)(h:k<R.length):mV (R.take (k+1)) n=mV (R.take k) n++(zM n (bM R k)).toList:=by
 unfold mV
 rw[List.take_succ_eq_append_getElem h,List.filterMap_append]
 congr 1
 have:bM R k=R[k]:=by simp[bM,bZ,List.getD,h]
 rw[this]
 cases hn:zM n R[k]<;>simp[hn]
theorem Qt(R:List aV)(k:Nat)(h:k<R.length):bM R k ∈ R:=by
 have:bM R k=R[k]:=by simp[bM,bZ,List.getD,h]
 rw[this]
 exact List.getElem_mem h
theorem Hg(R:List aV)(n:Int):(mV R n).length<=R.length:=List.length_filterMap_le _ _
def enc2(x:Int×Int):Array Value:=#[.int .i64 x.1,.int .i64 x.2]
structure Ew(n₀:Nat)(S:Nat->Prop)(W:World)(gm gn:Nat)(A0:Option Addr)(n0 c0:Nat)(A1:Option Addr)(c1:Nat)(R:List aV)(n:Int):Prop where
 m:aR W gm [.slice A0 n0 c0,.slice A1 R.length c1] 78
 n:W.cell? ⟨gn,0,none⟩=some (.int .i64 n)
 roads:Kd.C tF W A1 R.length R
 lm:gm<n₀/\¬S gm
 ln:gn<n₀/\¬S gn
 lr:0<R.length->∀ad,A1=some ad->ad.block<n₀/\¬S ad.block
theorem Jq{n₀:Nat}{S:Nat->Prop}{W W':World}{A1:Option Addr}{R:List aV}(h:Kd.C tF W A1 R.length R)(hl:0<R.length->∀ad,A1=some ad->ad.block<n₀/\¬S ad.block)(k:bq n₀ S W W')(i:Nat)(hi:i<R.length):
  ∃ad,A1=some ad/\W'.cell? (ad.add (i*4))=some (.int .i64 (bZ R i).f0)/\W'.cell? ⟨(ad.add (i*4)).block,(ad.add (i*4)).off+1,none⟩=some (.int .i64 (bZ R i).f1)/\W'.cell? ⟨(ad.add (i*4)).block,(ad.add (i*4)).off+2,none⟩=some (.int .i64 (bZ R i).f2.f0)/\W'.cell? ⟨(ad.add (i*4)).block,(ad.add (i*4)).off+3,none⟩=some (.int .i64 (bZ R i).f2.f1):=by
 obtain⟨ad,e,h0,h1,h2,h3⟩:=sN h i (by omega) (by omega)
 simp only[Int.toNat_natCast] at h0 h1 h2 h3
 obtain⟨hl1,hl2⟩:=hl (by omega) ad e
 have hbk:(ad.add (i*4)).block=ad.block:=by unfold Addr.add;split<;>rfl
 refine⟨ad,e,?_,?_,?_,?_⟩
 .rw[k.cell (by rw[hbk];exact hl1) (by rw[hbk];exact hl2)];exact h0
 .rw[k.cell (by simp only[hbk];exact hl1) (by simp only[hbk];exact hl2)];exact h1
 .rw[k.cell (by simp only[hbk];exact hl1) (by simp only[hbk];exact hl2)];exact h2
 .rw[k.cell (by simp only[hbk];exact hl1) (by simp only[hbk];exact hl2)];exact h3
theorem jW{β:Type}{B:Nat}{J:β->World->Prop}(h:AbidesFrom B J){s:β}{W:World}(o:Obj)(hj:J s W):J s (W.alloc o):=
 h s W _ none hj (kE (ae (Below.refl _ _) o) none) (by simp)
set_option maxRecDepth 100000 in
set_option maxHeartbeats 4000000 in
theorem QJ(F:Fence)(n:Nat)(hf:F.fn 130)(hro:F.round=none)(hn:1<=n)(l gm gn n₀:Nat)(S:Nat->Prop)(A0:Option Addr)(n0 c0:Nat)(A1:Option Addr)(c1:Nat)(R:List aV)(near:Int)(wI:R.length<=281474976710656)
  (J Jx:List (Int×Int)->World->Prop) (B:Nat) (hJA:AbidesFrom B J)
  (Pr:Int×Int->Prop) (hPr:∀r ∈ R,∀x,zM near r=some x->Pr x)
  (hY:∀pre x W,Pr x->J pre W->pre.length<R.length->YieldAt F (n-1) Tryz.prog l (enc2 x) W λe W'=>
   (e= .returned (.bool true)/\J (pre++[x]) W'/\bq n₀ S W W')\/(e= .returned (.bool false)/\Jx (pre++[x]) W'))
  (W:World) (hW:n₀<=W.heap.size) (hR:Ew n₀ S W gm gn A0 n0 c0 A1 c1 R near) (h0:J [] W):
  CallsIn F n Tryz.prog 130 #[.func (.yield l) #[] #[],.pointer (some ⟨gm,0,none⟩),.pointer (some ⟨gn,0,none⟩)] W λe W'=>(∃v,e= .returned v) /\
   ((∃ys,ys=mV R near/\J ys W')\/(∃pre,True/\Jx pre W')):=by
 have HR:=aa.mk hR
 have HY:=aa.mk hY
 have HPr:=aa.mk hPr
 have ZY:=aa.mk hJA
 have hz0:=hR.m.cell 0
 have hz1:=hR.m.cell 1
 simp only[eP,eO] at hz0 hz1
 clear hR hY hPr hJA
 refine callsIn_of_wp Tryz.func130 rfl hf ?_ hro
 simp only[Tryz.ntmps130,List.size_toArray,List.length_cons,List.length_nil,Nat.reduceAdd,Nat.reduceSub,Array.replicate_succ,Array.replicate_zero,List.push_toArray,List.append_toArray,List.nil_append,List.cons_append]
 gi_wp2
 gi_loopw [10] (λi wr=>∃k:Nat,k<=R.length/\i= .int .i64 k/\aa (J (mV (R.take k) near) wr)/\aa (bq n₀ S W wr))
  (λi _=>R.length-(intOf i).toNat)
 case atStart=>exact⟨0,Nat.zero_le _,rfl,⟨h0⟩,⟨bq.refl _ _ _⟩⟩
 case round=>
  obtain⟨k,hk,rfl,HJ,HK⟩:=hrel
  by_cases hlt:k<R.length
  .obtain⟨ad,e,h0,h1,h2,h3⟩:=Jq HR.out.roads HR.out.lr HK.out k hlt
   cases e
   obtain⟨r,hr⟩:∃r,bZ R (k:Int)=r:=⟨_,rfl⟩
   rw[hr] at h0 h1 h2 h3
   have HRR:=aa.mk (show bM R k=r from hr)
   clear hr
   have hgn:=(HK.out.cell (p:=⟨gn,0,none⟩) HR.out.ln.1 HR.out.ln.2).trans HR.out.n
   have ahC:gn<wr.heap.size:=World.block_lt_of_cell? _ _ hgn
   have Xl:=aa.mk (Nat.le_trans hW HK.out.size)
   by_cases p0:near=r.f0
   .have V9:(near==r.f0)=true:=beq_iff_eq.2 p0
    have P0:=aa.mk p0
    clear p0
    by_cases q:0<=r.f1
    .have SE:=aa.mk (show zM near r=some (r.f1,r.f2.f1) by unfold zM;rw[if_pos P0.out,if_pos q])
     have HJ2:=aa.mk (jW ZY.out (.cells #[.int .i64 r.f0,.int .i64 r.f1,.int .i64 r.f2.f0,.int .i64 r.f2.f1] 141) HJ.out)
     have HST:=aa.mk (show mV (R.take (k+1)) near=mV (R.take k) near++[(r.f1,r.f2.f1)] by rw[qW R near k hlt,HRR.out,SE.out];rfl)
     obtain⟨fn,tmps,assign,body,hy,hRR⟩:=HY.out _ (r.f1,r.f2.f1) _ (HPr.out r (by rw[<- HRR.out];exact Qt R k hlt) _ SE.out) HJ2.out (Nat.lt_of_le_of_lt (Hg _ _) (by rw[List.length_take];omega))
     dsimp only[enc2] at hy
     gi_wp2_with fail
     refine hRR.mono ?_
     rintro e W3 (⟨rfl,hJ3,hk3⟩|⟨rfl,hJx3⟩)
     .gi_wp2_with fail
      go_roundw
      case rel=>exact⟨k+1,by omega,by go_num,⟨by rw[HST.out];exact hJ3⟩,⟨(HK.out.alloc Xl.out _).trans hk3⟩⟩
      case measure=>simp[intOf];omega
     .gi_wp2_with fail
      refine bodyPost_ret (results_none rfl _ _ _) rfl ?_
      exact⟨⟨_,rfl⟩,.inr ⟨_,trivial,hJx3⟩⟩
    .have SE:=aa.mk (show zM near r=none by unfold zM;rw[if_pos P0.out,if_neg q])
     have q':decide (0<=r.f1)=false:=by simpa using q
     have HJ2:=aa.mk (show J (mV (R.take (k+1)) near) wr by rw[qW R near k hlt,HRR.out,SE.out];simpa using HJ.out)
     gi_wp2_with fail
     refine⟨λ_ h=>(by cases h),?_⟩
     gi_wp2_with fail
     go_roundw
     case rel=>exact⟨k+1,by omega,by go_num,⟨jW ZY.out _ HJ2.out⟩,⟨HK.out.alloc Xl.out _⟩⟩
     case measure=>simp[intOf];omega
   .have V9:(near==r.f0)=false:=beq_eq_false_iff_ne.2 p0
    have P0:=aa.mk p0
    clear p0
    by_cases p1:near=r.f1
    .have p1b:(near==r.f1)=true:=beq_iff_eq.2 p1
     have P1:=aa.mk p1
     clear p1
     by_cases q:0<=r.f0
     .have SE:=aa.mk (show zM near r=some (r.f0,r.f2.f1) by unfold zM;rw[if_neg P0.out,if_pos P1.out,if_pos q])
      have HJ2:=aa.mk (jW ZY.out (.cells #[.int .i64 r.f0,.int .i64 r.f1,.int .i64 r.f2.f0,.int .i64 r.f2.f1] 141) HJ.out)
      have HST:=aa.mk (show mV (R.take (k+1)) near=mV (R.take k) near++[(r.f0,r.f2.f1)] by rw[qW R near k hlt,HRR.out,SE.out];rfl)
      obtain⟨fn,tmps,assign,body,hy,hRR⟩:=HY.out _ (r.f0,r.f2.f1) _ (HPr.out r (by rw[<- HRR.out];exact Qt R k hlt) _ SE.out) HJ2.out (Nat.lt_of_le_of_lt (Hg _ _) (by rw[List.length_take];omega))
      dsimp only[enc2] at hy
      gi_wp2_with fail
      refine hRR.mono ?_
      rintro e W3 (⟨rfl,hJ3,hk3⟩|⟨rfl,hJx3⟩)
      .gi_wp2_with fail
       go_roundw
       case rel=>exact⟨k+1,by omega,by go_num,⟨by rw[HST.out];exact hJ3⟩,⟨(HK.out.alloc Xl.out _).trans hk3⟩⟩
       case measure=>simp[intOf];omega
      .gi_wp2_with fail
       refine bodyPost_ret (results_none rfl _ _ _) rfl ?_
       exact⟨⟨_,rfl⟩,.inr ⟨_,trivial,hJx3⟩⟩
     .have SE:=aa.mk (show zM near r=none by unfold zM;rw[if_neg P0.out,if_pos P1.out,if_neg q])
      have q':decide (0<=r.f0)=false:=by simpa using q
      have HJ2:=aa.mk (show J (mV (R.take (k+1)) near) wr by rw[qW R near k hlt,HRR.out,SE.out];simpa using HJ.out)
      gi_wp2_with fail
      refine⟨λ_ h=>(by cases h),?_⟩
      gi_wp2_with fail
      go_roundw
      case rel=>exact⟨k+1,by omega,by go_num,⟨jW ZY.out _ HJ2.out⟩,⟨HK.out.alloc Xl.out _⟩⟩
      case measure=>simp[intOf];omega
    .have p1b:(near==r.f1)=false:=beq_eq_false_iff_ne.2 p1
     have P1:=aa.mk p1
     clear p1
     have SE:=aa.mk (show zM near r=none by unfold zM;rw[if_neg P0.out,if_neg P1.out])
     have HJ2:=aa.mk (show J (mV (R.take (k+1)) near) wr by rw[qW R near k hlt,HRR.out,SE.out];simpa using HJ.out)
     gi_wp2_with fail
     refine⟨λ_ h=>(by cases h),?_⟩
     gi_wp2_with fail
     go_roundw
     case rel=>exact⟨k+1,by omega,by go_num,⟨jW ZY.out _ HJ2.out⟩,⟨HK.out.alloc Xl.out _⟩⟩
     case measure=>simp[intOf];omega
  .obtain rfl:k=R.length:=by omega
   gi_wp2
   go_end0
   exact⟨⟨_,rfl⟩,.inl ⟨_,rfl,by rw[<- List.take_length (l:=R)];exact HJ.out⟩⟩
theorem JZ(F:Fence)(n:Nat)(hf:F.fn 130)(hro:F.round=none)(hn:1<=n)(gm gn n₀:Nat)(S:Nat->Prop)(A0:Option Addr)(n0 c0:Nat)(A1:Option Addr)(c1:Nat)(R:List aV)(near:Int)(wI:R.length<=281474976710656)
  (Pr:Int×Int->Prop) (hPr:∀r ∈ R,∀x,zM near r=some x->Pr x) (w:World) (hw:n₀<=w.heap.size) (hR:Ew n₀ S w gm gn A0 n0 c0 A1 c1 R near):
  SeqStopsK F n Tryz.prog 130 #[.pointer (some ⟨gm,0,none⟩),.pointer (some ⟨gn,0,none⟩)] (λx:{x // Pr x}=>enc2 x.1) (bq n₀ S) (λys=>ys.map (·.1)=mV R near) (λ_=>True) R.length w:=λl J Jx W hW hJ hJx hY h0=>by
 have hk:bq n₀ S w W:=bq.of_below hW hw
 refine(QJ F n hf hro hn l gm gn n₀ S A0 n0 c0 A1 c1 R near wI (λpre W=>∃ys:List {x // Pr x},ys.map (·.1)=pre/\J ys W) (λpre W=>∃ys:List {x // Pr x},ys.map (·.1)=pre/\Jx ys W) W.heap.size ?_ Pr hPr ?_ W (Nat.le_trans hw hW.size) ?_ ⟨[],rfl,h0⟩).mono ?_
 .rintro s A B row ⟨ys,e,hj⟩ hg hr
  exact⟨ys,e,hJ ys A B row hj hg hr⟩
 .rintro pre x W' hx ⟨ys,rfl,hj⟩ hlen
  refine(hY ys ⟨x,hx⟩ W' hj (by simpa using hlen)).mono ?_
  rintro e W'' (⟨rfl,h1,h2⟩|⟨rfl,h1⟩)
  .exact .inl ⟨rfl,⟨_,by simp,h1⟩,h2⟩
  .exact .inr ⟨rfl,⟨_,by simp,h1⟩⟩
 .exact⟨((hk.block gm hR.lm.1 hR.lm.2).trans hR.m),(hk.cell (p:=⟨gn,0,none⟩) hR.ln.1 hR.ln.2).trans hR.n,Kd.av hR.roads hW,hR.lm,hR.ln,hR.lr⟩
 .rintro e W' ⟨hv,⟨ys,he,zs,h1,h2⟩|⟨pre,_,zs,h1,h2⟩⟩
  .exact⟨hv,.inl ⟨zs,h1.trans he,h2⟩⟩
  .exact⟨hv,.inr ⟨zs,trivial,h2⟩⟩
theorem J3(F:Fence)(n:Nat)(hf:F.fn 102)(hro:F.round=none)(A0:Option Addr)(n0 c0:Nat)(A1:Option Addr)(c1 n1:Nat)(near:Int)(w:World):
  CallsIn F n Tryz.prog 102 #[.agg #[.slice A0 n0 c0,.slice A1 n1 c1],.int .i64 near] w λe w'=>e= .returned (.func (.func 130) #[] #[.pointer (some ⟨w.heap.size,0,none⟩),.pointer (some ⟨w.heap.size+1,0,none⟩)]) /\
   w'=(w.alloc (.cells #[.slice A0 n0 c0,.slice A1 n1 c1] 78)).alloc (.cells #[.int .i64 near] 3):=by
 refine callsIn_of_wp Tryz.func102 rfl hf ?_ hro
 simp only[Tryz.ntmps102,List.size_toArray,List.length_cons,List.length_nil,Nat.reduceAdd,Nat.reduceSub,Array.replicate_succ,Array.replicate_zero,List.push_toArray,List.append_toArray,List.nil_append,List.cons_append]
 gi_wp2
 go_ret
 exact⟨rfl,rfl⟩
end Go.Proofs.YtkjoilgpmngndaaGreat.Wk
