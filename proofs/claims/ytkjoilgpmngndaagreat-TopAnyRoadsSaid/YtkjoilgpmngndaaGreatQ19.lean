import Derived.Test.YtkjoilgpmngndaaGreatQ18
set_option linter.all false
namespace Go.Proofs.YtkjoilgpmngndaaGreat
open Go.RowKit Go.Shelf au YtkjoilgpmngndaaGreatW.aj YtkjoilgpmngndaaGreatW.aJ
def CQ(g:Nat)(args:Array Value)(b:Bool)(w:World):Prop:=
 ∀(W:World),Below w.heap.size w W->Calls Tryz.prog g args W λe w'=>e= .returned (.bool b)/\Below W.heap.size W w'
theorem CQ.later{g:Nat}{args:Array Value}{b:Bool}{w W:World}(h:CQ g args b w)(hb:Below w.heap.size w W):CQ g args b W:=
 λW' hb'=>h W' (hb.trans (hb'.mono hb.size))
def fi{α:Type}(p:α->Bool):List α->Nat->Int
 |[],_=> -1
 |x::xs,i=>if p x then(i:Int) else fi p xs (i+1)
theorem jY{α:Type}(p:α->Bool)(xs:List α)(i:Nat):decide (0<=fi p xs i)=xs.any p:=by
 induction xs generalizing i with
 |nil=>simp[fi]
 |cons x xs ih=>
  unfold fi
  by_cases h:p x=true
  .simp[h]
  .simp[h,ih]
theorem getD_drop{α:Type}(xs:List α)(k:Nat)(d:α)(h:k<xs.length):xs.drop k=xs.getD k d::xs.drop (k+1):=by
 rw[List.drop_eq_getElem_cons h]
 simp[List.getD,h]
theorem nC{α:Type}(p:α->Bool)(xs:List α)(k:Nat)(d:α)(h:k<xs.length):fi p (xs.drop k) k=if p (xs.getD k d) then(k:Int) else fi p (xs.drop (k+1)) (k+1):=by
 rw[getD_drop xs k d h]
 rfl
theorem bQ{w a b:World}(h:Below w.heap.size w a)(k:Below a.heap.size a b):Below w.heap.size w b:=h.trans (k.mono h.size)
theorem bP{a b:Bool}(h:a=b):Ending.returned (.bool a)= .returned (.bool b):=by rw[h]
theorem fC{k:IntKind}{a b:Int}(h:a=b):Ending.returned (.int k a)= .returned (.int k b):=by rw[h]
theorem enters {g:Nat} {fn:Func} {c:Code} (hf:Tryz.prog.funcs[g]?=some fn) (hname:(fn.name== "runtime.NumGoroutine")=false) (hb:fn.body=some c):
  ∀args w,(callFunc g args).run Tryz.prog w= .ok (.enter g args) w:=by
 intro args w
 have h1:fn.name≠ "runtime.NumGoroutine" :=by simpa using hname
 simp[callFunc,hf,h1,hb,mark]
def aN(xs:List dQ)(k:Nat):dQ:=iX xs (k:Int)
def iP(xs:List jO)(k:Nat):jO:=zZ xs (k:Int)
def dF(xs:List Int)(k:Nat):Int:=rd xs (k:Int)
def o9(x:dQ):Value:= .agg #[.int .i64 x.f0,.int .i64 x.f1,.int .i64 x.f2,.int .i64 x.f3.f0,.int .i64 x.f3.f1]
def kJ(g:Nat)(first cap:Array Value)(p:dQ->Bool)(w:World):Prop:=
 ∀(W:World) (x:dQ),Below w.heap.size w W->Calls Tryz.prog g (first.push (o9 x)++cap) W λe w'=>e= .returned (.bool (p x))/\Below W.heap.size W w'
theorem kJ.later{g:Nat}{first cap:Array Value}{p:dQ->Bool}{w W:World}(h:kJ g first cap p w)(hb:Below w.heap.size w W):kJ g first cap p W:=
 λW' x hb'=>h W' x (hb.trans (hb'.mono hb.size))
set_option maxHeartbeats 1000000 in
theorem E9(g:Nat)(cap:Array Value)(hg:∀args w,(callFunc g args).run Tryz.prog w= .ok (.enter g args) w)(p:dQ->Bool)(A:Option Addr)(c:Nat)(xs:List dQ)(w:World)
  (hr:Kd.C Bu w A xs.length xs) (hlen:xs.length<=9223372036854775807) (hp:kJ g #[] cap p w):
  Calls Tryz.prog 156 #[.slice A xs.length c,.func (.func g) #[] cap] w λe w'=>e= .returned (.int .i64 (fi p xs 0))/\Below w.heap.size w w':=by
 have HR:=aa.mk hr
 have HP:=aa.mk hp
 clear hr hp
 go_enter Tryz.func156,Tryz.ntmps156
 go_wp2
 go_loopw [8] (λv wr=>∃k:Nat,k<=xs.length/\v= .int .i64 k/\aa (Below w.heap.size w wr)/\aa (fi p xs 0=fi p (xs.drop k) k)) (λv _=>xs.length-(intOf v).toNat)
 case atStart=>exact⟨0,Nat.zero_le _,rfl,⟨Below.refl _ _⟩,⟨rfl⟩⟩
 case round=>
  obtain⟨k,hk,rfl,HB,HF⟩:=hrel
  by_cases hlt:k<xs.length
  .obtain⟨ad,e,h0,h1,h2,h3,h4⟩:=yh HR.out k (by omega) (by omega)
   cases e
   have hb:=HB.out
   replace h0:=(hb.cell (World.block_lt_of_cell? w _ h0)).trans h0
   replace h1:=(hb.cell (World.block_lt_of_cell? w _ h1)).trans h1
   replace h2:=(hb.cell (World.block_lt_of_cell? w _ h2)).trans h2
   replace h3:=(hb.cell (World.block_lt_of_cell? w _ h3)).trans h3
   replace h4:=(hb.cell (World.block_lt_of_cell? w _ h4)).trans h4
   simp only[Int.toNat_natCast] at h0 h1 h2 h3 h4
   clear hb HR
   go_wp2_with fail
   have hc:=HP.out wr (aN xs k) HB.out
   simp only[o9,aN,List.push_toArray,List.nil_append] at hc
   have hfs:=aa.mk (nC p xs k z105 hlt)
   rw[show xs.getD k z105=aN xs k from by simp[aN,iX,Int.toNat_natCast]] at hfs
   have HX:aa (∃y,y=aN xs k):=⟨⟨_,rfl⟩⟩
   refine(hc).mono ?_
   rintro e w' ⟨rfl,hb'⟩
   have yE:=aa.mk (bQ HB.out hb')
   clear hb' h0 h1 h2 h3 h4 hc HB
   cases hpx:p (aN xs k)
   .simp only[aN] at hpx
    have pJ:=aa.mk hpx
    clear hpx
    simp only[pJ.out]
    go_wp2
    go_roundw
    case rel=>exact⟨k+1,by omega,by go_num,yE,⟨by rw[HF.out,hfs.out,if_neg (by simp[aN,pJ.out])]⟩⟩
    case measure=>simp[intOf];omega
   .simp only[aN] at hpx
    have pJ:=aa.mk hpx
    clear hpx
    simp only[pJ.out]
    go_wp2
    go_ret
    exact⟨fC (by rw[HF.out,hfs.out,if_pos (by simp[aN,pJ.out])]),yE.out⟩
  .have hk':k=xs.length:=by omega
   subst hk'
   go_wp2
   go_ret
   exact⟨fC (by rw[HF.out,List.drop_length];rfl),HB.out⟩
theorem zQ(g:Nat)(cap:Array Value)(hg:∀args w,(callFunc g args).run Tryz.prog w= .ok (.enter g args) w)(p:dQ->Bool)(A:Option Addr)(c:Nat)(xs:List dQ)(w:World)
  (hr:Kd.C Bu w A xs.length xs) (hlen:xs.length<=9223372036854775807) (hp:kJ g #[] cap p w):
  Calls Tryz.prog 122 #[.slice A xs.length c,.func (.func g) #[] cap] w λe w'=>e= .returned (.bool (xs.any p))/\Below w.heap.size w w':=by
 go_enter Tryz.func122,Tryz.ntmps122
 go_wp2_with fail
 refine(E9 g cap hg p A c xs w hr hlen hp).mono ?_
 rintro e w' ⟨rfl,hb⟩
 obtain⟨j,hj⟩:∃j,fi p xs 0=j:=⟨_,rfl⟩
 have hn:=aa.mk (jY p xs 0)
 rw[hj] at hn ⊢
 clear hj
 go_wp2
 go_ret
 exact⟨bP (by rw[<- hn.out]),hb⟩
theorem Iw(g:Nat)(first cap:Array Value)(hg:∀args w,(callFunc g args).run Tryz.prog w= .ok (.enter g args) w)(p:dQ->Bool)(x:dQ)(gp:Nat)(w:World)
  (hc:w.cell? ⟨gp,0,none⟩=some (.func (.func g) first cap)) (hp:kJ g first cap p w):
  Calls Tryz.prog 123 ((#[]:Array Value).push (o9 x)++#[.pointer (some ⟨gp,0,none⟩)]) w λe w'=>e= .returned (.bool (!p x))/\Below w.heap.size w w':=by
 simp only[Array.empty_append,List.push_toArray,List.append_toArray,List.nil_append,List.cons_append,o9]
 have YD:gp<w.heap.size:=World.block_lt_of_cell? w _ hc
 have HP:=aa.mk hp
 clear hp
 go_enter Tryz.func123,Tryz.ntmps123
 go_wp2_with fail
 have hc:=HP.out _ x ((Below.refl w.heap.size w).alloc (Nat.le_refl _) (.cells #[.int .i64 x.f0,.int .i64 x.f1,.int .i64 x.f2,.int .i64 x.f3.f0,.int .i64 x.f3.f1] 105))
 simp only[o9] at hc
 refine hc.mono ?_
 rintro e w' ⟨rfl,hb⟩
 obtain⟨b,hb1⟩:∃b,p x=b:=⟨_,rfl⟩
 rw[hb1]
 go_wp2
 go_ret
 exact⟨bP (by rw[hb1]),bQ ((Below.refl w.heap.size w).alloc (Nat.le_refl _) (.cells #[.int .i64 x.f0,.int .i64 x.f1,.int .i64 x.f2,.int .i64 x.f3.f0,.int .i64 x.f3.f1] 105)) hb⟩
theorem KY(g:Nat)(first cap:Array Value)(hg:∀args w,(callFunc g args).run Tryz.prog w= .ok (.enter g args) w)(p:dQ->Bool)(A:Option Addr)(c:Nat)(xs:List dQ)(w:World)
  (hr:Kd.C Bu w A xs.length xs) (hlen:xs.length<=9223372036854775807) (hp:kJ g first cap p w):
  Calls Tryz.prog 91 #[.slice A xs.length c,.func (.func g) first cap] w λe w'=>e= .returned (.bool (xs.all p))/\Below w.heap.size w w':=by
 go_enter Tryz.func91,Tryz.ntmps91
 have HR:=aa.mk hr
 have HP:=aa.mk hp
 clear hr hp
 go_wp2_with fail
 have hB:Below w.heap.size w (w.alloc (.cells #[.func (.func g) first cap] 190)):=(Below.refl _ _).alloc (Nat.le_refl _) _
 refine(zQ 123 #[.pointer (some ⟨w.heap.size,0,none⟩)] (enters Tryz.func123 (by kernel_rfl) rfl) (λx=>!p x) A c xs _ (Kd.av HR.out hB) hlen ?_).mono ?_
 .intro W x hW
  refine Iw g first cap hg p x w.heap.size W ?_ (HP.out.later (hB.trans (hW.mono hB.size)))
  rw[hW.cell (p:=⟨w.heap.size,0,none⟩) (by simp)]
  simp
 rintro e w' ⟨rfl,hb⟩
 have hn:=aa.mk (List.any_eq_not_all_not (l:=xs) (p:=λx=>!p x))
 obtain⟨j,hj⟩:∃j,(xs.any λx=>!p x)=j:=⟨_,rfl⟩
 rw[hj] at hn ⊢
 clear hj
 go_wp2
 go_ret
 exact⟨bP (by rw[hn.out];simp),bQ hB hb⟩
def um(x:jO):Value:= .agg #[.int .i64 x.f0,.int .i64 x.f1]
def mZ(g:Nat)(first cap:Array Value)(p:jO->Bool)(w:World):Prop:=
 ∀(W:World) (x:jO),Below w.heap.size w W->Calls Tryz.prog g (first.push (um x)++cap) W λe w'=>e= .returned (.bool (p x))/\Below W.heap.size W w'
theorem mZ.later{g:Nat}{first cap:Array Value}{p:jO->Bool}{w W:World}(h:mZ g first cap p w)(hb:Below w.heap.size w W):mZ g first cap p W:=
 λW' x hb'=>h W' x (hb.trans (hb'.mono hb.size))
set_option maxHeartbeats 1000000 in
theorem Kg(g:Nat)(cap:Array Value)(hg:∀args w,(callFunc g args).run Tryz.prog w= .ok (.enter g args) w)(p:jO->Bool)(A:Option Addr)(c:Nat)(xs:List jO)(w:World)
  (hr:Kd.C OC w A xs.length xs) (hlen:xs.length<=9223372036854775807) (hp:mZ g #[] cap p w):
  Calls Tryz.prog 157 #[.slice A xs.length c,.func (.func g) #[] cap] w λe w'=>e= .returned (.int .i64 (fi p xs 0))/\Below w.heap.size w w':=by
 have HR:=aa.mk hr
 have HP:=aa.mk hp
 clear hr hp
 go_enter Tryz.func157,Tryz.ntmps157
 go_wp2
 go_loopw [8] (λv wr=>∃k:Nat,k<=xs.length/\v= .int .i64 k/\aa (Below w.heap.size w wr)/\aa (fi p xs 0=fi p (xs.drop k) k)) (λv _=>xs.length-(intOf v).toNat)
 case atStart=>exact⟨0,Nat.zero_le _,rfl,⟨Below.refl _ _⟩,⟨rfl⟩⟩
 case round=>
  obtain⟨k,hk,rfl,HB,HF⟩:=hrel
  by_cases hlt:k<xs.length
  .obtain⟨ad,e,h0,h1⟩:=Vg HR.out k (by omega) (by omega)
   cases e
   have hb:=HB.out
   replace h0:=(hb.cell (World.block_lt_of_cell? w _ h0)).trans h0
   replace h1:=(hb.cell (World.block_lt_of_cell? w _ h1)).trans h1
   simp only[Int.toNat_natCast] at h0 h1
   clear hb HR
   go_wp2_with fail
   have hc:=HP.out wr (iP xs k) HB.out
   simp only[um,iP,List.push_toArray,List.nil_append] at hc
   have hfs:=aa.mk (nC p xs k TK hlt)
   rw[show xs.getD k TK=iP xs k from by simp[iP,zZ,Int.toNat_natCast]] at hfs
   have HX:aa (∃y,y=iP xs k):=⟨⟨_,rfl⟩⟩
   refine(hc).mono ?_
   rintro e w' ⟨rfl,hb'⟩
   have yE:=aa.mk (bQ HB.out hb')
   clear hb' h0 h1 hc HB
   cases hpx:p (iP xs k)
   .simp only[iP] at hpx
    have pJ:=aa.mk hpx
    clear hpx
    simp only[pJ.out]
    go_wp2
    go_roundw
    case rel=>exact⟨k+1,by omega,by go_num,yE,⟨by rw[HF.out,hfs.out,if_neg (by simp[iP,pJ.out])]⟩⟩
    case measure=>simp[intOf];omega
   .simp only[iP] at hpx
    have pJ:=aa.mk hpx
    clear hpx
    simp only[pJ.out]
    go_wp2
    go_ret
    exact⟨fC (by rw[HF.out,hfs.out,if_pos (by simp[iP,pJ.out])]),yE.out⟩
  .have hk':k=xs.length:=by omega
   subst hk'
   go_wp2
   go_ret
   exact⟨fC (by rw[HF.out,List.drop_length];rfl),HB.out⟩
theorem DJ(g:Nat)(cap:Array Value)(hg:∀args w,(callFunc g args).run Tryz.prog w= .ok (.enter g args) w)(p:jO->Bool)(A:Option Addr)(c:Nat)(xs:List jO)(w:World)
  (hr:Kd.C OC w A xs.length xs) (hlen:xs.length<=9223372036854775807) (hp:mZ g #[] cap p w):
  Calls Tryz.prog 124 #[.slice A xs.length c,.func (.func g) #[] cap] w λe w'=>e= .returned (.bool (xs.any p))/\Below w.heap.size w w':=by
 go_enter Tryz.func124,Tryz.ntmps124
 go_wp2_with fail
 refine(Kg g cap hg p A c xs w hr hlen hp).mono ?_
 rintro e w' ⟨rfl,hb⟩
 obtain⟨j,hj⟩:∃j,fi p xs 0=j:=⟨_,rfl⟩
 have hn:=aa.mk (jY p xs 0)
 rw[hj] at hn ⊢
 clear hj
 go_wp2
 go_ret
 exact⟨bP (by rw[<- hn.out]),hb⟩
theorem Pw(g:Nat)(first cap:Array Value)(hg:∀args w,(callFunc g args).run Tryz.prog w= .ok (.enter g args) w)(p:jO->Bool)(x:jO)(gp:Nat)(w:World)
  (hc:w.cell? ⟨gp,0,none⟩=some (.func (.func g) first cap)) (hp:mZ g first cap p w):
  Calls Tryz.prog 125 ((#[]:Array Value).push (um x)++#[.pointer (some ⟨gp,0,none⟩)]) w λe w'=>e= .returned (.bool (!p x))/\Below w.heap.size w w':=by
 simp only[Array.empty_append,List.push_toArray,List.append_toArray,List.nil_append,List.cons_append,um]
 have YD:gp<w.heap.size:=World.block_lt_of_cell? w _ hc
 have HP:=aa.mk hp
 clear hp
 go_enter Tryz.func125,Tryz.ntmps125
 go_wp2_with fail
 have hc:=HP.out _ x ((Below.refl w.heap.size w).alloc (Nat.le_refl _) (.cells #[.int .i64 x.f0,.int .i64 x.f1] 115))
 simp only[um] at hc
 refine hc.mono ?_
 rintro e w' ⟨rfl,hb⟩
 obtain⟨b,hb1⟩:∃b,p x=b:=⟨_,rfl⟩
 rw[hb1]
 go_wp2
 go_ret
 exact⟨bP (by rw[hb1]),bQ ((Below.refl w.heap.size w).alloc (Nat.le_refl _) (.cells #[.int .i64 x.f0,.int .i64 x.f1] 115)) hb⟩
theorem R3(g:Nat)(first cap:Array Value)(hg:∀args w,(callFunc g args).run Tryz.prog w= .ok (.enter g args) w)(p:jO->Bool)(A:Option Addr)(c:Nat)(xs:List jO)(w:World)
  (hr:Kd.C OC w A xs.length xs) (hlen:xs.length<=9223372036854775807) (hp:mZ g first cap p w):
  Calls Tryz.prog 93 #[.slice A xs.length c,.func (.func g) first cap] w λe w'=>e= .returned (.bool (xs.all p))/\Below w.heap.size w w':=by
 go_enter Tryz.func93,Tryz.ntmps93
 have HR:=aa.mk hr
 have HP:=aa.mk hp
 clear hr hp
 go_wp2_with fail
 have hB:Below w.heap.size w (w.alloc (.cells #[.func (.func g) first cap] 191)):=(Below.refl _ _).alloc (Nat.le_refl _) _
 refine(DJ 125 #[.pointer (some ⟨w.heap.size,0,none⟩)] (enters Tryz.func125 (by kernel_rfl) rfl) (λx=>!p x) A c xs _ (Kd.av HR.out hB) hlen ?_).mono ?_
 .intro W x hW
  refine Pw g first cap hg p x w.heap.size W ?_ (HP.out.later (hB.trans (hW.mono hB.size)))
  rw[hW.cell (p:=⟨w.heap.size,0,none⟩) (by simp)]
  simp
 rintro e w' ⟨rfl,hb⟩
 have hn:=aa.mk (List.any_eq_not_all_not (l:=xs) (p:=λx=>!p x))
 obtain⟨j,hj⟩:∃j,(xs.any λx=>!p x)=j:=⟨_,rfl⟩
 rw[hj] at hn ⊢
 clear hj
 go_wp2
 go_ret
 exact⟨bP (by rw[hn.out];simp),bQ hB hb⟩
def j6(x:Int):Value:= .int .i64 x
def iD(g:Nat)(first cap:Array Value)(p:Int->Bool)(w:World):Prop:=
 ∀(W:World) (x:Int),Below w.heap.size w W->Calls Tryz.prog g (first.push (j6 x)++cap) W λe w'=>e= .returned (.bool (p x))/\Below W.heap.size W w'
theorem iD.later{g:Nat}{first cap:Array Value}{p:Int->Bool}{w W:World}(h:iD g first cap p w)(hb:Below w.heap.size w W):iD g first cap p W:=
 λW' x hb'=>h W' x (hb.trans (hb'.mono hb.size))
set_option maxHeartbeats 1000000 in
theorem yS(g:Nat)(cap:Array Value)(hg:∀args w,(callFunc g args).run Tryz.prog w= .ok (.enter g args) w)(p:Int->Bool)(A:Option Addr)(c:Nat)(xs:List Int)(w:World)
  (hr:Kd.C (Kd.int .i64) w A xs.length xs) (hlen:xs.length<=9223372036854775807) (hp:iD g #[] cap p w):
  Calls Tryz.prog 131 #[.slice A xs.length c,.func (.func g) #[] cap] w λe w'=>e= .returned (.int .i64 (fi p xs 0))/\Below w.heap.size w w':=by
 have HR:=aa.mk hr
 have HP:=aa.mk hp
 clear hr hp
 go_enter Tryz.func131,Tryz.ntmps131
 go_wp2
 go_loopw [8] (λv wr=>∃k:Nat,k<=xs.length/\v= .int .i64 k/\aa (Below w.heap.size w wr)/\aa (fi p xs 0=fi p (xs.drop k) k)) (λv _=>xs.length-(intOf v).toNat)
 case atStart=>exact⟨0,Nat.zero_le _,rfl,⟨Below.refl _ _⟩,⟨rfl⟩⟩
 case round=>
  obtain⟨k,hk,rfl,HB,HF⟩:=hrel
  by_cases hlt:k<xs.length
  .obtain⟨ad,e,h0⟩:=Kd.cK HR.out k (by omega) (by omega)
   cases e
   have hb:=HB.out
   replace h0:=(hb.cell (World.block_lt_of_cell? w _ h0)).trans h0
   simp only[Int.toNat_natCast] at h0
   clear hb HR
   go_wp2_with fail
   have hc:=HP.out wr (dF xs k) HB.out
   simp only[j6,dF,List.push_toArray,List.nil_append] at hc
   have hfs:=aa.mk (nC p xs k 0 hlt)
   rw[show xs.getD k 0=dF xs k from by simp[dF,rd,Int.toNat_natCast]] at hfs
   have HX:aa (∃y,y=dF xs k):=⟨⟨_,rfl⟩⟩
   refine(hc).mono ?_
   rintro e w' ⟨rfl,hb'⟩
   have yE:=aa.mk (bQ HB.out hb')
   clear hb' h0 hc HB
   cases hpx:p (dF xs k)
   .simp only[dF] at hpx
    have pJ:=aa.mk hpx
    clear hpx
    simp only[pJ.out]
    go_wp2
    go_roundw
    case rel=>exact⟨k+1,by omega,by go_num,yE,⟨by rw[HF.out,hfs.out,if_neg (by simp[dF,pJ.out])]⟩⟩
    case measure=>simp[intOf];omega
   .simp only[dF] at hpx
    have pJ:=aa.mk hpx
    clear hpx
    simp only[pJ.out]
    go_wp2
    go_ret
    exact⟨fC (by rw[HF.out,hfs.out,if_pos (by simp[dF,pJ.out])]),yE.out⟩
  .have hk':k=xs.length:=by omega
   subst hk'
   go_wp2
   go_ret
   exact⟨fC (by rw[HF.out,List.drop_length];rfl),HB.out⟩
theorem oC(g:Nat)(cap:Array Value)(hg:∀args w,(callFunc g args).run Tryz.prog w= .ok (.enter g args) w)(p:Int->Bool)(A:Option Addr)(c:Nat)(xs:List Int)(w:World)
  (hr:Kd.C (Kd.int .i64) w A xs.length xs) (hlen:xs.length<=9223372036854775807) (hp:iD g #[] cap p w):
  Calls Tryz.prog 103 #[.slice A xs.length c,.func (.func g) #[] cap] w λe w'=>e= .returned (.bool (xs.any p))/\Below w.heap.size w w':=by
 go_enter Tryz.func103,Tryz.ntmps103
 go_wp2_with fail
 refine(yS g cap hg p A c xs w hr hlen hp).mono ?_
 rintro e w' ⟨rfl,hb⟩
 obtain⟨j,hj⟩:∃j,fi p xs 0=j:=⟨_,rfl⟩
 have hn:=aa.mk (jY p xs 0)
 rw[hj] at hn ⊢
 clear hj
 go_wp2
 go_ret
 exact⟨bP (by rw[<- hn.out]),hb⟩
theorem Cs(g:Nat)(first cap:Array Value)(hg:∀args w,(callFunc g args).run Tryz.prog w= .ok (.enter g args) w)(p:Int->Bool)(x:Int)(gp:Nat)(w:World)
  (hc:w.cell? ⟨gp,0,none⟩=some (.func (.func g) first cap)) (hp:iD g first cap p w):
  Calls Tryz.prog 121 ((#[]:Array Value).push (j6 x)++#[.pointer (some ⟨gp,0,none⟩)]) w λe w'=>e= .returned (.bool (!p x))/\Below w.heap.size w w':=by
 simp only[Array.empty_append,List.push_toArray,List.append_toArray,List.nil_append,List.cons_append,j6]
 have YD:gp<w.heap.size:=World.block_lt_of_cell? w _ hc
 have HP:=aa.mk hp
 clear hp
 go_enter Tryz.func121,Tryz.ntmps121
 go_wp2_with fail
 have hc:=HP.out _ x (Below.refl _ _)
 simp only[j6] at hc
 refine hc.mono ?_
 rintro e w' ⟨rfl,hb⟩
 obtain⟨b,hb1⟩:∃b,p x=b:=⟨_,rfl⟩
 rw[hb1]
 go_wp2
 go_ret
 exact⟨bP (by rw[hb1]),bQ (Below.refl _ _) hb⟩
theorem Ah(g:Nat)(first cap:Array Value)(hg:∀args w,(callFunc g args).run Tryz.prog w= .ok (.enter g args) w)(p:Int->Bool)(A:Option Addr)(c:Nat)(xs:List Int)(w:World)
  (hr:Kd.C (Kd.int .i64) w A xs.length xs) (hlen:xs.length<=9223372036854775807) (hp:iD g first cap p w):
  Calls Tryz.prog 89 #[.slice A xs.length c,.func (.func g) first cap] w λe w'=>e= .returned (.bool (xs.all p))/\Below w.heap.size w w':=by
 go_enter Tryz.func89,Tryz.ntmps89
 have HR:=aa.mk hr
 have HP:=aa.mk hp
 clear hr hp
 go_wp2_with fail
 have hB:Below w.heap.size w (w.alloc (.cells #[.func (.func g) first cap] 118)):=(Below.refl _ _).alloc (Nat.le_refl _) _
 refine(oC 121 #[.pointer (some ⟨w.heap.size,0,none⟩)] (enters Tryz.func121 (by kernel_rfl) rfl) (λx=>!p x) A c xs _ (Kd.av HR.out hB) hlen ?_).mono ?_
 .intro W x hW
  refine Cs g first cap hg p x w.heap.size W ?_ (HP.out.later (hB.trans (hW.mono hB.size)))
  rw[hW.cell (p:=⟨w.heap.size,0,none⟩) (by simp)]
  simp
 rintro e w' ⟨rfl,hb⟩
 have hn:=aa.mk (List.any_eq_not_all_not (l:=xs) (p:=λx=>!p x))
 obtain⟨j,hj⟩:∃j,(xs.any λx=>!p x)=j:=⟨_,rfl⟩
 rw[hj] at hn ⊢
 clear hj
 go_wp2
 go_ret
 exact⟨bP (by rw[hn.out];simp),bQ hB hb⟩
def aR(w:World)(g:Nat)(cs:List Value)(t:TypeId):Prop:=w.heap[g]?=some (.cells cs.toArray t (0,0))
theorem aR.below{w w1:World}{g:Nat}{cs:List Value}{t:TypeId}(h:aR w g cs t)(hb:Below w.heap.size w w1):aR w1 g cs t:=dn h hb
theorem aR.cell{w:World}{g:Nat}{cs:List Value}{t:TypeId}(h:aR w g cs t)(i:Nat):w.cell? ⟨g,i,none⟩=cs[i]?:=(aA h i).trans (by simp)
theorem aR.frozen{w:World}{g:Nat}{cs:List Value}{t:TypeId}(h:aR w g cs t)(i:Nat):w.frozen? ⟨g,i,none⟩=false:=aD h i
theorem aR.lt{w:World}{g:Nat}{cs:List Value}{t:TypeId}(h:aR w g cs t):g<w.heap.size:=iC h
theorem aR.new(w:World)(cs:List Value)(t:TypeId):aR (w.alloc (.cells cs.toArray t)) w.heap.size cs t:=heap_alloc_new w _
theorem aR.alloc{w:World}{g:Nat}{cs:List Value}{t:TypeId}(h:aR w g cs t)(o:Obj):aR (w.alloc o) g cs t:=ay h o
structure bq(n₀:Nat)(S:Nat->Prop)(w w':World):Prop where
 os:w'.os=w.os
 tape:w'.tape=w.tape
 output:w'.output=w.output
 size:w.heap.size<=w'.heap.size
 block:∀k,k<n₀->¬S k->w'.heap[k]?=w.heap[k]?
theorem bq.refl(n₀:Nat)(S:Nat->Prop)(w:World):bq n₀ S w w:=⟨rfl,rfl,rfl,Nat.le_refl _,λ_ _ _=>rfl⟩
theorem bq.trans{n₀:Nat}{S:Nat->Prop}{a b c:World}(h:bq n₀ S a b)(k:bq n₀ S b c):bq n₀ S a c:=
 ⟨k.os.trans h.os,k.tape.trans h.tape,k.output.trans h.output,Nat.le_trans h.size k.size,λi hi hs=>(k.block i hi hs).trans (h.block i hi hs)⟩
theorem bq.of_below{n₀ B:Nat}{S:Nat->Prop}{a b:World}(h:Below B a b)(hB:n₀<=B):bq n₀ S a b:=⟨h.os,h.tape,h.output,h.size,λk hk _=>h.block k (by omega)⟩
theorem bq.mono{n₀ n₁:Nat}{S T:Nat->Prop}{a b:World}(h:bq n₀ S a b)(hn:n₁<=n₀)(hS:∀k,k<n₁->S k->T k):bq n₁ T a b:=⟨h.os,h.tape,h.output,h.size,λk hk hs=>h.block k (by omega) (λx=>hs (hS k hk x))⟩
theorem bq.alloc{n₀:Nat}{S:Nat->Prop}{a b:World}(h:bq n₀ S a b)(hB:n₀<=b.heap.size)(o:Obj):bq n₀ S a (b.alloc o):=
 h.trans (bq.of_below ((Below.refl b.heap.size b).alloc (Nat.le_refl _) o) hB)
theorem bq.setCell{n₀:Nat}{S:Nat->Prop}{a b:World}(h:bq n₀ S a b){p:Addr}(hp:S p.block\/n₀<=p.block)(u:Value):bq n₀ S a (b.setCell p u):=
 h.trans ⟨rfl,rfl,rfl,by simp[World.setCell],λk hk hs=>Below.heap_setCell _ _ _ _ (by
  rintro rfl
  rcases hp with hp|hp
  .exact hs hp
  .omega)⟩
theorem bq.drewN{n₀:Nat}{S:Nat->Prop}{a b:World}(h:bq n₀ S a b)(n:Nat):bq n₀ S a (b.drewN n):=⟨h.os,h.tape,h.output,h.size,h.block⟩
theorem bq.drew{n₀:Nat}{S:Nat->Prop}{a b:World}(h:bq n₀ S a b):bq n₀ S a b.drew:=⟨h.os,h.tape,h.output,h.size,h.block⟩
theorem bq.put{n₀:Nat}{S:Nat->Prop}{a b:World}(h:bq n₀ S a b){l:Nat}(hl:S l\/n₀<=l)(o:Obj):bq n₀ S a (b.putObj l o):=
 h.trans ⟨rfl,rfl,rfl,by simp[World.putObj],λk hk hs=>World.putObj_heap_other (by
  rintro rfl
  rcases hl with hl|hl
  .exact hs hl
  .omega)⟩
theorem bq.cell{n₀:Nat}{S:Nat->Prop}{w w':World}(h:bq n₀ S w w'){p:Addr}(hp:p.block<n₀)(hs:¬S p.block):w'.cell? p=w.cell? p:=World.cell?_of_block (w:=w) (h.block p.block hp hs)
theorem bq.frozen{n₀:Nat}{S:Nat->Prop}{w w':World}(h:bq n₀ S w w'){p:Addr}(hp:p.block<n₀)(hs:¬S p.block):w'.frozen? p=w.frozen? p:=World.frozen?_of_block (w:=w) (h.block p.block hp hs)
theorem EZ{n₀:Nat}{S:Nat->Prop}{w:World}(hn:n₀<=w.heap.size)(W:World)(l:Nat)(o o':Obj)(hl:w.heap.size<=l)(h:W.heap[l]?=some o)(_:o.isCells=false)(_:o.isWalk=false):bq n₀ S W (W.putObj l o'):=
 bq.of_below ((Below.refl n₀ W).grown (grownBy_putObj' W l o') (by have:=(Array.getElem?_eq_some_iff.1 h).1;omega) (λk e=>by cases e;omega)) (Nat.le_refl _)
theorem aR.move{w w':World}{g:Nat}{cs:List Value}{t:TypeId}(h:aR w g cs t)(e:w'.heap[g]?=w.heap[g]?):aR w' g cs t:=e.trans h
theorem aR.set2{w:World}{g:Nat}{a b:Value}{t:TypeId}(h:aR w g [a,b] t)(u v:Value):aR ((w.setCell ⟨g,0,none⟩ u).setCell ⟨g,1,none⟩ v) g [u,v] t:=by
 have:=df (df h 0 u) 1 v
 exact this
theorem Bc(l:List Int)(k:Nat)(h:k<l.length):rd l (k:Int)=l[k]:=by simp[rd,List.getD,h]
theorem wrap_small{a:Int}(h0:0<=a)(h1:a<1000000000):wrap64 a=a:=by unfold wrap64;omega
theorem iy{α:Type}{d:Kd α}{e:Nat}{w:World}{base:Nat}{ok:Nat->Prop}{v:Value}{xs:List α}(h:d.R e w base ok v xs):∃A n c,v= .slice A n c:=by
 obtain⟨a_,b_,e_,_,_⟩:=Kd.cB h
 exact⟨_,_,_,e_⟩
theorem size_set(w:World)(p:Addr)(u:Value):(w.setCell p u).heap.size=w.heap.size:=by simp[World.setCell]
theorem size_alloc(w:World)(o:Obj):w.heap.size<(w.alloc o).heap.size:=by simp
def aK(n lo hi:Int):Bool:=decide (lo<=n)&&decide (n<=hi)
theorem iM(n lo hi:Int)(w:World):
  Calls Tryz.prog 53 #[.int .i64 n,.int .i64 lo,.int .i64 hi] w λe w'=>e= .returned (.bool (aK n lo hi))/\Below w.heap.size w w':=by
 refine(iQ.calls n lo hi (aK n lo hi) w ?_).mono ?_
 .unfold iQ.f aK
  by_cases h:lo<=n<;>simp[h]
 .rintro e w' ⟨h1,h2⟩
  exact⟨h1,h2.below⟩
theorem Dx(n:Int)(w:World):Calls Tryz.prog 90 #[.int .i64 n] w λe w'=>e= .returned (.bool (aK n 0 10000))/\Below w.heap.size w w':=by
 refine(mF.calls n (aK n 0 10000) w ?_).mono ?_
 .unfold mF.f iQ.f aK
  by_cases h:0<=n<;>simp[h]
 .rintro e w' ⟨h1,h2⟩
  exact⟨h1,h2.below⟩
def iO(lo hi b:Int):Bool:=decide (0<=lo)&&(decide (lo<=hi)&&decide (hi<=b))
theorem r9(lo hi b:Int)(w:World):
  Calls Tryz.prog 94 #[.agg #[.int .i64 lo,.int .i64 hi],.int .i64 b] w λe w'=>e= .returned (.bool (iO lo hi b))/\Below w.heap.size w w':=by
 refine jD.calls lo hi b (iO lo hi b) w ?_
 unfold jD.f iO
 by_cases h:0<=lo<;>by_cases h':lo<=hi<;>simp[h,h']
structure Nr(w:World)(A0:Option Addr)(c0:Nat)(old:List Int)(A2:Option Addr)(c2:Nat)(ss:List dQ)(A3:Option Addr)(c3:Nat)(js:List jO):Prop where
 QR:Kd.C (Kd.int .i64) w A0 old.length old
 l0:old.length<=c0
 PV:Kd.C Bu w A2 ss.length ss
 l2:ss.length<=c2
 kjo:Kd.C OC w A3 js.length js
 l3:js.length<=c3
 b0:old.length<=281474976710656
 b2:ss.length<=281474976710656
 b3:js.length<=281474976710656
theorem Nr.below{w w1:World}{A0:Option Addr}{c0:Nat}{old:List Int}{A2:Option Addr}{c2:Nat}{ss:List dQ}{A3:Option Addr}{c3:Nat}{js:List jO}(h:Nr w A0 c0 old A2 c2 ss A3 c3 js)(hb:Below w.heap.size w w1):Nr w1 A0 c0 old A2 c2 ss A3 c3 js:=
 ⟨Kd.av h.QR hb,h.l0,Kd.av h.PV hb,h.l2,Kd.av h.kjo hb,h.l3,h.b0,h.b2,h.b3⟩
def ma(no:Nat)(nw:Int)(x:dQ):Bool:=aK x.f0 0 ((no:Int)-1)&&(aK x.f1 0 (nw-1)&&(aK x.f2 0 1000&&iO x.f3.f0 x.f3.f1 10000))
def zA(ns:Nat)(x:jO):Bool:=aK x.f0 0 ((ns:Int)-1)&&(aK x.f1 0 ((ns:Int)-1)&&(x.f0 !=x.f1))
set_option maxHeartbeats 4000000 in
theorem EJ{A0:Option Addr}{c0 no:Nat}{nw:Int}{A2:Option Addr}{c2 ns:Nat}{A3:Option Addr}{c3 nj:Nat}(x:dQ)(w:World)(hno:no<=281474976710656)(hnw:0<=nw/\nw<=1000):
  Calls Tryz.prog 87 #[.agg #[.slice A0 no c0,.int .i64 nw,.slice A2 ns c2,.slice A3 nj c3],.agg #[.int .i64 x.f0,.int .i64 x.f1,.int .i64 x.f2,.int .i64 x.f3.f0,.int .i64 x.f3.f1]] w λe w'=>e= .returned (.bool (ma no nw x))/\Below w.heap.size w w':=by
 obtain⟨y0,y1,y2,y3,y4⟩:=x
 have hw0:wrap64 ((no:Int)-1)=(no:Int)-1:=by unfold wrap64;omega
 have hw1:wrap64 (nw-1)=nw-1:=by unfold wrap64;omega
 unfold ma
 simp only
 go_enter Tryz.func87,Tryz.ntmps87
 go_wp2_with fail
 have HB:=aa.mk (ae (ae (Below.refl w.heap.size w) (.cells #[.slice A0 no c0,.int .i64 nw,.slice A2 ns c2,.slice A3 nj c3] 43)) (.cells #[.int .i64 y0,.int .i64 y1,.int .i64 y2,.int .i64 y3,.int .i64 y4] 105))
 have B2:=aa.mk ((aR.new w [.slice A0 no c0,.int .i64 nw,.slice A2 ns c2,.slice A3 nj c3] 43).alloc (.cells #[.int .i64 y0,.int .i64 y1,.int .i64 y2,.int .i64 y3,.int .i64 y4] 105))
 have B3:=aa.mk (show aR _ (w.heap.size+1) _ _ by simpa using aR.new (w.alloc (.cells #[.slice A0 no c0,.int .i64 nw,.slice A2 ns c2,.slice A3 nj c3] 43)) [.int .i64 y0,.int .i64 y1,.int .i64 y2,.int .i64 y3,.int .i64 y4] 105)
 generalize(w.alloc (.cells #[.slice A0 no c0,.int .i64 nw,.slice A2 ns c2,.slice A3 nj c3] 43)).alloc (.cells #[.int .i64 y0,.int .i64 y1,.int .i64 y2,.int .i64 y3,.int .i64 y4] 105)=w0 at HB B2 B3 ⊢
 refine(iM y0 0 ((no:Int)-1) w0).mono ?_
 rintro e w1 ⟨rfl,hb1⟩
 have HB1:=aa.mk (HB.out.trans (hb1.mono HB.out.size))
 have yC:=aa.mk (B2.out.below hb1)
 have Db:=aa.mk (B3.out.below hb1)
 clear hb1 HB B2 B3
 cases h1:aK y0 0 ((no:Int)-1)
 .go_wp2
  go_ret
  exact⟨bP (by simp[h1]),HB1.out⟩
 have h20:=yC.out.cell 0
 have h21:=yC.out.cell 1
 have jB:=Db.out.cell 0
 have h31:=Db.out.cell 1
 have h32:=Db.out.cell 2
 simp only[eP,eO] at h20 h21 jB h31 h32
 go_wp2_with fail
 refine(iM y1 0 (nw-1) w1).mono ?_
 rintro e w2 ⟨rfl,hb2⟩
 have HB2:=aa.mk (HB1.out.trans (hb2.mono HB1.out.size))
 have AB:=aa.mk (Db.out.below hb2)
 clear hb2 HB1 yC Db h20 h21 jB h31 h32
 cases h2:aK y1 0 (nw-1)
 .go_wp2
  go_ret
  exact⟨bP (by simp[h1,h2]),HB2.out⟩
 have h32:=AB.out.cell 2
 simp only[eP,eO] at h32
 go_wp2_with fail
 refine(iM y2 0 1000 w2).mono ?_
 rintro e w3 ⟨rfl,hb3⟩
 have HB3:=aa.mk (HB2.out.trans (hb3.mono HB2.out.size))
 have B33:=aa.mk (AB.out.below hb3)
 clear hb3 HB2 AB h32
 cases h3:aK y2 0 1000
 .go_wp2
  go_ret
  exact⟨bP (by simp[h1,h2,h3]),HB3.out⟩
 have Tz:=B33.out.cell 3
 have h34:=B33.out.cell 4
 simp only[eP,eO] at Tz h34
 go_wp2_with fail
 refine(r9 y3 y4 10000 w3).mono ?_
 rintro e w4 ⟨rfl,hb4⟩
 have jd:=aa.mk (HB3.out.trans (hb4.mono HB3.out.size))
 clear hb4
 cases h4:iO y3 y4 10000
 .go_wp2
  go_ret
  exact⟨bP (by simp[h1,h2,h3,h4]),jd.out⟩
 .go_wp2
  go_ret
  exact⟨bP (by simp[h1,h2,h3,h4]),jd.out⟩
set_option maxHeartbeats 4000000 in
theorem Ka{A0:Option Addr}{c0 no:Nat}{nw:Int}{A2:Option Addr}{c2 ns:Nat}{A3:Option Addr}{c3 nj:Nat}(x:jO)(w:World)(hns:ns<=281474976710656):
  Calls Tryz.prog 88 #[.agg #[.slice A0 no c0,.int .i64 nw,.slice A2 ns c2,.slice A3 nj c3],.agg #[.int .i64 x.f0,.int .i64 x.f1]] w λe w'=>e= .returned (.bool (zA ns x))/\Below w.heap.size w w':=by
 obtain⟨y0,y1⟩:=x
 have hw0:wrap64 ((ns:Int)-1)=(ns:Int)-1:=by unfold wrap64;omega
 unfold zA
 simp only
 go_enter Tryz.func88,Tryz.ntmps88
 go_wp2_with fail
 have HB:=aa.mk (ae (ae (Below.refl w.heap.size w) (.cells #[.slice A0 no c0,.int .i64 nw,.slice A2 ns c2,.slice A3 nj c3] 43)) (.cells #[.int .i64 y0,.int .i64 y1] 115))
 have B2:=aa.mk ((aR.new w [.slice A0 no c0,.int .i64 nw,.slice A2 ns c2,.slice A3 nj c3] 43).alloc (.cells #[.int .i64 y0,.int .i64 y1] 115))
 have B3:=aa.mk (show aR _ (w.heap.size+1) _ _ by simpa using aR.new (w.alloc (.cells #[.slice A0 no c0,.int .i64 nw,.slice A2 ns c2,.slice A3 nj c3] 43)) [.int .i64 y0,.int .i64 y1] 115)
 generalize(w.alloc (.cells #[.slice A0 no c0,.int .i64 nw,.slice A2 ns c2,.slice A3 nj c3] 43)).alloc (.cells #[.int .i64 y0,.int .i64 y1] 115)=w0 at HB B2 B3 ⊢
 refine(iM y0 0 ((ns:Int)-1) w0).mono ?_
 rintro e w1 ⟨rfl,hb1⟩
 have HB1:=aa.mk (HB.out.trans (hb1.mono HB.out.size))
 have yC:=aa.mk (B2.out.below hb1)
 have Db:=aa.mk (B3.out.below hb1)
 clear hb1 HB B2 B3
 cases h1:aK y0 0 ((ns:Int)-1)
 .go_wp2
  go_ret
  exact⟨bP (by simp[h1]),HB1.out⟩
 have h22:=yC.out.cell 2
 have h31:=Db.out.cell 1
 simp only[eP,eO] at h22 h31
 go_wp2_with fail
 refine(iM y1 0 ((ns:Int)-1) w1).mono ?_
 rintro e w2 ⟨rfl,hb2⟩
 have HB2:=aa.mk (HB1.out.trans (hb2.mono HB1.out.size))
 have AB:=aa.mk (Db.out.below hb2)
 clear hb2 HB1 yC Db h22 h31
 cases h2:aK y1 0 ((ns:Int)-1)
 .go_wp2
  go_ret
  exact⟨bP (by simp[h1,h2]),HB2.out⟩
 have jB:=AB.out.cell 0
 have h31:=AB.out.cell 1
 simp only[eP,eO] at jB h31
 cases h3:(y0 !=y1)
 .go_wp2
  go_ret
  exact⟨bP (by simp only[h1,h2,h3,Bool.and_self,Bool.and_false]),HB2.out⟩
 .go_wp2
  go_ret
  exact⟨bP (by simp only[h1,h2,h3,Bool.and_self,Bool.and_false]),HB2.out⟩
end Go.Proofs.YtkjoilgpmngndaaGreat
namespace Go.Proofs.YtkjoilgpmngndaaGreat
open Go.RowKit Go.Shelf au YtkjoilgpmngndaaGreatW.aj
attribute [local go_sem] Oper.semAt_some
abbrev IS:Type:=Nat×dQ
def iR(ss:List dQ)(old:Int)(k:Nat):List IS:=((List.range k).filter (λi=>(aN ss i).f0==old)).map (λi=>(i,aN ss i))
theorem Ou(ss:List dQ)(old:Int)(k:Nat):iR ss old (k+1)=if(aN ss k).f0=old then iR ss old k++[(k,aN ss k)] else iR ss old k:=by
 unfold iR
 rw[List.range_succ,List.filter_append,List.map_append]
 by_cases h:(aN ss k).f0=old
 .rw[if_pos h]
  simp[List.filter_cons,h]
 .rw[if_neg h]
  simp[List.filter_cons,h]
theorem Bp(ss:List dQ)(old:Int)(k:Nat):(iR ss old k).length<=k:=by
 unfold iR
 rw[List.length_map]
 have:=List.length_filter_le (λi=>(aN ss i).f0==old) (List.range k)
 rwa [List.length_range] at this
def encS(x:dQ):Value:= .agg #[.int .i64 x.f0,.int .i64 x.f1,.int .i64 x.f2,.int .i64 x.f3.f0,.int .i64 x.f3.f1]
def M0(x:IS):Array Value:=#[.int .i64 (x.1:Int),encS x.2]
structure FW(n₀:Nat)(S:Nat->Prop)(W:World)(gm gn:Nat)(u0 u1 u3:Value)(A2:Option Addr)(c2:Nat)(ss:List dQ)(old:Int):Prop where
 m:aR W gm [u0,u1,.slice A2 ss.length c2,u3] 43
 n:W.cell? ⟨gn,0,none⟩=some (.int .i64 old)
 Mk:Kd.C Bu W A2 ss.length ss
 lm:gm<n₀/\¬S gm
 ln:gn<n₀/\¬S gn
 lr:0<ss.length->∀ad,A2=some ad->ad.block<n₀/\¬S ad.block
theorem EI{n₀:Nat}{S:Nat->Prop}{W W':World}{A2:Option Addr}{ss:List dQ}(h:Kd.C Bu W A2 ss.length ss)(hl:0<ss.length->∀ad,A2=some ad->ad.block<n₀/\¬S ad.block)(k:bq n₀ S W W')(i:Nat)(hi:i<ss.length):
  ∃ad,A2=some ad/\W'.cell? (ad.add (i*5))=some (.int .i64 (iX ss i).f0)/\W'.cell? ⟨(ad.add (i*5)).block,(ad.add (i*5)).off+1,none⟩=some (.int .i64 (iX ss i).f1)/\W'.cell? ⟨(ad.add (i*5)).block,(ad.add (i*5)).off+2,none⟩=some (.int .i64 (iX ss i).f2)/\W'.cell? ⟨(ad.add (i*5)).block,(ad.add (i*5)).off+3,none⟩=some (.int .i64 (iX ss i).f3.f0)/\W'.cell? ⟨(ad.add (i*5)).block,(ad.add (i*5)).off+4,none⟩=some (.int .i64 (iX ss i).f3.f1):=by
 obtain⟨ad,e,h0,h1,h2,h3,h4⟩:=yh h i (by omega) (by omega)
 simp only[Int.toNat_natCast] at h0 h1 h2 h3 h4
 obtain⟨hl1,hl2⟩:=hl (by omega) ad e
 have hbk:(ad.add (i*5)).block=ad.block:=by unfold Addr.add;split<;>rfl
 refine⟨ad,e,?_,?_,?_,?_,?_⟩
 .rw[k.cell (by rw[hbk];exact hl1) (by rw[hbk];exact hl2)];exact h0
 .rw[k.cell (by simp only[hbk];exact hl1) (by simp only[hbk];exact hl2)];exact h1
 .rw[k.cell (by simp only[hbk];exact hl1) (by simp only[hbk];exact hl2)];exact h2
 .rw[k.cell (by simp only[hbk];exact hl1) (by simp only[hbk];exact hl2)];exact h3
 .rw[k.cell (by simp only[hbk];exact hl1) (by simp only[hbk];exact hl2)];exact h4
theorem jW{β:Type}{B:Nat}{J:β->World->Prop}(h:AbidesFrom B J){s:β}{W:World}(o:Obj)(hj:J s W):J s (W.alloc o):=
 h s W _ none hj (kE (ae (Below.refl _ _) o) none) (by simp)
set_option maxRecDepth 100000 in
set_option maxHeartbeats 4000000 in
theorem X4(F:Fence)(n:Nat)(hf:F.fn 96)(hro:F.round=none)(hn:1<=n)(l gm gn n₀:Nat)(S:Nat->Prop)(u0 u1 u3:Value)(A2:Option Addr)(c2:Nat)(ss:List dQ)(old:Int)(wI:ss.length<=281474976710656)
  (J Jx:List IS->World->Prop) (B:Nat) (hJA:AbidesFrom B J)
  (hY:∀pre k W,k<ss.length->(aN ss k).f0=old->pre=iR ss old k->J pre W->YieldAt F (n-1) Tryz.prog l (M0 (k,aN ss k)) W λe W'=>
   (e= .returned (.bool true)/\J (pre++[(k,aN ss k)]) W'/\bq n₀ S W W')\/(e= .returned (.bool false)/\Jx (pre++[(k,aN ss k)]) W'))
  (W:World) (hW:n₀<=W.heap.size) (hR:FW n₀ S W gm gn u0 u1 u3 A2 c2 ss old) (h0:J [] W):
  CallsIn F n Tryz.prog 96 #[.func (.yield l) #[] #[],.pointer (some ⟨gm,0,none⟩),.pointer (some ⟨gn,0,none⟩)] W λe W'=>(∃v,e= .returned v) /\
   ((∃ys,ys=iR ss old ss.length/\J ys W')\/(∃pre,True/\Jx pre W')):=by
 have HR:=aa.mk hR
 have HY:=aa.mk hY
 have ZY:=aa.mk hJA
 have hz2:=hR.m.cell 2
 simp only[eP,eO] at hz2
 clear hR hY hJA
 refine callsIn_of_wp Tryz.func96 rfl hf ?_ hro
 simp only[Tryz.ntmps96,List.size_toArray,List.length_cons,List.length_nil,Nat.reduceAdd,Nat.reduceSub,Array.replicate_succ,Array.replicate_zero,List.push_toArray,List.append_toArray,List.nil_append,List.cons_append]
 gi_wp2
 gi_loopw [9] (λi wr=>∃k:Nat,k<=ss.length/\i= .int .i64 k/\aa (J (iR ss old k) wr)/\aa (bq n₀ S W wr))
  (λi _=>ss.length-(intOf i).toNat)
 case atStart=>exact⟨0,Nat.zero_le _,rfl,⟨h0⟩,⟨bq.refl _ _ _⟩⟩
 case round=>
  obtain⟨k,hk,rfl,HJ,HK⟩:=hrel
  by_cases hlt:k<ss.length
  .obtain⟨ad,e,h0,h1,h2,h3,h4⟩:=EI HR.out.Mk HR.out.lr HK.out k hlt
   cases e
   have hyy:=HY.out (iR ss old k) k
   have hst:=Ou ss old k
   have hrr:aN ss k=iX ss (k:Int):=rfl
   rw[hrr] at hyy hst
   obtain⟨r,hr⟩:∃r,iX ss (k:Int)=r:=⟨_,rfl⟩
   rw[hr] at h0 h1 h2 h3 h4 hyy hst
   have HYY:=aa.mk hyy
   clear hr hrr hyy
   have hgn:=(HK.out.cell (p:=⟨gn,0,none⟩) HR.out.ln.1 HR.out.ln.2).trans HR.out.n
   have ahC:gn<wr.heap.size:=World.block_lt_of_cell? _ _ hgn
   have Xl:=aa.mk (Nat.le_trans hW HK.out.size)
   have HJ2:=aa.mk (jW ZY.out (.cells #[.int .i64 r.f0,.int .i64 r.f1,.int .i64 r.f2,.int .i64 r.f3.f0,.int .i64 r.f3.f1] 105) HJ.out)
   by_cases p0:r.f0=old
   .have V9:(r.f0==old)=true:=beq_iff_eq.2 p0
    rw[if_pos p0] at hst
    have HST:=aa.mk hst
    obtain⟨fn,tmps,assign,body,hy,hRR⟩:=HYY.out _ hlt p0 rfl HJ2.out
    dsimp only[M0,encS] at hy
    clear p0 hst
    gi_wp2_with fail
    refine hRR.mono ?_
    rintro e W3 (⟨rfl,hJ3,hk3⟩|⟨rfl,hJx3⟩)
    .gi_wp2_with fail
     go_roundw
     case rel=>exact⟨k+1,by omega,by go_num,⟨by rw[HST.out];exact hJ3⟩,⟨(HK.out.alloc Xl.out _).trans hk3⟩⟩
     case measure=>simp[intOf];omega
    .gi_wp2_with fail
     refine bodyPost_ret (results_none rfl _ _ _) rfl ?_
     exact⟨⟨_,rfl⟩,.inr ⟨_,trivial,hJx3⟩⟩
   .have V9:(r.f0==old)=false:=beq_eq_false_iff_ne.2 p0
    rw[if_neg p0] at hst
    have HST:=aa.mk hst
    clear p0 hst
    gi_wp2_with fail
    refine⟨λ_ h=>(by cases h),?_⟩
    gi_wp2_with fail
    go_roundw
    case rel=>exact⟨k+1,by omega,by go_num,⟨by rw[HST.out];exact HJ2.out⟩,⟨HK.out.alloc Xl.out _⟩⟩
    case measure=>simp[intOf];omega
  .obtain rfl:k=ss.length:=by omega
   gi_wp2
   go_end0
   exact⟨⟨_,rfl⟩,.inl ⟨_,rfl,HJ.out⟩⟩
def Lh(ss:List dQ)(old:Int)(x:IS):Prop:=x.1<ss.length/\x.2=aN ss x.1/\x.2.f0=old
theorem QI(F:Fence)(n:Nat)(hf:F.fn 96)(hro:F.round=none)(hn:1<=n)(gm gn n₀:Nat)(S:Nat->Prop)(u0 u1 u3:Value)(A2:Option Addr)(c2:Nat)(ss:List dQ)(old:Int)(wI:ss.length<=281474976710656)
  (w:World) (hw:n₀<=w.heap.size) (hR:FW n₀ S w gm gn u0 u1 u3 A2 c2 ss old):
  SeqStopsK F n Tryz.prog 96 #[.pointer (some ⟨gm,0,none⟩),.pointer (some ⟨gn,0,none⟩)] (λx:{x // Lh ss old x}=>M0 x.1) (bq n₀ S) (λys=>ys.map (·.1)=iR ss old ss.length) (λ_=>True) ss.length w:=λl J Jx W hW hJ hJx hY h0=>by
 have hk:bq n₀ S w W:=bq.of_below hW hw
 refine(X4 F n hf hro hn l gm gn n₀ S u0 u1 u3 A2 c2 ss old wI (λpre W=>∃ys:List {x // Lh ss old x},ys.map (·.1)=pre/\J ys W) (λpre W=>∃ys:List {x // Lh ss old x},ys.map (·.1)=pre/\Jx ys W) W.heap.size ?_ ?_ W (Nat.le_trans hw hW.size) ?_ ⟨[],rfl,h0⟩).mono ?_
 .rintro s A B row ⟨ys,e,hj⟩ hg hr
  exact⟨ys,e,hJ ys A B row hj hg hr⟩
 .rintro pre k W' hkl hko he ⟨ys,rfl,hj⟩
  have hlen:ys.length<ss.length:=by
   have:=Bp ss old k
   rw[<- he,List.length_map] at this
   omega
  refine(hY ys ⟨(k,aN ss k),hkl,rfl,hko⟩ W' hj hlen).mono ?_
  rintro e W'' (⟨rfl,h1,h2⟩|⟨rfl,h1⟩)
  .exact .inl ⟨rfl,⟨_,by simp,h1⟩,h2⟩
  .exact .inr ⟨rfl,⟨_,by simp,h1⟩⟩
 .exact⟨((hk.block gm hR.lm.1 hR.lm.2).trans hR.m),(hk.cell (p:=⟨gn,0,none⟩) hR.ln.1 hR.ln.2).trans hR.n,Kd.av hR.Mk hW,hR.lm,hR.ln,hR.lr⟩
 .rintro e W' ⟨hv,⟨ys,he,zs,h1,h2⟩|⟨pre,_,zs,h1,h2⟩⟩
  .exact⟨hv,.inl ⟨zs,h1.trans he,h2⟩⟩
  .exact⟨hv,.inr ⟨zs,trivial,h2⟩⟩
theorem Mr(F:Fence)(n:Nat)(hf:F.fn 52)(hro:F.round=none)(u0 u1 u2 u3:Value)(old:Int)(hu0:u0.cells=#[u0])(hu1:u1.cells=#[u1])(hu2:u2.cells=#[u2])(hu3:u3.cells=#[u3])(w:World):
  CallsIn F n Tryz.prog 52 #[.agg #[u0,u1,u2,u3],.int .i64 old] w λe w'=>e= .returned (.func (.func 96) #[] #[.pointer (some ⟨w.heap.size,0,none⟩),.pointer (some ⟨w.heap.size+1,0,none⟩)]) /\
   w'=(w.alloc (.cells #[u0,u1,u2,u3] 43)).alloc (.cells #[.int .i64 old] 3):=by
 refine callsIn_of_wp Tryz.func52 rfl hf ?_ hro
 simp only[Tryz.ntmps52,List.size_toArray,List.length_cons,List.length_nil,Nat.reduceAdd,Nat.reduceSub,Array.replicate_succ,Array.replicate_zero,List.push_toArray,List.append_toArray,List.nil_append,List.cons_append]
 gi_wp2
 go_ret
 exact⟨rfl,rfl⟩
end Go.Proofs.YtkjoilgpmngndaaGreat
