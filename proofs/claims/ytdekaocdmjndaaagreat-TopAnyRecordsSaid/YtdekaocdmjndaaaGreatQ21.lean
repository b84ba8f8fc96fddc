import Derived.Test.YtdekaocdmjndaaaGreatQ20
set_option linter.all false
namespace Go.Proofs.YtdekaocdmjndaaaGreat.Wk
open Go.RowKit ah YtdekaocdmjndaaaGreatW.aj
def Ae(g:Nat)(args:Array Value)(b:Bool)(w:World):Prop:=
 ∀(W:World),Below w.heap.size w W->Calls Tryz.prog g args W λe w'=>e= .returned (.bool b)/\Below W.heap.size W w'
theorem Ae.later{g:Nat}{args:Array Value}{b:Bool}{w W:World}(h:Ae g args b w)(hb:Below w.heap.size w W):Ae g args b W:=
 λW' hb'=>h W' (hb.trans (hb'.mono hb.size))
def fi{α:Type}(p:α->Bool):List α->Nat->Int
 |[],_=> -1
 |x::xs,i=>if p x then(i:Int) else fi p xs (i+1)
theorem iQ{α:Type}(p:α->Bool)(xs:List α)(i:Nat):decide (0<=fi p xs i)=xs.any p:=by
 induction xs generalizing i with
 |nil=>simp[fi]
 |cons x xs ih=>
  unfold fi
  by_cases h:p x=true
  .simp[h]
  .simp[h,ih]
theorem getD_drop{α:Type}(xs:List α)(k:Nat)(d:α)(h:k<xs.length):xs.drop k=xs.getD k d::xs.drop (k+1):=by
 rw[List.drop_eq_getElem_cons h]
 simp[List.getD,h]
theorem jX{α:Type}(p:α->Bool)(xs:List α)(k:Nat)(d:α)(h:k<xs.length):fi p (xs.drop k) k=if p (xs.getD k d) then(k:Int) else fi p (xs.drop (k+1)) (k+1):=by
 rw[getD_drop xs k d h]
 rfl
theorem bA{w a b:World}(h:Below w.heap.size w a)(k:Below a.heap.size a b):Below w.heap.size w b:=h.trans (k.mono h.size)
theorem bB{a b:Bool}(h:a=b):Ending.returned (.bool a)= .returned (.bool b):=by rw[h]
theorem dL{k:IntKind}{a b:Int}(h:a=b):Ending.returned (.int k a)= .returned (.int k b):=by rw[h]
theorem enters {g:Nat} {fn:Func} {c:Code} (hf:Tryz.prog.funcs[g]?=some fn) (hname:(fn.name== "runtime.NumGoroutine")=false) (hb:fn.body=some c):
  ∀args w,(callFunc g args).run Tryz.prog w= .ok (.enter g args) w:=by
 intro args w
 have h1:fn.name≠ "runtime.NumGoroutine" :=by simpa using hname
 simp[callFunc,hf,h1,hb,mark]
def aX(n lo hi:Int):Bool:=decide (lo<=n)&&decide (n<=hi)
theorem iW(n lo hi:Int)(w:World):
  Calls Tryz.prog 210 #[.int .i64 n,.int .i64 lo,.int .i64 hi] w λe w'=>e= .returned (.bool (aX n lo hi))/\Below w.heap.size w w':=by
 refine(iy.calls n lo hi (aX n lo hi) w ?_).mono ?_
 .unfold iy.f aX
  by_cases h:lo<=n<;>simp[h]
 .rintro e w' ⟨h1,h2⟩
  exact⟨h1,h2.below⟩
def iC(lo hi a b:Int):Bool:=decide (a<=lo)&&(decide (lo<=hi)&&decide (hi<=b))
theorem qx(lo hi a b:Int)(w:World):
  Calls Tryz.prog 268 #[.agg #[.int .i64 lo,.int .i64 hi],.int .i64 a,.int .i64 b] w λe w'=>e= .returned (.bool (iC lo hi a b))/\Below w.heap.size w w':=by
 refine dW.calls lo hi a b (iC lo hi a b) w ?_
 unfold dW.f iC
 by_cases h:a<=lo<;>by_cases h':lo<=hi<;>simp[h,h']
def CP(r:dJ)(a b:Int):Bool:=r.f0==a&&r.f1==b||r.f0==b&&r.f1==a
def Ti(x:dJ):Value:= .agg #[.int .i64 x.f0,.int .i64 x.f1,.int .i64 x.f2.f0,.int .i64 x.f2.f1]
set_option maxHeartbeats 400000 in
theorem Ex(ra rb lo hi a b:Int)(w:World):
  Calls Tryz.prog 323 #[.agg #[.int .i64 ra,.int .i64 rb,.int .i64 lo,.int .i64 hi],.int .i64 a,.int .i64 b] w λe w'=>e= .returned (.bool (ra==a&&rb==b||ra==b&&rb==a))/\Below w.heap.size w w':=by
 cases h1:ra==a<;>cases h2:rb==b<;>cases h3:ra==b<;>cases h4:rb==a
 all_goals
  go_enter Tryz.func323,Tryz.ntmps323
  go_wp2
  go_ret
  exact⟨by simp,(Below.refl _ _).alloc (Nat.le_refl _) _⟩
set_option maxHeartbeats 400000 in
theorem Ec(x:dJ)(a b:Int)(ga gb:Nat)(w:World)(ha:w.cell? ⟨ga,0,none⟩=some (.int .i64 a))(hb:w.cell? ⟨gb,0,none⟩=some (.int .i64 b)):
  Calls Tryz.prog 322 #[Ti x,.pointer (some ⟨ga,0,none⟩),.pointer (some ⟨gb,0,none⟩)] w λe w'=>e= .returned (.bool (CP x a b))/\Below w.heap.size w w':=by
 unfold Ti
 have hga:ga<w.heap.size:=World.block_lt_of_cell? w _ ha
 have hgb:gb<w.heap.size:=World.block_lt_of_cell? w _ hb
 go_enter Tryz.func322,Tryz.ntmps322
 go_wp2_with fail
 refine(Ex _ _ _ _ _ _ _).mono ?_
 rintro e w' ⟨rfl,hb'⟩
 go_wp2
 go_ret
 exact⟨rfl,bA ((Below.refl _ _).alloc (Nat.le_refl _) _) hb'⟩
def cZ(xs:List fG)(k:Nat):fG:=sF xs (k:Int)
def bE(xs:List dJ)(k:Nat):dJ:=iX xs (k:Int)
def bY(xs:List Int)(k:Nat):Int:=rd xs (k:Int)
def mV(x:fG):Value:= .agg #[.int .i64 x.f0,.int .i64 x.f1]
def jH(g:Nat)(first cap:Array Value)(p:fG->Bool)(w:World):Prop:=
 ∀(W:World) (x:fG),Below w.heap.size w W->Calls Tryz.prog g (first.push (mV x)++cap) W λe w'=>e= .returned (.bool (p x))/\Below W.heap.size W w'
theorem jH.later{g:Nat}{first cap:Array Value}{p:fG->Bool}{w W:World}(h:jH g first cap p w)(hb:Below w.heap.size w W):jH g first cap p W:=
 λW' x hb'=>h W' x (hb.trans (hb'.mono hb.size))
set_option maxHeartbeats 1000000 in
theorem Ez(g:Nat)(cap:Array Value)(hg:∀args w,(callFunc g args).run Tryz.prog w= .ok (.enter g args) w)(p:fG->Bool)(A:Option Addr)(c:Nat)(xs:List fG)(w:World)
  (hr:Kd.C AY w A xs.length xs) (hlen:xs.length<=9223372036854775807) (hp:jH g #[] cap p w):
  Calls Tryz.prog 320 #[.slice A xs.length c,.func (.func g) #[] cap] w λe w'=>e= .returned (.int .i64 (fi p xs 0))/\Below w.heap.size w w':=by
 have HR:=aa.mk hr
 have HP:=aa.mk hp
 clear hr hp
 go_enter Tryz.func320,Tryz.ntmps320
 go_wp2
 go_loopw [8] (λv wr=>∃k:Nat,k<=xs.length/\v= .int .i64 k/\aa (Below w.heap.size w wr)/\aa (fi p xs 0=fi p (xs.drop k) k)) (λv _=>xs.length-(intOf v).toNat)
 case atStart=>exact⟨0,Nat.zero_le _,rfl,⟨Below.refl _ _⟩,⟨rfl⟩⟩
 case round=>
  obtain⟨k,hk,rfl,HB,HF⟩:=hrel
  by_cases hlt:k<xs.length
  .obtain⟨ad,e,h0,h1⟩:=Jp HR.out k (by omega) (by omega)
   cases e
   have hb:=HB.out
   replace h0:=(hb.cell (World.block_lt_of_cell? w _ h0)).trans h0
   replace h1:=(hb.cell (World.block_lt_of_cell? w _ h1)).trans h1
   simp only[Int.toNat_natCast] at h0 h1
   clear hb HR
   go_wp2_with fail
   have hc:=HP.out wr (cZ xs k) HB.out
   simp only[mV,cZ,List.push_toArray,List.nil_append] at hc
   have hfs:=aa.mk (jX p xs k Mr hlt)
   rw[show xs.getD k Mr=cZ xs k from by simp[cZ,sF,Int.toNat_natCast]] at hfs
   have HX:aa (∃y,y=cZ xs k):=⟨⟨_,rfl⟩⟩
   refine(hc).mono ?_
   rintro e w' ⟨rfl,hb'⟩
   have qV:=aa.mk (bA HB.out hb')
   clear hb' h0 h1 hc HB
   cases hpx:p (cZ xs k)
   .simp only[cZ] at hpx
    have jV:=aa.mk hpx
    clear hpx
    simp only[jV.out]
    go_wp2
    go_roundw
    case rel=>exact⟨k+1,by omega,by go_num,qV,⟨by rw[HF.out,hfs.out,if_neg (by simp[cZ,jV.out])]⟩⟩
    case measure=>simp[intOf];omega
   .simp only[cZ] at hpx
    have jV:=aa.mk hpx
    clear hpx
    simp only[jV.out]
    go_wp2
    go_ret
    exact⟨dL (by rw[HF.out,hfs.out,if_pos (by simp[cZ,jV.out])]),qV.out⟩
  .have hk':k=xs.length:=by omega
   subst hk'
   go_wp2
   go_ret
   exact⟨dL (by rw[HF.out,List.drop_length];rfl),HB.out⟩
def Fe(x:dJ):Value:= .agg #[.int .i64 x.f0,.int .i64 x.f1,.int .i64 x.f2.f0,.int .i64 x.f2.f1]
def sV(g:Nat)(first cap:Array Value)(p:dJ->Bool)(w:World):Prop:=
 ∀(W:World) (x:dJ),Below w.heap.size w W->Calls Tryz.prog g (first.push (Fe x)++cap) W λe w'=>e= .returned (.bool (p x))/\Below W.heap.size W w'
theorem sV.later{g:Nat}{first cap:Array Value}{p:dJ->Bool}{w W:World}(h:sV g first cap p w)(hb:Below w.heap.size w W):sV g first cap p W:=
 λW' x hb'=>h W' x (hb.trans (hb'.mono hb.size))
set_option maxHeartbeats 1000000 in
theorem GU(g:Nat)(cap:Array Value)(hg:∀args w,(callFunc g args).run Tryz.prog w= .ok (.enter g args) w)(p:dJ->Bool)(A:Option Addr)(c:Nat)(xs:List dJ)(w:World)
  (hr:Kd.C GM w A xs.length xs) (hlen:xs.length<=9223372036854775807) (hp:sV g #[] cap p w):
  Calls Tryz.prog 321 #[.slice A xs.length c,.func (.func g) #[] cap] w λe w'=>e= .returned (.int .i64 (fi p xs 0))/\Below w.heap.size w w':=by
 have HR:=aa.mk hr
 have HP:=aa.mk hp
 clear hr hp
 go_enter Tryz.func321,Tryz.ntmps321
 go_wp2
 go_loopw [8] (λv wr=>∃k:Nat,k<=xs.length/\v= .int .i64 k/\aa (Below w.heap.size w wr)/\aa (fi p xs 0=fi p (xs.drop k) k)) (λv _=>xs.length-(intOf v).toNat)
 case atStart=>exact⟨0,Nat.zero_le _,rfl,⟨Below.refl _ _⟩,⟨rfl⟩⟩
 case round=>
  obtain⟨k,hk,rfl,HB,HF⟩:=hrel
  by_cases hlt:k<xs.length
  .obtain⟨ad,e,h0,h1,h2,h3⟩:=yI HR.out k (by omega) (by omega)
   cases e
   have hb:=HB.out
   replace h0:=(hb.cell (World.block_lt_of_cell? w _ h0)).trans h0
   replace h1:=(hb.cell (World.block_lt_of_cell? w _ h1)).trans h1
   replace h2:=(hb.cell (World.block_lt_of_cell? w _ h2)).trans h2
   replace h3:=(hb.cell (World.block_lt_of_cell? w _ h3)).trans h3
   simp only[Int.toNat_natCast] at h0 h1 h2 h3
   clear hb HR
   go_wp2_with fail
   have hc:=HP.out wr (bE xs k) HB.out
   simp only[Fe,bE,List.push_toArray,List.nil_append] at hc
   have hfs:=aa.mk (jX p xs k Qb hlt)
   rw[show xs.getD k Qb=bE xs k from by simp[bE,iX,Int.toNat_natCast]] at hfs
   have HX:aa (∃y,y=bE xs k):=⟨⟨_,rfl⟩⟩
   refine(hc).mono ?_
   rintro e w' ⟨rfl,hb'⟩
   have qV:=aa.mk (bA HB.out hb')
   clear hb' h0 h1 h2 h3 hc HB
   cases hpx:p (bE xs k)
   .simp only[bE] at hpx
    have jV:=aa.mk hpx
    clear hpx
    simp only[jV.out]
    go_wp2
    go_roundw
    case rel=>exact⟨k+1,by omega,by go_num,qV,⟨by rw[HF.out,hfs.out,if_neg (by simp[bE,jV.out])]⟩⟩
    case measure=>simp[intOf];omega
   .simp only[bE] at hpx
    have jV:=aa.mk hpx
    clear hpx
    simp only[jV.out]
    go_wp2
    go_ret
    exact⟨dL (by rw[HF.out,hfs.out,if_pos (by simp[bE,jV.out])]),qV.out⟩
  .have hk':k=xs.length:=by omega
   subst hk'
   go_wp2
   go_ret
   exact⟨dL (by rw[HF.out,List.drop_length];rfl),HB.out⟩
def ji(x:Int):Value:= .int .i64 x
def fP(g:Nat)(first cap:Array Value)(p:Int->Bool)(w:World):Prop:=
 ∀(W:World) (x:Int),Below w.heap.size w W->Calls Tryz.prog g (first.push (ji x)++cap) W λe w'=>e= .returned (.bool (p x))/\Below W.heap.size W w'
theorem fP.later{g:Nat}{first cap:Array Value}{p:Int->Bool}{w W:World}(h:fP g first cap p w)(hb:Below w.heap.size w W):fP g first cap p W:=
 λW' x hb'=>h W' x (hb.trans (hb'.mono hb.size))
set_option maxHeartbeats 1000000 in
theorem xe(g:Nat)(cap:Array Value)(hg:∀args w,(callFunc g args).run Tryz.prog w= .ok (.enter g args) w)(p:Int->Bool)(A:Option Addr)(c:Nat)(xs:List Int)(w:World)
  (hr:Kd.C (Kd.int .i64) w A xs.length xs) (hlen:xs.length<=9223372036854775807) (hp:fP g #[] cap p w):
  Calls Tryz.prog 270 #[.slice A xs.length c,.func (.func g) #[] cap] w λe w'=>e= .returned (.int .i64 (fi p xs 0))/\Below w.heap.size w w':=by
 have HR:=aa.mk hr
 have HP:=aa.mk hp
 clear hr hp
 go_enter Tryz.func270,Tryz.ntmps270
 go_wp2
 go_loopw [8] (λv wr=>∃k:Nat,k<=xs.length/\v= .int .i64 k/\aa (Below w.heap.size w wr)/\aa (fi p xs 0=fi p (xs.drop k) k)) (λv _=>xs.length-(intOf v).toNat)
 case atStart=>exact⟨0,Nat.zero_le _,rfl,⟨Below.refl _ _⟩,⟨rfl⟩⟩
 case round=>
  obtain⟨k,hk,rfl,HB,HF⟩:=hrel
  by_cases hlt:k<xs.length
  .obtain⟨ad,e,h0⟩:=Kd.gu HR.out k (by omega) (by omega)
   cases e
   have hb:=HB.out
   replace h0:=(hb.cell (World.block_lt_of_cell? w _ h0)).trans h0
   simp only[Int.toNat_natCast] at h0
   clear hb HR
   go_wp2_with fail
   have hc:=HP.out wr (bY xs k) HB.out
   simp only[ji,bY,List.push_toArray,List.nil_append] at hc
   have hfs:=aa.mk (jX p xs k 0 hlt)
   rw[show xs.getD k 0=bY xs k from by simp[bY,rd,Int.toNat_natCast]] at hfs
   have HX:aa (∃y,y=bY xs k):=⟨⟨_,rfl⟩⟩
   refine(hc).mono ?_
   rintro e w' ⟨rfl,hb'⟩
   have qV:=aa.mk (bA HB.out hb')
   clear hb' h0 hc HB
   cases hpx:p (bY xs k)
   .simp only[bY] at hpx
    have jV:=aa.mk hpx
    clear hpx
    simp only[jV.out]
    go_wp2
    go_roundw
    case rel=>exact⟨k+1,by omega,by go_num,qV,⟨by rw[HF.out,hfs.out,if_neg (by simp[bY,jV.out])]⟩⟩
    case measure=>simp[intOf];omega
   .simp only[bY] at hpx
    have jV:=aa.mk hpx
    clear hpx
    simp only[jV.out]
    go_wp2
    go_ret
    exact⟨dL (by rw[HF.out,hfs.out,if_pos (by simp[bY,jV.out])]),qV.out⟩
  .have hk':k=xs.length:=by omega
   subst hk'
   go_wp2
   go_ret
   exact⟨dL (by rw[HF.out,List.drop_length];rfl),HB.out⟩
theorem zK(g:Nat)(cap:Array Value)(hg:∀args w,(callFunc g args).run Tryz.prog w= .ok (.enter g args) w)(p:fG->Bool)(A:Option Addr)(c:Nat)(xs:List fG)(w:World)
  (hr:Kd.C AY w A xs.length xs) (hlen:xs.length<=9223372036854775807) (hp:jH g #[] cap p w):
  Calls Tryz.prog 266 #[.slice A xs.length c,.func (.func g) #[] cap] w λe w'=>e= .returned (.bool (xs.any p))/\Below w.heap.size w w':=by
 go_enter Tryz.func266,Tryz.ntmps266
 go_wp2_with fail
 refine(Ez g cap hg p A c xs w hr hlen hp).mono ?_
 rintro e w' ⟨rfl,hb⟩
 obtain⟨j,hj⟩:∃j,fi p xs 0=j:=⟨_,rfl⟩
 have hn:=aa.mk (iQ p xs 0)
 rw[hj] at hn ⊢
 clear hj
 go_wp2
 go_ret
 exact⟨bB (by rw[<- hn.out]),hb⟩
theorem mK(g:Nat)(cap:Array Value)(hg:∀args w,(callFunc g args).run Tryz.prog w= .ok (.enter g args) w)(p:Int->Bool)(A:Option Addr)(c:Nat)(xs:List Int)(w:World)
  (hr:Kd.C (Kd.int .i64) w A xs.length xs) (hlen:xs.length<=9223372036854775807) (hp:fP g #[] cap p w):
  Calls Tryz.prog 211 #[.slice A xs.length c,.func (.func g) #[] cap] w λe w'=>e= .returned (.bool (xs.any p))/\Below w.heap.size w w':=by
 go_enter Tryz.func211,Tryz.ntmps211
 go_wp2_with fail
 refine(xe g cap hg p A c xs w hr hlen hp).mono ?_
 rintro e w' ⟨rfl,hb⟩
 obtain⟨j,hj⟩:∃j,fi p xs 0=j:=⟨_,rfl⟩
 have hn:=aa.mk (iQ p xs 0)
 rw[hj] at hn ⊢
 clear hj
 go_wp2
 go_ret
 exact⟨bB (by rw[<- hn.out]),hb⟩
theorem Ia(g:Nat)(first cap:Array Value)(hg:∀args w,(callFunc g args).run Tryz.prog w= .ok (.enter g args) w)(p:fG->Bool)(x:fG)(gp:Nat)(w:World)
  (hc:w.cell? ⟨gp,0,none⟩=some (.func (.func g) first cap)) (hp:jH g first cap p w):
  Calls Tryz.prog 267 ((#[]:Array Value).push (mV x)++#[.pointer (some ⟨gp,0,none⟩)]) w λe w'=>e= .returned (.bool (!p x))/\Below w.heap.size w w':=by
 simp only[Array.empty_append,List.push_toArray,List.append_toArray,List.nil_append,List.cons_append,mV]
 have PW:gp<w.heap.size:=World.block_lt_of_cell? w _ hc
 have HP:=aa.mk hp
 clear hp
 go_enter Tryz.func267,Tryz.ntmps267
 go_wp2_with fail
 have hc:=HP.out _ x ((Below.refl w.heap.size w).alloc (Nat.le_refl _) (.cells #[.int .i64 x.f0,.int .i64 x.f1] 151))
 simp only[mV] at hc
 refine hc.mono ?_
 rintro e w' ⟨rfl,hb⟩
 obtain⟨b,hb1⟩:∃b,p x=b:=⟨_,rfl⟩
 rw[hb1]
 go_wp2
 go_ret
 exact⟨bB (by rw[hb1]),bA ((Below.refl w.heap.size w).alloc (Nat.le_refl _) (.cells #[.int .i64 x.f0,.int .i64 x.f1] 151)) hb⟩
theorem Lt(g:Nat)(first cap:Array Value)(hg:∀args w,(callFunc g args).run Tryz.prog w= .ok (.enter g args) w)(p:fG->Bool)(A:Option Addr)(c:Nat)(xs:List fG)(w:World)
  (hr:Kd.C AY w A xs.length xs) (hlen:xs.length<=9223372036854775807) (hp:jH g first cap p w):
  Calls Tryz.prog 207 #[.slice A xs.length c,.func (.func g) first cap] w λe w'=>e= .returned (.bool (xs.all p))/\Below w.heap.size w w':=by
 go_enter Tryz.func207,Tryz.ntmps207
 have HR:=aa.mk hr
 have HP:=aa.mk hp
 clear hr hp
 go_wp2_with fail
 have hB:Below w.heap.size w (w.alloc (.cells #[.func (.func g) first cap] 337)):=(Below.refl _ _).alloc (Nat.le_refl _) _
 refine(zK 267 #[.pointer (some ⟨w.heap.size,0,none⟩)] (enters Tryz.func267 (by kernel_rfl) rfl) (λx=>!p x) A c xs _ (Kd.aC HR.out hB) hlen ?_).mono ?_
 .intro W x hW
  refine Ia g first cap hg p x w.heap.size W ?_ (HP.out.later (hB.trans (hW.mono hB.size)))
  rw[hW.cell (p:=⟨w.heap.size,0,none⟩) (by simp)]
  simp
 rintro e w' ⟨rfl,hb⟩
 have hn:=aa.mk (List.any_eq_not_all_not (l:=xs) (p:=λx=>!p x))
 obtain⟨j,hj⟩:∃j,(xs.any λx=>!p x)=j:=⟨_,rfl⟩
 rw[hj] at hn ⊢
 clear hj
 go_wp2
 go_ret
 exact⟨bB (by rw[hn.out];simp),bA hB hb⟩
theorem zR(g:Nat)(first cap:Array Value)(hg:∀args w,(callFunc g args).run Tryz.prog w= .ok (.enter g args) w)(p:Int->Bool)(x:Int)(gp:Nat)(w:World)
  (hc:w.cell? ⟨gp,0,none⟩=some (.func (.func g) first cap)) (hp:fP g first cap p w):
  Calls Tryz.prog 212 ((#[]:Array Value).push (ji x)++#[.pointer (some ⟨gp,0,none⟩)]) w λe w'=>e= .returned (.bool (!p x))/\Below w.heap.size w w':=by
 simp only[Array.empty_append,List.push_toArray,List.append_toArray,List.nil_append,List.cons_append,ji]
 have PW:gp<w.heap.size:=World.block_lt_of_cell? w _ hc
 have HP:=aa.mk hp
 clear hp
 go_enter Tryz.func212,Tryz.ntmps212
 go_wp2_with fail
 have hc:=HP.out _ x (Below.refl _ _)
 simp only[ji] at hc
 refine hc.mono ?_
 rintro e w' ⟨rfl,hb⟩
 obtain⟨b,hb1⟩:∃b,p x=b:=⟨_,rfl⟩
 rw[hb1]
 go_wp2
 go_ret
 exact⟨bB (by rw[hb1]),bA (Below.refl _ _) hb⟩
theorem Dy(g:Nat)(first cap:Array Value)(hg:∀args w,(callFunc g args).run Tryz.prog w= .ok (.enter g args) w)(p:Int->Bool)(A:Option Addr)(c:Nat)(xs:List Int)(w:World)
  (hr:Kd.C (Kd.int .i64) w A xs.length xs) (hlen:xs.length<=9223372036854775807) (hp:fP g first cap p w):
  Calls Tryz.prog 137 #[.slice A xs.length c,.func (.func g) first cap] w λe w'=>e= .returned (.bool (xs.all p))/\Below w.heap.size w w':=by
 go_enter Tryz.func137,Tryz.ntmps137
 have HR:=aa.mk hr
 have HP:=aa.mk hp
 clear hr hp
 go_wp2_with fail
 have hB:Below w.heap.size w (w.alloc (.cells #[.func (.func g) first cap] 192)):=(Below.refl _ _).alloc (Nat.le_refl _) _
 refine(mK 212 #[.pointer (some ⟨w.heap.size,0,none⟩)] (enters Tryz.func212 (by kernel_rfl) rfl) (λx=>!p x) A c xs _ (Kd.aC HR.out hB) hlen ?_).mono ?_
 .intro W x hW
  refine zR g first cap hg p x w.heap.size W ?_ (HP.out.later (hB.trans (hW.mono hB.size)))
  rw[hW.cell (p:=⟨w.heap.size,0,none⟩) (by simp)]
  simp
 rintro e w' ⟨rfl,hb⟩
 have hn:=aa.mk (List.any_eq_not_all_not (l:=xs) (p:=λx=>!p x))
 obtain⟨j,hj⟩:∃j,(xs.any λx=>!p x)=j:=⟨_,rfl⟩
 rw[hj] at hn ⊢
 clear hj
 go_wp2
 go_ret
 exact⟨bB (by rw[hn.out];simp),bA hB hb⟩
structure IsMap(w:World)(A0:Option Addr)(c0:Nat)(W:List fG)(A1:Option Addr)(c1:Nat)(R:List dJ):Prop where
 work:Kd.C AY w A0 W.length W
 lw:W.length<=c0
 roads:Kd.C GM w A1 R.length R
 lr:R.length<=c1
 bw:W.length<=281474976710656
 br:R.length<=281474976710656
theorem IsMap.below{w w1:World}{A0:Option Addr}{c0:Nat}{W:List fG}{A1:Option Addr}{c1:Nat}{R:List dJ}(h:IsMap w A0 c0 W A1 c1 R)(hb:Below w.heap.size w w1):IsMap w1 A0 c0 W A1 c1 R:=
 ⟨Kd.aC h.work hb,h.lw,Kd.aC h.roads hb,h.lr,h.bw,h.br⟩
def BB(R:List dJ)(a b:Int):Int:=fi (λr=>CP r a b) R 0
set_option maxHeartbeats 800000 in
theorem Gg{A0:Option Addr}{c0:Nat}{W:List fG}{A1:Option Addr}{c1:Nat}{R:List dJ}(a b:Int){w:World}(h:IsMap w A0 c0 W A1 c1 R):
  Calls Tryz.prog 269 #[.agg #[.slice A0 W.length c0,.slice A1 R.length c1],.int .i64 a,.int .i64 b] w λe w'=>e= .returned (.int .i64 (BB R a b))/\Below w.heap.size w w':=by
 have H:=aa.mk h
 clear h
 go_enter Tryz.func269,Tryz.ntmps269
 go_wp2_with fail
 have hB:Below w.heap.size w (((w.alloc (.cells #[.slice A0 W.length c0,.slice A1 R.length c1] 155)).alloc (.cells #[.int .i64 a] 3)).alloc (.cells #[.int .i64 b] 3)):=ae (ae (ae (Below.refl _ _) _) _) _
 refine(GU 322 _ (enters Tryz.func322 (by kernel_rfl) rfl) (λr=>CP r a b) A1 c1 R _ (H.out.below hB).roads (by have:=H.out.br;omega) ?_).mono ?_
 .intro W' x hW
  have:=Ec x a b (w.heap.size+1) (w.heap.size+2) W' (by rw[hW.cell (p:=⟨w.heap.size+1,0,none⟩) (by simp)];simp[go_sem]) (by rw[hW.cell (p:=⟨w.heap.size+2,0,none⟩) (by simp)];simp[go_sem])
  exact this
 rintro e w' ⟨rfl,hb⟩
 have hres:fi (λr=>CP r a b) R 0=BB R a b:=rfl
 rw[hres]
 clear hres
 obtain⟨j,hj⟩:∃j,BB R a b=j:=⟨_,rfl⟩
 rw[hj]
 have HJ:=aa.mk hj
 clear hj
 go_wp2
 go_ret
 exact⟨dL HJ.out.symm,bA hB hb⟩
def j3(n:Nat)(x:Int):Bool:=aX x 0 ((n:Int)-1)
theorem qZ{A0:Option Addr}{c0:Nat}{W:List fG}{A1:Option Addr}{c1:Nat}{R:List dJ}(a:Int){w:World}(h:IsMap w A0 c0 W A1 c1 R):
  Calls Tryz.prog 135 #[.agg #[.slice A0 W.length c0,.slice A1 R.length c1],.int .i64 a] w λe w'=>e= .returned (.bool (j3 W.length a))/\Below w.heap.size w w':=by
 refine kE.calls A0 c0 W A1 c1 R a (j3 W.length a) w h.work h.lw h.roads h.lr ?_
 have hb:=h.bw
 have e:wrap64 ((W.length:Int)-1)=(W.length:Int)-1:=by unfold wrap64;omega
 unfold kE.f iy.f j3 aX
 rw[e]
 by_cases h:0<=a<;>simp[h]
def q9(W:List fG)(R:List dJ)(k:Nat):Bool:=
 j3 W.length (bE R k).f0&&(j3 W.length (bE R k).f1&&(!((bE R k).f0==(bE R k).f1)&&(iC (bE R k).f2.f0 (bE R k).f2.f1 1 50&&(BB R (bE R k).f0 (bE R k).f1==(k:Int)))))
def qg(W:List fG)(R:List dJ):Bool:=(List.range R.length).all (q9 W R)
theorem kG{W:List fG}{R:List dJ}(k:Nat)(hk:k<R.length)(h:q9 W R k=false):qg W R=false:=by
 unfold qg
 rw[List.all_eq_false]
 exact⟨k,by simpa using hk,by simp[h]⟩
theorem Eb{W:List fG}{R:List dJ}(h:∀j,j<R.length->q9 W R j=true):qg W R=true:=by
 unfold qg
 rw[List.all_eq_true]
 intro x hx
 exact h x (by simpa using hx)
def aV(w:World)(g:Nat)(cs:List Value)(t:TypeId):Prop:=w.heap[g]?=some (.cells cs.toArray t (0,0))
theorem aV.below{w w1:World}{g:Nat}{cs:List Value}{t:TypeId}(h:aV w g cs t)(hb:Below w.heap.size w w1):aV w1 g cs t:=gT h hb
theorem aV.cell{w:World}{g:Nat}{cs:List Value}{t:TypeId}(h:aV w g cs t)(i:Nat):w.cell? ⟨g,i,none⟩=cs[i]?:=(av h i).trans (by simp)
theorem aV.frozen{w:World}{g:Nat}{cs:List Value}{t:TypeId}(h:aV w g cs t)(i:Nat):w.frozen? ⟨g,i,none⟩=false:=aA h i
theorem aV.lt{w:World}{g:Nat}{cs:List Value}{t:TypeId}(h:aV w g cs t):g<w.heap.size:=ig h
theorem aV.new(w:World)(cs:List Value)(t:TypeId):aV (w.alloc (.cells cs.toArray t)) w.heap.size cs t:=heap_alloc_new w _
theorem aV.alloc{w:World}{g:Nat}{cs:List Value}{t:TypeId}(h:aV w g cs t)(o:Obj):aV (w.alloc o) g cs t:=ay h o
set_option maxHeartbeats 4000000 in
theorem Ea{A0:Option Addr}{c0:Nat}{W:List fG}{A1:Option Addr}{c1:Nat}{R:List dJ}{w:World}(h:IsMap w A0 c0 W A1 c1 R):
  Calls Tryz.prog 209 #[.agg #[.slice A0 W.length c0,.slice A1 R.length c1]] w λe w'=>e= .returned (.bool (qg W R))/\Below w.heap.size w w':=by
 have H:=aa.mk h
 have hbr:=h.br
 have hbw:=h.bw
 clear h
 go_enter Tryz.func209,Tryz.ntmps209
 go_wp2_with fail
 go_loopw [11] (λv wr=>∃k:Nat,k<=R.length/\v= .int .i64 k/\aa (Below w.heap.size w wr)/\aa (aV wr w.heap.size [.slice A0 W.length c0,.slice A1 R.length c1] 155)/\aa (∀j,j<k->q9 W R j=true)) (λv _=>R.length-(intOf v).toNat)
 case atStart=>exact⟨0,Nat.zero_le _,rfl,⟨ae (Below.refl _ _) _⟩,⟨aV.new _ _ _⟩,⟨λj hj=>absurd hj (Nat.not_lt_zero _)⟩⟩
 case round=>
  obtain⟨k,hk,rfl,HB,BK,HF⟩:=hrel
  by_cases hlt:k<R.length
  .have HM:=aa.mk (H.out.below HB.out)
   obtain⟨ad,e,h0,h1,h2,h3⟩:=yI HM.out.roads k (by omega) (by omega)
   cases e
   simp only[Int.toNat_natCast] at h0 h1 h2 h3
   obtain⟨r,hr⟩:∃r,iX R (k:Int)=r:=⟨_,rfl⟩
   rw[hr] at h0 h1 h2 h3
   have HR:=aa.mk hr
   clear hr
   have HO:aa (q9 W R k=(j3 W.length r.f0&&(j3 W.length r.f1&&(!(r.f0==r.f1)&&(iC r.f2.f0 r.f2.f1 1 50&&(BB R r.f0 r.f1==(k:Int))))))):=⟨by unfold q9 bE;rw[HR.out]⟩
   have hbk:=BK.out.lt
   have hz0:=BK.out.cell 0
   have hz1:=BK.out.cell 1
   simp only[dZ,dY] at hz0 hz1
   go_wp2_with fail
   have HB0:=aa.mk (ae HB.out (.cells #[.int .i64 r.f0,.int .i64 r.f1,.int .i64 r.f2.f0,.int .i64 r.f2.f1] 386))
   have FY:=aa.mk (H.out.below HB0.out)
   have BK0:=aa.mk (BK.out.alloc (.cells #[.int .i64 r.f0,.int .i64 r.f1,.int .i64 r.f2.f0,.int .i64 r.f2.f1] 386))
   have BR0:=aa.mk (aV.new wr [.int .i64 r.f0,.int .i64 r.f1,.int .i64 r.f2.f0,.int .i64 r.f2.f1] 386)
   have hx0:=True.intro
   have hx1:=True.intro
   have hx2:=True.intro
   have hx3:=True.intro
   have hgr:=True.intro
   have hgm:=True.intro
   refine(qZ r.f0 FY.out).mono ?_
   rintro e w1 ⟨rfl,hb1⟩
   have HB1:=aa.mk (bA HB0.out hb1)
   have Iz:=aa.mk (FY.out.below hb1)
   have Sk:=aa.mk (BK0.out.below hb1)
   have WT:=aa.mk (BR0.out.below hb1)
   clear hb1 HB0 FY BK0 BR0 hz0 hz1 hx0 hx1 hx2 hx3 hgr hgm
   have hgm:=Sk.out.lt
   have hgr:=WT.out.lt
   have hz0:=Sk.out.cell 0
   have hz1:=Sk.out.cell 1
   have hx0:=WT.out.cell 0
   have hx1:=WT.out.cell 1
   have hx2:=WT.out.cell 2
   have hx3:=WT.out.cell 3
   simp only[dZ,dY] at hz0 hz1 hx0 hx1 hx2 hx3
   obtain⟨b1,b1e⟩:∃b,j3 W.length r.f0=b:=⟨_,rfl⟩
   rw[b1e]
   have Xk:=aa.mk b1e
   clear b1e
   cases b1
   .go_wp2
    go_ret
    exact⟨bB (kG k hlt (by rw[HO.out,Xk.out];simp)).symm,HB1.out⟩
   .go_wp2_with fail
    refine(qZ r.f1 Iz.out).mono ?_
    rintro e w2 ⟨rfl,hb2⟩
    have HB2:=aa.mk (bA HB1.out hb2)
    have FM:=aa.mk (Iz.out.below hb2)
    have BK2:=aa.mk (Sk.out.below hb2)
    have Ma:=aa.mk (WT.out.below hb2)
    clear hb2 HB1 Iz Sk WT hz0 hz1 hx0 hx1 hx2 hx3 hgr hgm
    have hgm:=BK2.out.lt
    have hgr:=Ma.out.lt
    have hz0:=BK2.out.cell 0
    have hz1:=BK2.out.cell 1
    have hx0:=Ma.out.cell 0
    have hx1:=Ma.out.cell 1
    have hx2:=Ma.out.cell 2
    have hx3:=Ma.out.cell 3
    simp only[dZ,dY] at hz0 hz1 hx0 hx1 hx2 hx3
    obtain⟨b2,b2e⟩:∃b,j3 W.length r.f1=b:=⟨_,rfl⟩
    rw[b2e]
    have ZO:=aa.mk b2e
    clear b2e
    cases b2
    .go_wp2
     go_ret
     exact⟨bB (kG k hlt (by rw[HO.out,Xk.out,ZO.out];simp)).symm,HB2.out⟩
    .cases b3e:(r.f0==r.f1)
     .have ZN:=aa.mk b3e
      go_wp2_with fail
      refine(qx _ _ _ _ _).mono ?_
      rintro e w3 ⟨rfl,hb3⟩
      have HB3:=aa.mk (bA HB2.out hb3)
      have HM3:=aa.mk (FM.out.below hb3)
      have BK3:=aa.mk (BK2.out.below hb3)
      have WS:=aa.mk (Ma.out.below hb3)
      clear hb3 HB2 FM BK2 Ma hz0 hz1 hx0 hx1 hx2 hx3 hgr hgm
      have hgm:=BK3.out.lt
      have hgr:=WS.out.lt
      have hz0:=BK3.out.cell 0
      have hz1:=BK3.out.cell 1
      have hx0:=WS.out.cell 0
      have hx1:=WS.out.cell 1
      have hx2:=WS.out.cell 2
      have hx3:=WS.out.cell 3
      simp only[dZ,dY] at hz0 hz1 hx0 hx1 hx2 hx3
      obtain⟨b4,b4e⟩:∃b,iC r.f2.f0 r.f2.f1 1 50=b:=⟨_,rfl⟩
      rw[b4e]
      have b4E:=aa.mk b4e
      clear b4e
      cases b4
      .go_wp2
       go_ret
       exact⟨bB (kG k hlt (by rw[HO.out,Xk.out,ZO.out,ZN.out,b4E.out];simp)).symm,HB3.out⟩
      .go_wp2_with fail
       refine(Gg r.f0 r.f1 HM3.out).mono ?_
       rintro e w4 ⟨rfl,hb4⟩
       have pY:=aa.mk (bA HB3.out hb4)
       have TI:=aa.mk (HM3.out.below hb4)
       have BK4:=aa.mk (BK3.out.below hb4)
       have BR4:=aa.mk (WS.out.below hb4)
       clear hb4 HB3 HM3 BK3 WS hz0 hz1 hx0 hx1 hx2 hx3 hgr hgm
       have hgm:=BK4.out.lt
       have hgr:=BR4.out.lt
       have hz0:=BK4.out.cell 0
       have hz1:=BK4.out.cell 1
       have hx0:=BR4.out.cell 0
       have hx1:=BR4.out.cell 1
       have hx2:=BR4.out.cell 2
       have hx3:=BR4.out.cell 3
       simp only[dZ,dY] at hz0 hz1 hx0 hx1 hx2 hx3
       obtain⟨j5,j5e⟩:∃j,BB R r.f0 r.f1=j:=⟨_,rfl⟩
       rw[j5e]
       have J5E:=aa.mk j5e
       clear j5e
       by_cases hj:j5=(k:Int)
       .have hjb:(j5 !=(k:Int))=false:=by rw[hj];simp
        have HJ:=aa.mk hj
        clear hj
        go_wp2
        go_roundw
        case rel=>exact⟨k+1,by omega,by go_num,pY,BK4,⟨λj hj'=>by
         rcases Nat.lt_succ_iff_lt_or_eq.1 hj' with h'|h'
         .exact HF.out j h'
         .subst h'
          rw[HO.out,Xk.out,ZO.out,ZN.out,b4E.out,J5E.out,HJ.out]
          simp⟩⟩
        case measure=>simp[intOf];omega
       .have hjb:(j5 !=(k:Int))=true:=by rw[bne_iff_ne];exact hj
        have HJ:=aa.mk hj
        clear hj
        go_wp2
        go_ret
        exact⟨bB (kG k hlt (by rw[HO.out,Xk.out,ZO.out,ZN.out,b4E.out,J5E.out];simp[HJ.out])).symm,pY.out⟩
     .have ZN:=aa.mk b3e
      go_wp2
      go_ret
      exact⟨bB (kG k hlt (by rw[HO.out,Xk.out,ZO.out,ZN.out];simp)).symm,HB2.out⟩
  .have hk':k=R.length:=by omega
   subst hk'
   go_wp2
   go_ret
   exact⟨bB (Eb HF.out).symm,HB.out⟩
def yQ(x:fG):Bool:=iC x.f0 x.f1 0 50
theorem JR(w:World):jH 208 #[] #[] yQ w:=by
 intro W x hW
 simp only[List.push_toArray,List.nil_append,Array.append_empty,mV]
 refine rX.calls x.f0 x.f1 (yQ x) W ?_
 unfold rX.f dW.f yQ iC
 by_cases h:0<=x.f0<;>by_cases h':x.f0<=x.f1<;>simp[h,h']
def iZ(W:List fG)(R:List dJ):Int:=
 if W.length<=8/\R.length<=20 then(if W.length=0 then 1 else if W.all yQ then(if qg W R then 0 else 1) else 1) else 3
set_option maxHeartbeats 4000000 in
theorem nP{A0:Option Addr}{c0:Nat}{W:List fG}{A1:Option Addr}{c1:Nat}{R:List dJ}{w:World}(h:IsMap w A0 c0 W A1 c1 R):
  Calls Tryz.prog 134 #[.agg #[.slice A0 W.length c0,.slice A1 R.length c1]] w λe w'=>e= .returned (.int .i64 (iZ W R))/\Below w.heap.size w w':=by
 have H:=aa.mk h
 have hbr:=h.br
 have hbw:=h.bw
 clear h
 have HB0:=aa.mk (ae (Below.refl w.heap.size w) (.cells #[.slice A0 W.length c0,.slice A1 R.length c1] 155))
 have FY:=aa.mk (H.out.below HB0.out)
 have BK0:=aa.mk (aV.new w [.slice A0 W.length c0,.slice A1 R.length c1] 155)
 by_cases h1:W.length<=8
 .by_cases h2:R.length<=20
  .by_cases h3:W.length=0
   .have hres:iZ W R=1:=by unfold iZ;rw[if_pos ⟨h1,h2⟩,if_pos h3]
    have DC:=aa.mk hres
    clear hres
    have h3b:((W.length:Int)==0)=true:=by simp[h3]
    have H3:=aa.mk h3
    clear h3
    go_enter Tryz.func134,Tryz.ntmps134
    go_wp2_with fail
    go_ret
    exact⟨dL DC.out.symm,HB0.out⟩
   .have h3b:((W.length:Int)==0)=false:=beq_eq_false_iff_ne.2 (by omega)
    obtain⟨b,hb⟩:∃b,W.all yQ=b:=⟨_,rfl⟩
    have HWB:=aa.mk hb
    clear hb
    go_enter Tryz.func134,Tryz.ntmps134
    go_wp2_with fail
    refine(Lt 208 #[] #[] (enters Tryz.func208 (by kernel_rfl) rfl) yQ A0 c0 W _ FY.out.work (by omega) (JR _)).mono ?_
    rintro e w1 ⟨rfl,hb1⟩
    have HB1:=aa.mk (bA HB0.out hb1)
    have Iz:=aa.mk (FY.out.below hb1)
    have Sk:=aa.mk (BK0.out.below hb1)
    clear hb1
    have hgm:=Sk.out.lt
    have hz0:=Sk.out.cell 0
    have hz1:=Sk.out.cell 1
    simp only[dZ,dY] at hz0 hz1
    rw[HWB.out]
    cases b
    .have hres:iZ W R=1:=by unfold iZ;rw[if_pos ⟨h1,h2⟩,if_neg h3,HWB.out];rfl
     have DC:=aa.mk hres
     clear hres h3
     go_wp2_with fail
     go_ret
     exact⟨dL DC.out.symm,HB1.out⟩
    .go_wp2_with fail
     refine(Ea Iz.out).mono ?_
     rintro e w2 ⟨rfl,hb2⟩
     have HB2:=aa.mk (bA HB1.out hb2)
     clear hb2 hz0 hz1 hgm
     obtain⟨b2,hb2⟩:∃b,qg W R=b:=⟨_,rfl⟩
     have HRB:=aa.mk hb2
     clear hb2
     rw[HRB.out]
     have hres:iZ W R=if b2 then 0 else 1:=by unfold iZ;rw[if_pos ⟨h1,h2⟩,if_neg h3,HWB.out,HRB.out];rfl
     have DC:=aa.mk hres
     clear hres h3
     cases b2
     all_goals
      go_wp2_with fail
      go_ret
      exact⟨dL (by rw[DC.out];rfl),HB2.out⟩
  .have hres:iZ W R=3:=by unfold iZ;rw[if_neg (λh=>h2 h.2)]
   have DC:=aa.mk hres
   clear hres
   have h2':20<R.length:=by omega
   clear h2
   go_enter Tryz.func134,Tryz.ntmps134
   go_wp2_with fail
   go_ret
   exact⟨dL DC.out.symm,HB0.out⟩
 .have hres:iZ W R=3:=by unfold iZ;rw[if_neg (λh=>h1 h.1)]
  have DC:=aa.mk hres
  clear hres
  have h1':8<W.length:=by omega
  clear h1
  go_enter Tryz.func134,Tryz.ntmps134
  go_wp2_with fail
  go_ret
  exact⟨dL DC.out.symm,HB0.out⟩
end Go.Proofs.YtdekaocdmjndaaaGreat.Wk
