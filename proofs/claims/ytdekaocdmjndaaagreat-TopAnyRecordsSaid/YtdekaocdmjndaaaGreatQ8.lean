import Derived.Test.YtdekaocdmjndaaaGreatQ7
set_option linter.all false
namespace Go.Proofs.YtdekaocdmjndaaaGreat
open Go.RowKit Go.Shelf ah YtdekaocdmjndaaaGreatW.aj YtdekaocdmjndaaaGreatW.aH
def gL(xs:List iK)(k:Nat):iK:=qj xs (k:Int)
def pK(x:iK):Value:= .agg #[.int .i64 x.f0,.int .i64 x.f1,.int .i64 x.f2,.int .i64 x.f3]
def ku(g:Nat)(first cap:Array Value)(p:iK->Bool)(w:World):Prop:=
 ∀(W:World) (x:iK),Below w.heap.size w W->Calls Tryz.prog g (first.push (pK x)++cap) W λe w'=>e= .returned (.bool (p x))/\Below W.heap.size W w'
theorem ku.later{g:Nat}{first cap:Array Value}{p:iK->Bool}{w W:World}(h:ku g first cap p w)(hb:Below w.heap.size w W):ku g first cap p W:=
 λW' x hb'=>h W' x (hb.trans (hb'.mono hb.size))
set_option maxHeartbeats 1000000 in
theorem GR(g:Nat)(cap:Array Value)(hg:∀args w,(callFunc g args).run Tryz.prog w= .ok (.enter g args) w)(p:iK->Bool)(A:Option Addr)(c:Nat)(xs:List iK)(w:World)
  (hr:Kd.C wY w A xs.length xs) (hlen:xs.length<=9223372036854775807) (hp:ku g #[] cap p w):
  Calls Tryz.prog 229 #[.slice A xs.length c,.func (.func g) #[] cap] w λe w'=>e= .returned (.int .i64 (fi p xs 0))/\Below w.heap.size w w':=by
 have HR:=aa.mk hr
 have HP:=aa.mk hp
 clear hr hp
 go_enter Tryz.func229,Tryz.ntmps229
 go_wp2
 go_loopw [8] (λv wr=>∃k:Nat,k<=xs.length/\v= .int .i64 k/\aa (Below w.heap.size w wr)/\aa (fi p xs 0=fi p (xs.drop k) k)) (λv _=>xs.length-(intOf v).toNat)
 case atStart=>exact⟨0,Nat.zero_le _,rfl,⟨Below.refl _ _⟩,⟨rfl⟩⟩
 case round=>
  obtain⟨k,hk,rfl,HB,HF⟩:=hrel
  by_cases hlt:k<xs.length
  .obtain⟨ad,e,h0,h1,h2,h3⟩:=Jn HR.out k (by omega) (by omega)
   cases e
   have hb:=HB.out
   replace h0:=(hb.cell (World.block_lt_of_cell? w _ h0)).trans h0
   replace h1:=(hb.cell (World.block_lt_of_cell? w _ h1)).trans h1
   replace h2:=(hb.cell (World.block_lt_of_cell? w _ h2)).trans h2
   replace h3:=(hb.cell (World.block_lt_of_cell? w _ h3)).trans h3
   simp only[Int.toNat_natCast] at h0 h1 h2 h3
   clear hb HR
   go_wp2_with fail
   have hc:=HP.out wr (gL xs k) HB.out
   simp only[pK,gL,List.push_toArray,List.nil_append] at hc
   have hfs:=aa.mk (jX p xs k Qf hlt)
   rw[show xs.getD k Qf=gL xs k from by simp[gL,qj,Int.toNat_natCast]] at hfs
   have HX:aa (∃y,y=gL xs k):=⟨⟨_,rfl⟩⟩
   refine(hc).mono ?_
   rintro e w' ⟨rfl,hb'⟩
   have qV:=aa.mk (bA HB.out hb')
   clear hb' h0 h1 h2 h3 hc HB
   cases hpx:p (gL xs k)
   .simp only[gL] at hpx
    have jV:=aa.mk hpx
    clear hpx
    simp only[jV.out]
    go_wp2
    go_roundw
    case rel=>exact⟨k+1,by omega,by go_num,qV,⟨by rw[HF.out,hfs.out,if_neg (by simp[gL,jV.out])]⟩⟩
    case measure=>simp[intOf];omega
   .simp only[gL] at hpx
    have jV:=aa.mk hpx
    clear hpx
    simp only[jV.out]
    go_wp2
    go_ret
    exact⟨dL (by rw[HF.out,hfs.out,if_pos (by simp[gL,jV.out])]),qV.out⟩
  .have hk':k=xs.length:=by omega
   subst hk'
   go_wp2
   go_ret
   exact⟨dL (by rw[HF.out,List.drop_length];rfl),HB.out⟩
theorem Bi(g:Nat)(cap:Array Value)(hg:∀args w,(callFunc g args).run Tryz.prog w= .ok (.enter g args) w)(p:iK->Bool)(A:Option Addr)(c:Nat)(xs:List iK)(w:World)
  (hr:Kd.C wY w A xs.length xs) (hlen:xs.length<=9223372036854775807) (hp:ku g #[] cap p w):
  Calls Tryz.prog 164 #[.slice A xs.length c,.func (.func g) #[] cap] w λe w'=>e= .returned (.bool (xs.any p))/\Below w.heap.size w w':=by
 go_enter Tryz.func164,Tryz.ntmps164
 go_wp2_with fail
 refine(GR g cap hg p A c xs w hr hlen hp).mono ?_
 rintro e w' ⟨rfl,hb⟩
 obtain⟨j,hj⟩:∃j,fi p xs 0=j:=⟨_,rfl⟩
 have hn:=aa.mk (iQ p xs 0)
 rw[hj] at hn ⊢
 clear hj
 go_wp2
 go_ret
 exact⟨bB (by rw[<- hn.out]),hb⟩
theorem Lu(g:Nat)(first cap:Array Value)(hg:∀args w,(callFunc g args).run Tryz.prog w= .ok (.enter g args) w)(p:iK->Bool)(x:iK)(gp:Nat)(w:World)
  (hc:w.cell? ⟨gp,0,none⟩=some (.func (.func g) first cap)) (hp:ku g first cap p w):
  Calls Tryz.prog 165 ((#[]:Array Value).push (pK x)++#[.pointer (some ⟨gp,0,none⟩)]) w λe w'=>e= .returned (.bool (!p x))/\Below w.heap.size w w':=by
 simp only[Array.empty_append,List.push_toArray,List.append_toArray,List.nil_append,List.cons_append,pK]
 have PW:gp<w.heap.size:=World.block_lt_of_cell? w _ hc
 have HP:=aa.mk hp
 clear hp
 go_enter Tryz.func165,Tryz.ntmps165
 go_wp2_with fail
 have hc:=HP.out _ x ((Below.refl w.heap.size w).alloc (Nat.le_refl _) (.cells #[.int .i64 x.f0,.int .i64 x.f1,.int .i64 x.f2,.int .i64 x.f3] 188))
 simp only[pK] at hc
 refine hc.mono ?_
 rintro e w' ⟨rfl,hb⟩
 obtain⟨b,hb1⟩:∃b,p x=b:=⟨_,rfl⟩
 rw[hb1]
 go_wp2
 go_ret
 exact⟨bB (by rw[hb1]),bA ((Below.refl w.heap.size w).alloc (Nat.le_refl _) (.cells #[.int .i64 x.f0,.int .i64 x.f1,.int .i64 x.f2,.int .i64 x.f3] 188)) hb⟩
theorem OZ(g:Nat)(first cap:Array Value)(hg:∀args w,(callFunc g args).run Tryz.prog w= .ok (.enter g args) w)(p:iK->Bool)(A:Option Addr)(c:Nat)(xs:List iK)(w:World)
  (hr:Kd.C wY w A xs.length xs) (hlen:xs.length<=9223372036854775807) (hp:ku g first cap p w):
  Calls Tryz.prog 87 #[.slice A xs.length c,.func (.func g) first cap] w λe w'=>e= .returned (.bool (xs.all p))/\Below w.heap.size w w':=by
 go_enter Tryz.func87,Tryz.ntmps87
 have HR:=aa.mk hr
 have HP:=aa.mk hp
 clear hr hp
 go_wp2_with fail
 have hB:Below w.heap.size w (w.alloc (.cells #[.func (.func g) first cap] 206)):=(Below.refl _ _).alloc (Nat.le_refl _) _
 refine(Bi 165 #[.pointer (some ⟨w.heap.size,0,none⟩)] (enters Tryz.func165 (by kernel_rfl) rfl) (λx=>!p x) A c xs _ (Kd.aC HR.out hB) hlen ?_).mono ?_
 .intro W x hW
  refine Lu g first cap hg p x w.heap.size W ?_ (HP.out.later (hB.trans (hW.mono hB.size)))
  rw[hW.cell (p:=⟨w.heap.size,0,none⟩) (by simp)]
  simp
 rintro e w' ⟨rfl,hb⟩
 have hn:=aa.mk (List.any_eq_not_all_not (l:=xs) (p:=λx=>!p x))
 obtain⟨j,hj⟩:∃j,(xs.any λx=>!p x)=j:=⟨_,rfl⟩
 rw[hj] at hn ⊢
 clear hj
 go_wp2
 go_ret
 exact⟨bB (by rw[hn.out];simp),bA hB hb⟩
def eT(xs:List jh)(k:Nat):jh:=qi xs (k:Int)
def lH(x:jh):Value:= .agg #[.int .i64 x.f0,.int .i64 x.f1,.int .i64 x.f2]
def iV(g:Nat)(first cap:Array Value)(p:jh->Bool)(w:World):Prop:=
 ∀(W:World) (x:jh),Below w.heap.size w W->Calls Tryz.prog g (first.push (lH x)++cap) W λe w'=>e= .returned (.bool (p x))/\Below W.heap.size W w'
theorem iV.later{g:Nat}{first cap:Array Value}{p:jh->Bool}{w W:World}(h:iV g first cap p w)(hb:Below w.heap.size w W):iV g first cap p W:=
 λW' x hb'=>h W' x (hb.trans (hb'.mono hb.size))
set_option maxHeartbeats 1000000 in
theorem CS(g:Nat)(cap:Array Value)(hg:∀args w,(callFunc g args).run Tryz.prog w= .ok (.enter g args) w)(p:jh->Bool)(A:Option Addr)(c:Nat)(xs:List jh)(w:World)
  (hr:Kd.C yf w A xs.length xs) (hlen:xs.length<=9223372036854775807) (hp:iV g #[] cap p w):
  Calls Tryz.prog 230 #[.slice A xs.length c,.func (.func g) #[] cap] w λe w'=>e= .returned (.int .i64 (fi p xs 0))/\Below w.heap.size w w':=by
 have HR:=aa.mk hr
 have HP:=aa.mk hp
 clear hr hp
 go_enter Tryz.func230,Tryz.ntmps230
 go_wp2
 go_loopw [8] (λv wr=>∃k:Nat,k<=xs.length/\v= .int .i64 k/\aa (Below w.heap.size w wr)/\aa (fi p xs 0=fi p (xs.drop k) k)) (λv _=>xs.length-(intOf v).toNat)
 case atStart=>exact⟨0,Nat.zero_le _,rfl,⟨Below.refl _ _⟩,⟨rfl⟩⟩
 case round=>
  obtain⟨k,hk,rfl,HB,HF⟩:=hrel
  by_cases hlt:k<xs.length
  .obtain⟨ad,e,h0,h1,h2⟩:=Jm HR.out k (by omega) (by omega)
   cases e
   have hb:=HB.out
   replace h0:=(hb.cell (World.block_lt_of_cell? w _ h0)).trans h0
   replace h1:=(hb.cell (World.block_lt_of_cell? w _ h1)).trans h1
   replace h2:=(hb.cell (World.block_lt_of_cell? w _ h2)).trans h2
   simp only[Int.toNat_natCast] at h0 h1 h2
   clear hb HR
   go_wp2_with fail
   have hc:=HP.out wr (eT xs k) HB.out
   simp only[lH,eT,List.push_toArray,List.nil_append] at hc
   have hfs:=aa.mk (jX p xs k Qd hlt)
   rw[show xs.getD k Qd=eT xs k from by simp[eT,qi,Int.toNat_natCast]] at hfs
   have HX:aa (∃y,y=eT xs k):=⟨⟨_,rfl⟩⟩
   refine(hc).mono ?_
   rintro e w' ⟨rfl,hb'⟩
   have qV:=aa.mk (bA HB.out hb')
   clear hb' h0 h1 h2 hc HB
   cases hpx:p (eT xs k)
   .simp only[eT] at hpx
    have jV:=aa.mk hpx
    clear hpx
    simp only[jV.out]
    go_wp2
    go_roundw
    case rel=>exact⟨k+1,by omega,by go_num,qV,⟨by rw[HF.out,hfs.out,if_neg (by simp[eT,jV.out])]⟩⟩
    case measure=>simp[intOf];omega
   .simp only[eT] at hpx
    have jV:=aa.mk hpx
    clear hpx
    simp only[jV.out]
    go_wp2
    go_ret
    exact⟨dL (by rw[HF.out,hfs.out,if_pos (by simp[eT,jV.out])]),qV.out⟩
  .have hk':k=xs.length:=by omega
   subst hk'
   go_wp2
   go_ret
   exact⟨dL (by rw[HF.out,List.drop_length];rfl),HB.out⟩
theorem yn(g:Nat)(cap:Array Value)(hg:∀args w,(callFunc g args).run Tryz.prog w= .ok (.enter g args) w)(p:jh->Bool)(A:Option Addr)(c:Nat)(xs:List jh)(w:World)
  (hr:Kd.C yf w A xs.length xs) (hlen:xs.length<=9223372036854775807) (hp:iV g #[] cap p w):
  Calls Tryz.prog 166 #[.slice A xs.length c,.func (.func g) #[] cap] w λe w'=>e= .returned (.bool (xs.any p))/\Below w.heap.size w w':=by
 go_enter Tryz.func166,Tryz.ntmps166
 go_wp2_with fail
 refine(CS g cap hg p A c xs w hr hlen hp).mono ?_
 rintro e w' ⟨rfl,hb⟩
 obtain⟨j,hj⟩:∃j,fi p xs 0=j:=⟨_,rfl⟩
 have hn:=aa.mk (iQ p xs 0)
 rw[hj] at hn ⊢
 clear hj
 go_wp2
 go_ret
 exact⟨bB (by rw[<- hn.out]),hb⟩
theorem Fx(g:Nat)(first cap:Array Value)(hg:∀args w,(callFunc g args).run Tryz.prog w= .ok (.enter g args) w)(p:jh->Bool)(x:jh)(gp:Nat)(w:World)
  (hc:w.cell? ⟨gp,0,none⟩=some (.func (.func g) first cap)) (hp:iV g first cap p w):
  Calls Tryz.prog 167 ((#[]:Array Value).push (lH x)++#[.pointer (some ⟨gp,0,none⟩)]) w λe w'=>e= .returned (.bool (!p x))/\Below w.heap.size w w':=by
 simp only[Array.empty_append,List.push_toArray,List.append_toArray,List.nil_append,List.cons_append,lH]
 have PW:gp<w.heap.size:=World.block_lt_of_cell? w _ hc
 have HP:=aa.mk hp
 clear hp
 go_enter Tryz.func167,Tryz.ntmps167
 go_wp2_with fail
 have hc:=HP.out _ x ((Below.refl w.heap.size w).alloc (Nat.le_refl _) (.cells #[.int .i64 x.f0,.int .i64 x.f1,.int .i64 x.f2] 191))
 simp only[lH] at hc
 refine hc.mono ?_
 rintro e w' ⟨rfl,hb⟩
 obtain⟨b,hb1⟩:∃b,p x=b:=⟨_,rfl⟩
 rw[hb1]
 go_wp2
 go_ret
 exact⟨bB (by rw[hb1]),bA ((Below.refl w.heap.size w).alloc (Nat.le_refl _) (.cells #[.int .i64 x.f0,.int .i64 x.f1,.int .i64 x.f2] 191)) hb⟩
theorem H9(g:Nat)(first cap:Array Value)(hg:∀args w,(callFunc g args).run Tryz.prog w= .ok (.enter g args) w)(p:jh->Bool)(A:Option Addr)(c:Nat)(xs:List jh)(w:World)
  (hr:Kd.C yf w A xs.length xs) (hlen:xs.length<=9223372036854775807) (hp:iV g first cap p w):
  Calls Tryz.prog 89 #[.slice A xs.length c,.func (.func g) first cap] w λe w'=>e= .returned (.bool (xs.all p))/\Below w.heap.size w w':=by
 go_enter Tryz.func89,Tryz.ntmps89
 have HR:=aa.mk hr
 have HP:=aa.mk hp
 clear hr hp
 go_wp2_with fail
 have hB:Below w.heap.size w (w.alloc (.cells #[.func (.func g) first cap] 204)):=(Below.refl _ _).alloc (Nat.le_refl _) _
 refine(yn 167 #[.pointer (some ⟨w.heap.size,0,none⟩)] (enters Tryz.func167 (by kernel_rfl) rfl) (λx=>!p x) A c xs _ (Kd.aC HR.out hB) hlen ?_).mono ?_
 .intro W x hW
  refine Fx g first cap hg p x w.heap.size W ?_ (HP.out.later (hB.trans (hW.mono hB.size)))
  rw[hW.cell (p:=⟨w.heap.size,0,none⟩) (by simp)]
  simp
 rintro e w' ⟨rfl,hb⟩
 have hn:=aa.mk (List.any_eq_not_all_not (l:=xs) (p:=λx=>!p x))
 obtain⟨j,hj⟩:∃j,(xs.any λx=>!p x)=j:=⟨_,rfl⟩
 rw[hj] at hn ⊢
 clear hj
 go_wp2
 go_ret
 exact⟨bB (by rw[hn.out];simp),bA hB hb⟩
def eU(xs:List mh)(k:Nat):mh:=bS xs (k:Int)
def uK(x:mh):Value:= .agg #[.int .i64 x.f0,.int .i64 x.f1]
def l9(g:Nat)(first cap:Array Value)(p:mh->Bool)(w:World):Prop:=
 ∀(W:World) (x:mh),Below w.heap.size w W->Calls Tryz.prog g (first.push (uK x)++cap) W λe w'=>e= .returned (.bool (p x))/\Below W.heap.size W w'
theorem l9.later{g:Nat}{first cap:Array Value}{p:mh->Bool}{w W:World}(h:l9 g first cap p w)(hb:Below w.heap.size w W):l9 g first cap p W:=
 λW' x hb'=>h W' x (hb.trans (hb'.mono hb.size))
set_option maxHeartbeats 1000000 in
theorem CU(g:Nat)(cap:Array Value)(hg:∀args w,(callFunc g args).run Tryz.prog w= .ok (.enter g args) w)(p:mh->Bool)(A:Option Addr)(c:Nat)(xs:List mh)(w:World)
  (hr:Kd.C nQ w A xs.length xs) (hlen:xs.length<=9223372036854775807) (hp:l9 g #[] cap p w):
  Calls Tryz.prog 168 #[.slice A xs.length c,.func (.func g) #[] cap] w λe w'=>e= .returned (.int .i64 (fi p xs 0))/\Below w.heap.size w w':=by
 have HR:=aa.mk hr
 have HP:=aa.mk hp
 clear hr hp
 go_enter Tryz.func168,Tryz.ntmps168
 go_wp2
 go_loopw [8] (λv wr=>∃k:Nat,k<=xs.length/\v= .int .i64 k/\aa (Below w.heap.size w wr)/\aa (fi p xs 0=fi p (xs.drop k) k)) (λv _=>xs.length-(intOf v).toNat)
 case atStart=>exact⟨0,Nat.zero_le _,rfl,⟨Below.refl _ _⟩,⟨rfl⟩⟩
 case round=>
  obtain⟨k,hk,rfl,HB,HF⟩:=hrel
  by_cases hlt:k<xs.length
  .obtain⟨ad,e,h0,h1⟩:=kW HR.out k (by omega) (by omega)
   cases e
   have hb:=HB.out
   replace h0:=(hb.cell (World.block_lt_of_cell? w _ h0)).trans h0
   replace h1:=(hb.cell (World.block_lt_of_cell? w _ h1)).trans h1
   simp only[Int.toNat_natCast] at h0 h1
   clear hb HR
   go_wp2_with fail
   have hc:=HP.out wr (eU xs k) HB.out
   simp only[uK,eU,List.push_toArray,List.nil_append] at hc
   have hfs:=aa.mk (jX p xs k z63 hlt)
   rw[show xs.getD k z63=eU xs k from by simp[eU,bS,Int.toNat_natCast]] at hfs
   have HX:aa (∃y,y=eU xs k):=⟨⟨_,rfl⟩⟩
   refine(hc).mono ?_
   rintro e w' ⟨rfl,hb'⟩
   have qV:=aa.mk (bA HB.out hb')
   clear hb' h0 h1 hc HB
   cases hpx:p (eU xs k)
   .simp only[eU] at hpx
    have jV:=aa.mk hpx
    clear hpx
    simp only[jV.out]
    go_wp2
    go_roundw
    case rel=>exact⟨k+1,by omega,by go_num,qV,⟨by rw[HF.out,hfs.out,if_neg (by simp[eU,jV.out])]⟩⟩
    case measure=>simp[intOf];omega
   .simp only[eU] at hpx
    have jV:=aa.mk hpx
    clear hpx
    simp only[jV.out]
    go_wp2
    go_ret
    exact⟨dL (by rw[HF.out,hfs.out,if_pos (by simp[eU,jV.out])]),qV.out⟩
  .have hk':k=xs.length:=by omega
   subst hk'
   go_wp2
   go_ret
   exact⟨dL (by rw[HF.out,List.drop_length];rfl),HB.out⟩
theorem yo(g:Nat)(cap:Array Value)(hg:∀args w,(callFunc g args).run Tryz.prog w= .ok (.enter g args) w)(p:mh->Bool)(A:Option Addr)(c:Nat)(xs:List mh)(w:World)
  (hr:Kd.C nQ w A xs.length xs) (hlen:xs.length<=9223372036854775807) (hp:l9 g #[] cap p w):
  Calls Tryz.prog 90 #[.slice A xs.length c,.func (.func g) #[] cap] w λe w'=>e= .returned (.bool (xs.any p))/\Below w.heap.size w w':=by
 go_enter Tryz.func90,Tryz.ntmps90
 go_wp2_with fail
 refine(CU g cap hg p A c xs w hr hlen hp).mono ?_
 rintro e w' ⟨rfl,hb⟩
 obtain⟨j,hj⟩:∃j,fi p xs 0=j:=⟨_,rfl⟩
 have hn:=aa.mk (iQ p xs 0)
 rw[hj] at hn ⊢
 clear hj
 go_wp2
 go_ret
 exact⟨bB (by rw[<- hn.out]),hb⟩
end Go.Proofs.YtdekaocdmjndaaaGreat
