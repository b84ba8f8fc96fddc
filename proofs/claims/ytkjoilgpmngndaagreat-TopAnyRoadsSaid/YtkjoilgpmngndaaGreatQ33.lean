import Derived.Test.YtkjoilgpmngndaaGreatQ32
set_option linter.all false
namespace Go.Proofs.YtkjoilgpmngndaaGreat
open Go.RowKit Go.Shelf au YtkjoilgpmngndaaGreatW.aj YtkjoilgpmngndaaGreatW.aJ
def jr(xs:List dN)(k:Nat):dN:=uK xs (k:Int)
def xU(x:dN):Value:= .agg #[.int .i64 x.f0,.int .i64 x.f1,.int .i64 x.f2]
def pI(g:Nat)(first cap:Array Value)(p:dN->Bool)(w:World):Prop:=
 ∀(W:World) (x:dN),Below w.heap.size w W->Calls Tryz.prog g (first.push (xU x)++cap) W λe w'=>e= .returned (.bool (p x))/\Below W.heap.size W w'
theorem pI.later{g:Nat}{first cap:Array Value}{p:dN->Bool}{w W:World}(h:pI g first cap p w)(hb:Below w.heap.size w W):pI g first cap p W:=
 λW' x hb'=>h W' x (hb.trans (hb'.mono hb.size))
set_option maxHeartbeats 1000000 in
theorem OM(g:Nat)(cap:Array Value)(hg:∀args w,(callFunc g args).run Tryz.prog w= .ok (.enter g args) w)(p:dN->Bool)(A:Option Addr)(c:Nat)(xs:List dN)(w:World)
  (hr:Kd.C Bt w A xs.length xs) (hlen:xs.length<=9223372036854775807) (hp:pI g #[] cap p w):
  Calls Tryz.prog 169 #[.slice A xs.length c,.func (.func g) #[] cap] w λe w'=>e= .returned (.int .i64 (fi p xs 0))/\Below w.heap.size w w':=by
 have HR:=aa.mk hr
 have HP:=aa.mk hp
 clear hr hp
 go_enter Tryz.func169,Tryz.ntmps169
 go_wp2
 go_loopw [8] (λv wr=>∃k:Nat,k<=xs.length/\v= .int .i64 k/\aa (Below w.heap.size w wr)/\aa (fi p xs 0=fi p (xs.drop k) k)) (λv _=>xs.length-(intOf v).toNat)
 case atStart=>exact⟨0,Nat.zero_le _,rfl,⟨Below.refl _ _⟩,⟨rfl⟩⟩
 case round=>
  obtain⟨k,hk,rfl,HB,HF⟩:=hrel
  by_cases hlt:k<xs.length
  .obtain⟨ad,e,h0,h1,h2⟩:=M8 HR.out k (by omega) (by omega)
   cases e
   have hb:=HB.out
   replace h0:=(hb.cell (World.block_lt_of_cell? w _ h0)).trans h0
   replace h1:=(hb.cell (World.block_lt_of_cell? w _ h1)).trans h1
   replace h2:=(hb.cell (World.block_lt_of_cell? w _ h2)).trans h2
   simp only[Int.toNat_natCast] at h0 h1 h2
   clear hb HR
   go_wp2_with fail
   have hc:=HP.out wr (jr xs k) HB.out
   simp only[xU,jr,List.push_toArray,List.nil_append] at hc
   have hfs:=aa.mk (nC p xs k TJ hlt)
   rw[show xs.getD k TJ=jr xs k from by simp[jr,uK,Int.toNat_natCast]] at hfs
   have HX:aa (∃y,y=jr xs k):=⟨⟨_,rfl⟩⟩
   refine(hc).mono ?_
   rintro e w' ⟨rfl,hb'⟩
   have yE:=aa.mk (bQ HB.out hb')
   clear hb' h0 h1 h2 hc HB
   cases hpx:p (jr xs k)
   .simp only[jr] at hpx
    have pJ:=aa.mk hpx
    clear hpx
    simp only[pJ.out]
    go_wp2
    go_roundw
    case rel=>exact⟨k+1,by omega,by go_num,yE,⟨by rw[HF.out,hfs.out,if_neg (by simp[jr,pJ.out])]⟩⟩
    case measure=>simp[intOf];omega
   .simp only[jr] at hpx
    have pJ:=aa.mk hpx
    clear hpx
    simp only[pJ.out]
    go_wp2
    go_ret
    exact⟨fC (by rw[HF.out,hfs.out,if_pos (by simp[jr,pJ.out])]),yE.out⟩
  .have hk':k=xs.length:=by omega
   subst hk'
   go_wp2
   go_ret
   exact⟨fC (by rw[HF.out,List.drop_length];rfl),HB.out⟩
theorem FI(g:Nat)(cap:Array Value)(hg:∀args w,(callFunc g args).run Tryz.prog w= .ok (.enter g args) w)(p:dN->Bool)(A:Option Addr)(c:Nat)(xs:List dN)(w:World)
  (hr:Kd.C Bt w A xs.length xs) (hlen:xs.length<=9223372036854775807) (hp:pI g #[] cap p w):
  Calls Tryz.prog 163 #[.slice A xs.length c,.func (.func g) #[] cap] w λe w'=>e= .returned (.bool (xs.any p))/\Below w.heap.size w w':=by
 go_enter Tryz.func163,Tryz.ntmps163
 go_wp2_with fail
 refine(OM g cap hg p A c xs w hr hlen hp).mono ?_
 rintro e w' ⟨rfl,hb⟩
 obtain⟨j,hj⟩:∃j,fi p xs 0=j:=⟨_,rfl⟩
 have hn:=aa.mk (jY p xs 0)
 rw[hj] at hn ⊢
 clear hj
 go_wp2
 go_ret
 exact⟨bP (by rw[<- hn.out]),hb⟩
theorem R5(g:Nat)(first cap:Array Value)(hg:∀args w,(callFunc g args).run Tryz.prog w= .ok (.enter g args) w)(p:dN->Bool)(x:dN)(gp:Nat)(w:World)
  (hc:w.cell? ⟨gp,0,none⟩=some (.func (.func g) first cap)) (hp:pI g first cap p w):
  Calls Tryz.prog 164 ((#[]:Array Value).push (xU x)++#[.pointer (some ⟨gp,0,none⟩)]) w λe w'=>e= .returned (.bool (!p x))/\Below w.heap.size w w':=by
 simp only[Array.empty_append,List.push_toArray,List.append_toArray,List.nil_append,List.cons_append,xU]
 have YD:gp<w.heap.size:=World.block_lt_of_cell? w _ hc
 have HP:=aa.mk hp
 clear hp
 go_enter Tryz.func164,Tryz.ntmps164
 go_wp2_with fail
 have hc:=HP.out _ x ((Below.refl w.heap.size w).alloc (Nat.le_refl _) (.cells #[.int .i64 x.f0,.int .i64 x.f1,.int .i64 x.f2] 235))
 simp only[xU] at hc
 refine hc.mono ?_
 rintro e w' ⟨rfl,hb⟩
 obtain⟨b,hb1⟩:∃b,p x=b:=⟨_,rfl⟩
 rw[hb1]
 go_wp2
 go_ret
 exact⟨bP (by rw[hb1]),bQ ((Below.refl w.heap.size w).alloc (Nat.le_refl _) (.cells #[.int .i64 x.f0,.int .i64 x.f1,.int .i64 x.f2] 235)) hb⟩
theorem Vk(g:Nat)(first cap:Array Value)(hg:∀args w,(callFunc g args).run Tryz.prog w= .ok (.enter g args) w)(p:dN->Bool)(A:Option Addr)(c:Nat)(xs:List dN)(w:World)
  (hr:Kd.C Bt w A xs.length xs) (hlen:xs.length<=9223372036854775807) (hp:pI g first cap p w):
  Calls Tryz.prog 147 #[.slice A xs.length c,.func (.func g) first cap] w λe w'=>e= .returned (.bool (xs.all p))/\Below w.heap.size w w':=by
 go_enter Tryz.func147,Tryz.ntmps147
 have HR:=aa.mk hr
 have HP:=aa.mk hp
 clear hr hp
 go_wp2_with fail
 have hB:Below w.heap.size w (w.alloc (.cells #[.func (.func g) first cap] 231)):=(Below.refl _ _).alloc (Nat.le_refl _) _
 refine(FI 164 #[.pointer (some ⟨w.heap.size,0,none⟩)] (enters Tryz.func164 (by kernel_rfl) rfl) (λx=>!p x) A c xs _ (Kd.av HR.out hB) hlen ?_).mono ?_
 .intro W x hW
  refine R5 g first cap hg p x w.heap.size W ?_ (HP.out.later (hB.trans (hW.mono hB.size)))
  rw[hW.cell (p:=⟨w.heap.size,0,none⟩) (by simp)]
  simp
 rintro e w' ⟨rfl,hb⟩
 have hn:=aa.mk (List.any_eq_not_all_not (l:=xs) (p:=λx=>!p x))
 obtain⟨j,hj⟩:∃j,(xs.any λx=>!p x)=j:=⟨_,rfl⟩
 rw[hj] at hn ⊢
 clear hj
 go_wp2
 go_ret
 exact⟨bP (by rw[hn.out];simp),bQ hB hb⟩
def pG(g:Nat)(first cap:Array Value)(p:List Int->Bool)(w:World):Prop:=
 ∀(W:World) (x:List Int) (A:Option Addr) (c:Nat),Below w.heap.size w W->(Kd.int .i64).C W A x.length x->x.length<=c->Calls Tryz.prog g (first.push (.slice A x.length c)++cap) W λe w'=>e= .returned (.bool (p x))/\Below W.heap.size W w'
theorem pG.later{g:Nat}{first cap:Array Value}{p:List Int->Bool}{w W:World}(h:pG g first cap p w)(hb:Below w.heap.size w W):pG g first cap p W:=
 λW' x A c hb'=>h W' x A c (hb.trans (hb'.mono hb.size))
set_option maxHeartbeats 1000000 in
theorem OL(g:Nat)(cap:Array Value)(hg:∀args w,(callFunc g args).run Tryz.prog w= .ok (.enter g args) w)(p:List Int->Bool)(A:Option Addr)(c:Nat)(xs:List (List Int))(w:World)
  (hr:Kd.C (Kd.slice 3 (Kd.int .i64)) w A xs.length xs) (hlen:xs.length<=9223372036854775807) (hp:pG g #[] cap p w):
  Calls Tryz.prog 168 #[.slice A xs.length c,.func (.func g) #[] cap] w λe w'=>e= .returned (.int .i64 (fi p xs 0))/\Below w.heap.size w w':=by
 have HR:=aa.mk hr
 have HP:=aa.mk hp
 clear hr hp
 go_enter Tryz.func168,Tryz.ntmps168
 go_wp2
 go_loopw [8] (λv wr=>∃k:Nat,k<=xs.length/\v= .int .i64 k/\aa (Below w.heap.size w wr)/\aa (fi p xs 0=fi p (xs.drop k) k)) (λv _=>xs.length-(intOf v).toNat)
 case atStart=>exact⟨0,Nat.zero_le _,rfl,⟨Below.refl _ _⟩,⟨rfl⟩⟩
 case round=>
  obtain⟨k,hk,rfl,HB,HF⟩:=hrel
  by_cases hlt:k<xs.length
  .obtain⟨ad,A0,c0,e,h0,hc0,hC0⟩:=Iu HR.out k (by omega) (by omega)
   cases e
   have hb:=HB.out
   replace h0:=(hb.cell (World.block_lt_of_cell? w _ h0)).trans h0
   simp only[Int.toNat_natCast] at h0
   have hC:=Kd.av hC0 HB.out
   have hrd:vG xs (k:Int)=xs.getD k []:=rfl
   rw[hrd] at h0 hc0 hC
   have hfs:=aa.mk (nC p xs k [] hlt)
   obtain⟨r,hre⟩:∃r,xs.getD k []=r:=⟨_,rfl⟩
   rw[hre] at h0 hc0 hC hfs
   have HC:=aa.mk hC
   clear hre
   clear hb HR hC hC0 hrd
   go_wp2_with fail
   have hc:=HP.out wr r A0 c0 HB.out HC.out hc0
   simp only[List.push_toArray,List.nil_append] at hc
   refine(hc).mono ?_
   rintro e w' ⟨rfl,hb'⟩
   have yE:=aa.mk (bQ HB.out hb')
   clear hb' h0 hc HB HC hc0
   cases hpx:p r
   .skip
    have pJ:=aa.mk hpx
    clear hpx
    simp only[pJ.out]
    go_wp2
    go_roundw
    case rel=>exact⟨k+1,by omega,by go_num,yE,⟨by rw[HF.out,hfs.out,if_neg (by simp[pJ.out])]⟩⟩
    case measure=>simp[intOf];omega
   .skip
    have pJ:=aa.mk hpx
    clear hpx
    simp only[pJ.out]
    go_wp2
    go_ret
    exact⟨fC (by rw[HF.out,hfs.out,if_pos (by simp[pJ.out])]),yE.out⟩
  .have hk':k=xs.length:=by omega
   subst hk'
   go_wp2
   go_ret
   exact⟨fC (by rw[HF.out,List.drop_length];rfl),HB.out⟩
theorem FH(g:Nat)(cap:Array Value)(hg:∀args w,(callFunc g args).run Tryz.prog w= .ok (.enter g args) w)(p:List Int->Bool)(A:Option Addr)(c:Nat)(xs:List (List Int))(w:World)
  (hr:Kd.C (Kd.slice 3 (Kd.int .i64)) w A xs.length xs) (hlen:xs.length<=9223372036854775807) (hp:pG g #[] cap p w):
  Calls Tryz.prog 161 #[.slice A xs.length c,.func (.func g) #[] cap] w λe w'=>e= .returned (.bool (xs.any p))/\Below w.heap.size w w':=by
 go_enter Tryz.func161,Tryz.ntmps161
 go_wp2_with fail
 refine(OL g cap hg p A c xs w hr hlen hp).mono ?_
 rintro e w' ⟨rfl,hb⟩
 obtain⟨j,hj⟩:∃j,fi p xs 0=j:=⟨_,rfl⟩
 have hn:=aa.mk (jY p xs 0)
 rw[hj] at hn ⊢
 clear hj
 go_wp2
 go_ret
 exact⟨bP (by rw[<- hn.out]),hb⟩
theorem R4(g:Nat)(first cap:Array Value)(hg:∀args w,(callFunc g args).run Tryz.prog w= .ok (.enter g args) w)(p:List Int->Bool)(x:List Int)(Ax:Option Addr)(cx:Nat)(gp:Nat)(w:World)
  (hc:w.cell? ⟨gp,0,none⟩=some (.func (.func g) first cap)) (hp:pG g first cap p w) (hx:(Kd.int .i64).C w Ax x.length x) (hcx:x.length<=cx):
  Calls Tryz.prog 162 ((#[]:Array Value).push (.slice Ax x.length cx)++#[.pointer (some ⟨gp,0,none⟩)]) w λe w'=>e= .returned (.bool (!p x))/\Below w.heap.size w w':=by
 simp only[Array.empty_append,List.push_toArray,List.append_toArray,List.nil_append,List.cons_append]
 have YD:gp<w.heap.size:=World.block_lt_of_cell? w _ hc
 have HP:=aa.mk hp
 have HCX:=aa.mk hx
 clear hp hx
 go_enter Tryz.func162,Tryz.ntmps162
 go_wp2_with fail
 have hc:=HP.out _ x Ax cx (Below.refl _ _) HCX.out hcx
 refine hc.mono ?_
 rintro e w' ⟨rfl,hb⟩
 obtain⟨b,hb1⟩:∃b,p x=b:=⟨_,rfl⟩
 rw[hb1]
 go_wp2
 go_ret
 exact⟨bP (by rw[hb1]),bQ (Below.refl _ _) hb⟩
theorem M9(g:Nat)(first cap:Array Value)(hg:∀args w,(callFunc g args).run Tryz.prog w= .ok (.enter g args) w)(p:List Int->Bool)(A:Option Addr)(c:Nat)(xs:List (List Int))(w:World)
  (hr:Kd.C (Kd.slice 3 (Kd.int .i64)) w A xs.length xs) (hlen:xs.length<=9223372036854775807) (hp:pG g first cap p w):
  Calls Tryz.prog 143 #[.slice A xs.length c,.func (.func g) first cap] w λe w'=>e= .returned (.bool (xs.all p))/\Below w.heap.size w w':=by
 go_enter Tryz.func143,Tryz.ntmps143
 have HR:=aa.mk hr
 have HP:=aa.mk hp
 clear hr hp
 go_wp2_with fail
 have hB:Below w.heap.size w (w.alloc (.cells #[.func (.func g) first cap] 158)):=(Below.refl _ _).alloc (Nat.le_refl _) _
 refine(FH 162 #[.pointer (some ⟨w.heap.size,0,none⟩)] (enters Tryz.func162 (by kernel_rfl) rfl) (λx=>!p x) A c xs _ (Kd.av HR.out hB) hlen ?_).mono ?_
 .intro W x Ax cx hW hCx hcx
  refine R4 g first cap hg p x Ax cx w.heap.size W ?_ (HP.out.later (hB.trans (hW.mono hB.size))) hCx hcx
  rw[hW.cell (p:=⟨w.heap.size,0,none⟩) (by simp)]
  simp
 rintro e w' ⟨rfl,hb⟩
 have hn:=aa.mk (List.any_eq_not_all_not (l:=xs) (p:=λx=>!p x))
 obtain⟨j,hj⟩:∃j,(xs.any λx=>!p x)=j:=⟨_,rfl⟩
 rw[hj] at hn ⊢
 clear hj
 go_wp2
 go_ret
 exact⟨bP (by rw[hn.out];simp),bQ hB hb⟩
end Go.Proofs.YtkjoilgpmngndaaGreat
