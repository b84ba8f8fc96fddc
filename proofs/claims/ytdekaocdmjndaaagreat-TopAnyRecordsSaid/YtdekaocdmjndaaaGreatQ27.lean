import Derived.Carry
import Derived.Test.YtdekaocdmjndaaaGreatQ22
import Derived.Test.YtdekaocdmjndaaaGreatQ26
set_option maxRecDepth 100000
set_option linter.all false
namespace Go.Proofs.YtdekaocdmjndaaaGreat
open Go.RowKit Go.Shelf ah YtdekaocdmjndaaaGreatW.aj YtdekaocdmjndaaaGreatW.aH
def Mj.T1:Bool×List (List Nat×List Nat):=(true,[([],[]),([0],[0]),([],[]),([2],[2]),([3],[3]),([4],[4]),([1,5],[1,5]),([6,6],[6]),([7],[7]),([8,7],[7,8]),([7],[7]),([10,7,7],[7,10]),([11,7],[7,11]),([9,12,11,7],[7,9,12]),([7,13],[7,13]),([14,13],[14]),([15],[15]),([16,15],[15,16]),([17,15,15],[15,17]),([15,18],[15,18]),([19,18,0,1,2,3,4,5,6,7,8,9,10,11,12,13,14,15,16,17,18,19],[19])])
def Mj.B1:List Nat:=[0,1,0,4,12,28,63,127,255,511,255,1279,3327,8191,16383,32767,65535,131071,262143,524287,1048575]
theorem Mj.MG:eB .any (opsOf Tryz.f150 1)=Mj.T1:=by kernel_rfl
theorem Mj.Fp:bI Mj.T1.2 Mj.B1=true:=by kernel_rfl
theorem AP(n:Int)(w:World):Calls Tryz.prog 219 #[.int .i64 n] w λe w'=>e= .returned (.bool (aX n 0 10000))/\Below w.heap.size w w':=by
 refine(jJ.calls n (aX n 0 10000) w ?_).mono ?_
 .unfold jJ.f dU.f aX
  by_cases h:0<=n<;>simp[h]
 .rintro e w' ⟨h1,h2⟩
  exact⟨h1,h2.below⟩
theorem AQ(n:Int)(w:World):Calls Tryz.prog 153 #[.int .i64 n] w λe w'=>e= .returned (.bool (aX n 2 100))/\Below w.heap.size w w':=by
 refine(mG.calls n (aX n 2 100) w ?_).mono ?_
 .unfold mG.f dU.f aX
  by_cases h:2<=n<;>simp[h]
 .rintro e w' ⟨h1,h2⟩
  exact⟨h1,h2.below⟩
theorem zw(n:Int)(w:World):Calls Tryz.prog 157 #[.int .i64 n] w λe w'=>e= .returned (.bool (aX n 0 10100))/\Below w.heap.size w w':=by
 go_enter Tryz.func157,Tryz.ntmps157
 go_wp2_with fail
 refine(lN n 0 10100 w).mono ?_
 rintro e w' ⟨rfl,hb⟩
 go_wp2_with fail
 go_ret
 exact⟨rfl,hb⟩
theorem CJ(x:List Int)(A:Option Addr)(c:Nat)(w:World)(hx:(Kd.int .i64).C w A x.length x)(hc:x.length<=c):Calls Tryz.prog 152 #[.slice A x.length c] w λe w'=>e= .returned (.bool (decide (x.length<=4)))/\Below w.heap.size w w':=
 (mF.calls A c x (decide (x.length<=4)) w hx hc (by
  unfold mF.f
  congr 1
  rw[decide_eq_decide]
  omega)).mono λ_ _ h=>⟨h.1,h.2.below⟩
structure Mk(w:World)(A:Option Addr)(c:Nat)(rows:List (List Int))(Af:Option Addr)(cf:Nat)(fx:List dh):Prop where
 kr:(Kd.slice 3 (Kd.int .i64)).C w A rows.length rows
 hc:rows.length<=c
 kf:zt.C w Af fx.length fx
 hcf:fx.length<=cf
theorem Mk.below{w w':World}{A:Option Addr}{c:Nat}{rows:List (List Int)}{Af:Option Addr}{cf:Nat}{fx:List dh}(h:Mk w A c rows Af cf fx)(hb:Below w.heap.size w w'):Mk w' A c rows Af cf fx:=⟨Kd.aC h.kr hb,h.hc,Kd.aC h.kf hb,h.hcf⟩
theorem lV{A:Option Addr}{c:Nat}{rows:List (List Int)}{Af:Option Addr}{cf:Nat}{fx:List dh}(base:Int)(w:World)(h:Mk w A c rows Af cf fx)(h1:0<rows.length)(m:Nat)(hm:(rows.getD 0 []).length=m):
  Calls Tryz.prog 64 #[.agg #[.int .i64 base,.slice A rows.length c,.slice Af fx.length cf]] w λe w'=>e= .returned (.int .i64 (m:Int))/\Below w.heap.size w w':=by
 subst hm
 refine fo.calls base A c rows Af cf fx _ w h.kr h.hc h.kf h.hcf ?_
 unfold fo.f
 rw[if_neg (by omega),if_pos (by omega)]
 rfl
def AO(m:Nat)(x:List Int):Bool:=(x.length==m)&&x.all (λn=>aX n 0 10000)
def KZ(n m:Nat)(f:dh):Bool:=aX f.f0 0 ((n:Int)-1)&&(aX f.f1 0 ((m:Int)-1)&&aX f.f2 0 10100)
theorem J5{A:Option Addr}{c:Nat}{rows:List (List Int)}{Af:Option Addr}{cf:Nat}{fx:List dh}(base:Int)(x:List Int)(Ax:Option Addr)(cx:Nat)(w:World)(h:Mk w A c rows Af cf fx)(h1:0<rows.length)(m:Nat)(hm:(rows.getD 0 []).length=m)(hx:(Kd.int .i64).C w Ax x.length x)(hcx:x.length<=cx):
  Calls Tryz.prog 149 #[.agg #[.int .i64 base,.slice A rows.length c,.slice Af fx.length cf],.slice Ax x.length cx] w λe w'=>e= .returned (.bool (AO m x))/\Below w.heap.size w w':=by
 have H:=aa.mk h
 have HX:=aa.mk hx
 have HM:=aa.mk hm
 have hxm:=Kd.Ck hx
 clear h hx hm
 go_enter Tryz.func149,Tryz.ntmps149
 go_wp2_with fail
 have HB:=aa.mk (ae (Below.refl w.heap.size w) (.cells #[.int .i64 base,.slice A rows.length c,.slice Af fx.length cf] 37))
 refine(lV base _ (H.out.below HB.out) h1 m HM.out).mono ?_
 rintro e w2 ⟨rfl,hb⟩
 replace HB:=aa.mk (HB.out.trans (hb.mono HB.out.size))
 clear hb
 by_cases hl:x.length=m
 .have hlb:((x.length:Int)==(m:Int))=true:=by simp[hl]
  have HV:=aa.mk (show AO m x=x.all (λn=>aX n 0 10000) by unfold AO;rw[hl];simp)
  clear hl
  go_wp2_with fail
  refine(Ei 219 #[] #[] (enters Tryz.func219 (by kernel_rfl) rfl) (λn=>aX n 0 10000) Ax cx x w2 (Kd.aC HX.out HB.out) (by omega) (λW y hW=>AP y W)).mono ?_
  rintro e w3 ⟨rfl,hb⟩
  replace HB:=aa.mk (HB.out.trans (hb.mono HB.out.size))
  clear hb
  go_wp2_with fail
  go_ret
  exact⟨by(rw[HV.out];rfl),HB.out⟩
 .have hlb:((x.length:Int)==(m:Int))=false:=by simpa using (show(x.length:Int)≠(m:Int) by omega)
  have HV:=aa.mk (show AO m x=false by unfold AO;rw[show(x.length==m)=false by simpa using hl];rfl)
  clear hl
  go_wp2_with fail
  go_ret
  exact⟨by(rw[HV.out];rfl),HB.out⟩
structure R9(A:Option Addr)(c:Nat)(base:Int)(rows:List (List Int))(Af:Option Addr)(cf:Nat)(fx:List dh)(f0 f1 f2:Int)(w W:World):Prop where
 b2:aV W w.heap.size [.int .i64 base,.slice A rows.length c,.slice Af fx.length cf] 37
 b3:aV W (w.heap.size+1) [.int .i64 f0,.int .i64 f1,.int .i64 f2] 158
 t:Mk W A c rows Af cf fx
 b:Below w.heap.size w W
theorem R9.below{A:Option Addr}{c:Nat}{base:Int}{rows:List (List Int)}{Af:Option Addr}{cf:Nat}{fx:List dh}{f0 f1 f2:Int}{w W W':World}(h:R9 A c base rows Af cf fx f0 f1 f2 w W)(hb:Below W.heap.size W W'):R9 A c base rows Af cf fx f0 f1 f2 w W':=⟨h.b2.below hb,h.b3.below hb,h.t.below hb,h.b.trans (hb.mono h.b.size)⟩
set_option maxHeartbeats 4000000 in
theorem KY{A:Option Addr}{c:Nat}{rows:List (List Int)}{Af:Option Addr}{cf:Nat}{fx:List dh}(base:Int)(x:dh)(w:World)(h:Mk w A c rows Af cf fx)(h1:0<rows.length)(hn:rows.length<=1000)(m:Nat)(hm:(rows.getD 0 []).length=m)(hm1:m<=1000):
  Calls Tryz.prog 150 #[.agg #[.int .i64 base,.slice A rows.length c,.slice Af fx.length cf],.agg #[.int .i64 x.f0,.int .i64 x.f1,.int .i64 x.f2]] w λe w'=>e= .returned (.bool (KZ rows.length m x))/\Below w.heap.size w w':=by
 obtain⟨f0,f1,f2⟩:=x
 have HM:=aa.mk hm
 have HF:=aa.mk (show R9 A c base rows Af cf fx f0 f1 f2 w ((w.alloc (.cells #[.int .i64 base,.slice A rows.length c,.slice Af fx.length cf] 37)).alloc (.cells #[.int .i64 f0,.int .i64 f1,.int .i64 f2] 158)) from
  ⟨(aV.new w [.int .i64 base,.slice A rows.length c,.slice Af fx.length cf] 37).alloc _,aV.second w _ [.int .i64 f0,.int .i64 f1,.int .i64 f2] 158,h.below (ae (ae (Below.refl _ _) _) _),ae (ae (Below.refl _ _) _) _⟩)
 clear h hm
 simp only
 go_enter Tryz.func150,Tryz.ntmps150
 go_wp2_with fail
 generalize(w.alloc (.cells #[.int .i64 base,.slice A rows.length c,.slice Af fx.length cf] 37)).alloc (.cells #[.int .i64 f0,.int .i64 f1,.int .i64 f2] 158)=w1 at HF ⊢
 obtain⟨b1,hb1⟩:∃b,aX f0 0 ((rows.length:Int)-1)=b:=⟨_,rfl⟩
 obtain⟨b2,hb2⟩:∃b,aX f1 0 ((m:Int)-1)=b:=⟨_,rfl⟩
 obtain⟨b3,hb3⟩:∃b,aX f2 0 10100=b:=⟨_,rfl⟩
 have HV:=aa.mk (show KZ rows.length m ⟨f0,f1,f2⟩=(b1&&(b2&&b3)) by rw[<- hb1,<- hb2,<- hb3];rfl)
 have HB1:=aa.mk (λ(W:World)=>hb1▸lN f0 0 ((rows.length:Int)-1) W:∀W,Calls Tryz.prog 220 #[.int .i64 f0,.int .i64 0,.int .i64 ((rows.length:Int)-1)] W λe w'=>e= .returned (.bool b1)/\Below W.heap.size W w')
 have HB2:=aa.mk (λ(W:World)=>hb2▸lN f1 0 ((m:Int)-1) W:∀W,Calls Tryz.prog 220 #[.int .i64 f1,.int .i64 0,.int .i64 ((m:Int)-1)] W λe w'=>e= .returned (.bool b2)/\Below W.heap.size W w')
 have HB3:=aa.mk (λ(W:World)=>hb3▸zw f2 W:∀W,Calls Tryz.prog 157 #[.int .i64 f2] W λe w'=>e= .returned (.bool b3)/\Below W.heap.size W w')
 have hwn:IntKind.i64.wrap ((rows.length:Int)-1)=(rows.length:Int)-1:=by rw[cB];unfold wrap64;omega
 have hwm:IntKind.i64.wrap ((m:Int)-1)=(m:Int)-1:=by rw[cB];unfold wrap64;omega
 clear hb1 hb2 hb3 hn hm1
 cases b1
 .refine fF (n:=21) (S:=λw'=>w'.cell? ⟨w.heap.size,0,none⟩=some (.int .i64 base)/\w'.cell? ⟨w.heap.size,1,none⟩=some (.slice A rows.length c)/\w'.cell? ⟨w.heap.size,2,none⟩=some (.slice Af fx.length cf)/\w'.cell? ⟨w.heap.size+1,0,none⟩=some (.int .i64 f0)/\w'.cell? ⟨w.heap.size+1,1,none⟩=some (.int .i64 f1)/\w'.cell? ⟨w.heap.size+1,2,none⟩=some (.int .i64 f2)) (ds:=[6]) #[O,O,O,O,O,O,O,O,O,O,O,O,O,O,O,O,O,O,O,O,O] (by kernel_rfl) rfl rfl ⟨(by simpa using (HF.out).b2.cell 0),(by simpa using (HF.out).b2.cell 1),(by simpa using (HF.out).b2.cell 2),(by simpa using (HF.out).b3.cell 0),(by simpa using (HF.out).b3.cell 1),(by simpa using (HF.out).b3.cell 2)⟩ (λhHeld=>?_);refine bG Mj.MG Mj.Fp (λau cz=>?_)
  replace HF:=aa.mk (HF.out.below (aN (Below.refl _ _)))
  generalize w1.drew=wd at HF hHeld ⊢
  refine bq 0 5 #[I,O,O,O,O,O,O,O,O,O,O,O,O,O,O,O,O,O,O,O,O] au (h:=?_)
  refine fJ 1 6 #[I,I,O,O,O,O,O,O,O,O,O,O,O,O,O,O,O,O,O,O,O] au cz hHeld (hy:=by(rintro w' ⟨s0,s1,s2,s3,s4,s5⟩;go_simp;with_reducible rfl)) (h:=?_)
  refine bq 2 7 #[I,I,I,O,O,O,O,O,O,O,O,O,O,O,O,O,O,O,O,O,O] au (h:=?_)
  refine fJ 3 8 #[I,I,I,I,O,O,O,O,O,O,O,O,O,O,O,O,O,O,O,O,O] au cz hHeld (hy:=by(rintro w' ⟨s0,s1,s2,s3,s4,s5⟩;go_simp;with_reducible rfl)) (h:=?_)
  refine bq 4 9 #[I,I,I,I,I,O,O,O,O,O,O,O,O,O,O,O,O,O,O,O,O] au (h:=?_)
  refine bq 5 10 #[I,I,I,I,I,I,O,O,O,O,O,O,O,O,O,O,O,O,O,O,O] au (h:=?_)
  refine fB (i:=6) (N:=some 11) #[I,I,I,I,I,I,I,O,O,O,O,O,O,O,O,O,O,O,O,O,O] rfl rfl (aM au.out (by kernel_rfl)) (by decide) (λK hK=>?_)
  refine bT Tryz.func220 (by kernel_rfl) rfl #[.int .i64 f0,.int .i64 0,.int .i64 ((rows.length:Int)-1)] (by rfl) rfl rfl (by(try simp only[List.map_toArray,List.map_cons,List.map_nil]);rfl) ?_
  refine(HB1.out _).mono ?_
  rintro e_ w_ ⟨rfl,hbx⟩
  refine⟨_,rfl,hK.out _ _ ?_⟩
  clear hK K
  replace HF:=aa.mk (HF.out.below hbx)
  clear hbx
  refine j4 ?_
  refine bq 7 12 #[I,I,I,I,I,I,I,I,O,O,O,O,O,O,O,O,O,O,O,O,O] au (h:=?_)
  refine oq (i:=8) (N:=some 13) (v:=undef) (a':=?_) #[I,I,I,I,I,I,I,I,I,O,O,O,O,O,O,O,O,O,O,O,O] rfl rfl (dI au.out (by kernel_rfl)) (λ_ _ _ h=>h) (Or.inr ⟨by rfl,rfl⟩) ?_ ?_
  rotate_left
  .simp only[Act.put,sb0,sb1,bR,cB,dX]
   rfl
  refine oq (i:=9) (N:=some 14) (v:=undef) (a':=?_) #[I,I,I,I,I,I,I,I,I,I,O,O,O,O,O,O,O,O,O,O,O] rfl rfl (dI au.out (by kernel_rfl)) (λ_ _ _ h=>h) (Or.inr ⟨by rfl,rfl⟩) ?_ ?_
  rotate_left
  .simp only[Act.put,sb0,sb1,bR,cB,dX]
   rfl
  refine oq (i:=10) (N:=some 15) (v:=undef) (a':=?_) #[I,I,I,I,I,I,I,I,I,I,I,O,O,O,O,O,O,O,O,O,O] rfl rfl (dI au.out (by kernel_rfl)) (λ_ _ _ h=>h) (Or.inr ⟨by rfl,rfl⟩) ?_ ?_
  rotate_left
  .simp only[Act.put,sb0,sb1,bR,cB,dX]
   rfl
  refine oq (i:=11) (N:=some 16) (v:=undef) (a':=?_) #[I,I,I,I,I,I,I,I,I,I,I,I,O,O,O,O,O,O,O,O,O] rfl rfl (dI au.out (by kernel_rfl)) (λ_ _ _ h=>h) (Or.inr ⟨by rfl,rfl⟩) ?_ ?_
  rotate_left
  .simp only[Act.put,sb0,sb1,bR,cB,dX]
   rfl
  refine oq (i:=12) (N:=some 17) (v:=undef) (a':=?_) #[I,I,I,I,I,I,I,I,I,I,I,I,I,O,O,O,O,O,O,O,O] rfl rfl (dI au.out (by kernel_rfl)) (λ_ _ _ h=>h) (Or.inr ⟨by rfl,rfl⟩) ?_ ?_
  rotate_left
  .simp only[Act.put,sb0,sb1,bR,cB,dX]
   rfl
  refine oq (i:=13) (N:=some 18) (v:=undef) (a':=?_) #[I,I,I,I,I,I,I,I,I,I,I,I,I,I,O,O,O,O,O,O,O] rfl rfl (dI au.out (by kernel_rfl)) (λ_ _ _ h=>h) (Or.inr ⟨by rfl,rfl⟩) ?_ ?_
  rotate_left
  .simp only[Act.put,sb0,sb1,bR,cB,dX]
   rfl
  refine bq 14 19 #[I,I,I,I,I,I,I,I,I,I,I,I,I,I,I,O,O,O,O,O,O] au (h:=?_)
  refine bq 15 20 #[I,I,I,I,I,I,I,I,I,I,I,I,I,I,I,I,O,O,O,O,O] au (h:=?_)
  refine oq (i:=16) (N:=some 21) (v:=undef) (a':=?_) #[I,I,I,I,I,I,I,I,I,I,I,I,I,I,I,I,I,O,O,O,O] rfl rfl (dI au.out (by kernel_rfl)) (λ_ _ _ h=>h) (Or.inr ⟨by rfl,rfl⟩) ?_ ?_
  rotate_left
  .simp only[Act.put,sb0,sb1,bR,cB,dX]
   rfl
  refine oq (i:=17) (N:=some 22) (v:=undef) (a':=?_) #[I,I,I,I,I,I,I,I,I,I,I,I,I,I,I,I,I,I,O,O,O] rfl rfl (dI au.out (by kernel_rfl)) (λ_ _ _ h=>h) (Or.inr ⟨by rfl,rfl⟩) ?_ ?_
  rotate_left
  .simp only[Act.put,sb0,sb1,bR,cB,dX]
   rfl
  refine oq (i:=18) (N:=some 23) (v:=undef) (a':=?_) #[I,I,I,I,I,I,I,I,I,I,I,I,I,I,I,I,I,I,I,O,O] rfl rfl (dI au.out (by kernel_rfl)) (λ_ _ _ h=>h) (Or.inr ⟨by rfl,rfl⟩) ?_ ?_
  rotate_left
  .simp only[Act.put,sb0,sb1,bR,cB,dX]
   rfl
  refine bq 19 24 #[I,I,I,I,I,I,I,I,I,I,I,I,I,I,I,I,I,I,I,I,O] au (h:=?_)
  refine bq 20 4 #[I,I,I,I,I,I,I,I,I,I,I,I,I,I,I,I,I,I,I,I,I] au (h:=?_)
  refine fM (bP au.out (by kernel_rfl)) ?_
  go_wp2_with fail
  go_ret
  exact⟨by(rw[HV.out];rfl),HF.out.b⟩
 cases b2
 .refine fF (n:=21) (S:=λw'=>w'.cell? ⟨w.heap.size,0,none⟩=some (.int .i64 base)/\w'.cell? ⟨w.heap.size,1,none⟩=some (.slice A rows.length c)/\w'.cell? ⟨w.heap.size,2,none⟩=some (.slice Af fx.length cf)/\w'.cell? ⟨w.heap.size+1,0,none⟩=some (.int .i64 f0)/\w'.cell? ⟨w.heap.size+1,1,none⟩=some (.int .i64 f1)/\w'.cell? ⟨w.heap.size+1,2,none⟩=some (.int .i64 f2)) (ds:=[13]) #[O,O,O,O,O,O,O,O,O,O,O,O,O,O,O,O,O,O,O,O,O] (by kernel_rfl) rfl rfl ⟨(by simpa using (HF.out).b2.cell 0),(by simpa using (HF.out).b2.cell 1),(by simpa using (HF.out).b2.cell 2),(by simpa using (HF.out).b3.cell 0),(by simpa using (HF.out).b3.cell 1),(by simpa using (HF.out).b3.cell 2)⟩ (λhHeld=>?_);refine bG Mj.MG Mj.Fp (λau cz=>?_)
  replace HF:=aa.mk (HF.out.below (aN (Below.refl _ _)))
  generalize w1.drew=wd at HF hHeld ⊢
  refine bq 0 5 #[I,O,O,O,O,O,O,O,O,O,O,O,O,O,O,O,O,O,O,O,O] au (h:=?_)
  refine fJ 1 6 #[I,I,O,O,O,O,O,O,O,O,O,O,O,O,O,O,O,O,O,O,O] au cz hHeld (hy:=by(rintro w' ⟨s0,s1,s2,s3,s4,s5⟩;go_simp;with_reducible rfl)) (h:=?_)
  refine bq 2 7 #[I,I,I,O,O,O,O,O,O,O,O,O,O,O,O,O,O,O,O,O,O] au (h:=?_)
  refine fJ 3 8 #[I,I,I,I,O,O,O,O,O,O,O,O,O,O,O,O,O,O,O,O,O] au cz hHeld (hy:=by(rintro w' ⟨s0,s1,s2,s3,s4,s5⟩;go_simp;with_reducible rfl)) (h:=?_)
  refine bq 4 9 #[I,I,I,I,I,O,O,O,O,O,O,O,O,O,O,O,O,O,O,O,O] au (h:=?_)
  refine bq 5 10 #[I,I,I,I,I,I,O,O,O,O,O,O,O,O,O,O,O,O,O,O,O] au (h:=?_)
  refine gB (i:=6) (N:=some 11) #[I,I,I,I,I,I,I,O,O,O,O,O,O,O,O,O,O,O,O,O,O] rfl rfl (aM au.out (by kernel_rfl)) (by decide) (λK hK=>?_)
  refine bT Tryz.func220 (by kernel_rfl) rfl #[.int .i64 f0,.int .i64 0,.int .i64 ((rows.length:Int)-1)] (by rfl) rfl rfl (by(try simp only[List.map_toArray,List.map_cons,List.map_nil]);rfl) ?_
  refine(HB1.out _).mono ?_
  rintro e_ w_ ⟨rfl,hbx⟩
  have e_:=HF.out.below hbx
  refine⟨_,rfl,hK.out _ _ ⟨(by simpa using e_.b2.cell 0),(by simpa using e_.b2.cell 1),(by simpa using e_.b2.cell 2),(by simpa using e_.b3.cell 0),(by simpa using e_.b3.cell 1),(by simpa using e_.b3.cell 2)⟩ (λhHeld=>?_)⟩
  clear hK K
  replace HF:=aa.mk (HF.out.below hbx)
  clear hbx
  refine j4 ?_
  refine bq 7 12 #[I,I,I,I,I,I,I,I,O,O,O,O,O,O,O,O,O,O,O,O,O] au (h:=?_)
  refine bq 8 13 #[I,I,I,I,I,I,I,I,I,O,O,O,O,O,O,O,O,O,O,O,O] au (h:=?_)
  refine fJ 9 14 #[I,I,I,I,I,I,I,I,I,I,O,O,O,O,O,O,O,O,O,O,O] au cz hHeld (hy:=by(rintro w' ⟨s0,s1,s2,s3,s4,s5⟩;go_simp;with_reducible rfl)) (h:=?_)
  refine fJ 10 15 #[I,I,I,I,I,I,I,I,I,I,I,O,O,O,O,O,O,O,O,O,O] au cz hHeld (hy:=by(rintro w' ⟨s0,s1,s2,s3,s4,s5⟩;go_simp;with_reducible rfl)) (h:=?_)
  refine gB (i:=11) (N:=some 16) #[I,I,I,I,I,I,I,I,I,I,I,I,O,O,O,O,O,O,O,O,O] rfl rfl (aM au.out (by kernel_rfl)) (by decide) (λK hK=>?_)
  refine bT Tryz.func64 (by kernel_rfl) rfl #[.agg #[.int .i64 base,.slice A rows.length c,.slice Af fx.length cf]] (by rfl) rfl rfl (by(try simp only[List.map_toArray,List.map_cons,List.map_nil]);rfl) ?_
  refine(lV base _ HF.out.t h1 m HM.out).mono ?_
  rintro e_ w_ ⟨rfl,hbx⟩
  have e_:=HF.out.below hbx
  refine⟨_,rfl,hK.out _ _ ⟨(by simpa using e_.b2.cell 0),(by simpa using e_.b2.cell 1),(by simpa using e_.b2.cell 2),(by simpa using e_.b3.cell 0),(by simpa using e_.b3.cell 1),(by simpa using e_.b3.cell 2)⟩ (λhHeld=>?_)⟩
  clear hK K
  replace HF:=aa.mk (HF.out.below hbx)
  clear hbx
  refine j4 ?_
  refine bq 12 17 #[I,I,I,I,I,I,I,I,I,I,I,I,I,O,O,O,O,O,O,O,O] au (h:=?_)
  refine fB (i:=13) (N:=some 18) #[I,I,I,I,I,I,I,I,I,I,I,I,I,I,O,O,O,O,O,O,O] rfl rfl (aM au.out (by kernel_rfl)) (by decide) (λK hK=>?_)
  refine bT Tryz.func220 (by kernel_rfl) rfl #[.int .i64 f1,.int .i64 0,.int .i64 ((m:Int)-1)] (by rfl) rfl rfl (by(try simp only[List.map_toArray,List.map_cons,List.map_nil]);rfl) ?_
  refine(HB2.out _).mono ?_
  rintro e_ w_ ⟨rfl,hbx⟩
  refine⟨_,rfl,hK.out _ _ ?_⟩
  clear hK K
  replace HF:=aa.mk (HF.out.below hbx)
  clear hbx
  refine j4 ?_
  refine bq 14 19 #[I,I,I,I,I,I,I,I,I,I,I,I,I,I,I,O,O,O,O,O,O] au (h:=?_)
  refine bq 15 20 #[I,I,I,I,I,I,I,I,I,I,I,I,I,I,I,I,O,O,O,O,O] au (h:=?_)
  refine oq (i:=16) (N:=some 21) (v:=undef) (a':=?_) #[I,I,I,I,I,I,I,I,I,I,I,I,I,I,I,I,I,O,O,O,O] rfl rfl (dI au.out (by kernel_rfl)) (λ_ _ _ h=>h) (Or.inr ⟨by rfl,rfl⟩) ?_ ?_
  rotate_left
  .simp only[Act.put,sb0,sb1,bR,cB,dX]
   rfl
  refine oq (i:=17) (N:=some 22) (v:=undef) (a':=?_) #[I,I,I,I,I,I,I,I,I,I,I,I,I,I,I,I,I,I,O,O,O] rfl rfl (dI au.out (by kernel_rfl)) (λ_ _ _ h=>h) (Or.inr ⟨by rfl,rfl⟩) ?_ ?_
  rotate_left
  .simp only[Act.put,sb0,sb1,bR,cB,dX]
   rfl
  refine oq (i:=18) (N:=some 23) (v:=undef) (a':=?_) #[I,I,I,I,I,I,I,I,I,I,I,I,I,I,I,I,I,I,I,O,O] rfl rfl (dI au.out (by kernel_rfl)) (λ_ _ _ h=>h) (Or.inr ⟨by rfl,rfl⟩) ?_ ?_
  rotate_left
  .simp only[Act.put,sb0,sb1,bR,cB,dX]
   rfl
  refine bq 19 24 #[I,I,I,I,I,I,I,I,I,I,I,I,I,I,I,I,I,I,I,I,O] au (h:=?_)
  refine bq 20 4 #[I,I,I,I,I,I,I,I,I,I,I,I,I,I,I,I,I,I,I,I,I] au (h:=?_)
  refine fM (bP au.out (by kernel_rfl)) ?_
  go_wp2_with fail
  go_ret
  exact⟨by(rw[HV.out];rfl),HF.out.b⟩
 .refine fF (n:=21) (S:=λw'=>w'.cell? ⟨w.heap.size,0,none⟩=some (.int .i64 base)/\w'.cell? ⟨w.heap.size,1,none⟩=some (.slice A rows.length c)/\w'.cell? ⟨w.heap.size,2,none⟩=some (.slice Af fx.length cf)/\w'.cell? ⟨w.heap.size+1,0,none⟩=some (.int .i64 f0)/\w'.cell? ⟨w.heap.size+1,1,none⟩=some (.int .i64 f1)/\w'.cell? ⟨w.heap.size+1,2,none⟩=some (.int .i64 f2)) (ds:=[18]) #[O,O,O,O,O,O,O,O,O,O,O,O,O,O,O,O,O,O,O,O,O] (by kernel_rfl) rfl rfl ⟨(by simpa using (HF.out).b2.cell 0),(by simpa using (HF.out).b2.cell 1),(by simpa using (HF.out).b2.cell 2),(by simpa using (HF.out).b3.cell 0),(by simpa using (HF.out).b3.cell 1),(by simpa using (HF.out).b3.cell 2)⟩ (λhHeld=>?_);refine bG Mj.MG Mj.Fp (λau cz=>?_)
  replace HF:=aa.mk (HF.out.below (aN (Below.refl _ _)))
  generalize w1.drew=wd at HF hHeld ⊢
  refine bq 0 5 #[I,O,O,O,O,O,O,O,O,O,O,O,O,O,O,O,O,O,O,O,O] au (h:=?_)
  refine fJ 1 6 #[I,I,O,O,O,O,O,O,O,O,O,O,O,O,O,O,O,O,O,O,O] au cz hHeld (hy:=by(rintro w' ⟨s0,s1,s2,s3,s4,s5⟩;go_simp;with_reducible rfl)) (h:=?_)
  refine bq 2 7 #[I,I,I,O,O,O,O,O,O,O,O,O,O,O,O,O,O,O,O,O,O] au (h:=?_)
  refine fJ 3 8 #[I,I,I,I,O,O,O,O,O,O,O,O,O,O,O,O,O,O,O,O,O] au cz hHeld (hy:=by(rintro w' ⟨s0,s1,s2,s3,s4,s5⟩;go_simp;with_reducible rfl)) (h:=?_)
  refine bq 4 9 #[I,I,I,I,I,O,O,O,O,O,O,O,O,O,O,O,O,O,O,O,O] au (h:=?_)
  refine bq 5 10 #[I,I,I,I,I,I,O,O,O,O,O,O,O,O,O,O,O,O,O,O,O] au (h:=?_)
  refine gB (i:=6) (N:=some 11) #[I,I,I,I,I,I,I,O,O,O,O,O,O,O,O,O,O,O,O,O,O] rfl rfl (aM au.out (by kernel_rfl)) (by decide) (λK hK=>?_)
  refine bT Tryz.func220 (by kernel_rfl) rfl #[.int .i64 f0,.int .i64 0,.int .i64 ((rows.length:Int)-1)] (by rfl) rfl rfl (by(try simp only[List.map_toArray,List.map_cons,List.map_nil]);rfl) ?_
  refine(HB1.out _).mono ?_
  rintro e_ w_ ⟨rfl,hbx⟩
  have e_:=HF.out.below hbx
  refine⟨_,rfl,hK.out _ _ ⟨(by simpa using e_.b2.cell 0),(by simpa using e_.b2.cell 1),(by simpa using e_.b2.cell 2),(by simpa using e_.b3.cell 0),(by simpa using e_.b3.cell 1),(by simpa using e_.b3.cell 2)⟩ (λhHeld=>?_)⟩
  clear hK K
  replace HF:=aa.mk (HF.out.below hbx)
  clear hbx
  refine j4 ?_
  refine bq 7 12 #[I,I,I,I,I,I,I,I,O,O,O,O,O,O,O,O,O,O,O,O,O] au (h:=?_)
  refine bq 8 13 #[I,I,I,I,I,I,I,I,I,O,O,O,O,O,O,O,O,O,O,O,O] au (h:=?_)
  refine fJ 9 14 #[I,I,I,I,I,I,I,I,I,I,O,O,O,O,O,O,O,O,O,O,O] au cz hHeld (hy:=by(rintro w' ⟨s0,s1,s2,s3,s4,s5⟩;go_simp;with_reducible rfl)) (h:=?_)
  refine fJ 10 15 #[I,I,I,I,I,I,I,I,I,I,I,O,O,O,O,O,O,O,O,O,O] au cz hHeld (hy:=by(rintro w' ⟨s0,s1,s2,s3,s4,s5⟩;go_simp;with_reducible rfl)) (h:=?_)
  refine gB (i:=11) (N:=some 16) #[I,I,I,I,I,I,I,I,I,I,I,I,O,O,O,O,O,O,O,O,O] rfl rfl (aM au.out (by kernel_rfl)) (by decide) (λK hK=>?_)
  refine bT Tryz.func64 (by kernel_rfl) rfl #[.agg #[.int .i64 base,.slice A rows.length c,.slice Af fx.length cf]] (by rfl) rfl rfl (by(try simp only[List.map_toArray,List.map_cons,List.map_nil]);rfl) ?_
  refine(lV base _ HF.out.t h1 m HM.out).mono ?_
  rintro e_ w_ ⟨rfl,hbx⟩
  have e_:=HF.out.below hbx
  refine⟨_,rfl,hK.out _ _ ⟨(by simpa using e_.b2.cell 0),(by simpa using e_.b2.cell 1),(by simpa using e_.b2.cell 2),(by simpa using e_.b3.cell 0),(by simpa using e_.b3.cell 1),(by simpa using e_.b3.cell 2)⟩ (λhHeld=>?_)⟩
  clear hK K
  replace HF:=aa.mk (HF.out.below hbx)
  clear hbx
  refine j4 ?_
  refine bq 12 17 #[I,I,I,I,I,I,I,I,I,I,I,I,I,O,O,O,O,O,O,O,O] au (h:=?_)
  refine gB (i:=13) (N:=some 18) #[I,I,I,I,I,I,I,I,I,I,I,I,I,I,O,O,O,O,O,O,O] rfl rfl (aM au.out (by kernel_rfl)) (by decide) (λK hK=>?_)
  refine bT Tryz.func220 (by kernel_rfl) rfl #[.int .i64 f1,.int .i64 0,.int .i64 ((m:Int)-1)] (by rfl) rfl rfl (by(try simp only[List.map_toArray,List.map_cons,List.map_nil]);rfl) ?_
  refine(HB2.out _).mono ?_
  rintro e_ w_ ⟨rfl,hbx⟩
  have e_:=HF.out.below hbx
  refine⟨_,rfl,hK.out _ _ ⟨(by simpa using e_.b2.cell 0),(by simpa using e_.b2.cell 1),(by simpa using e_.b2.cell 2),(by simpa using e_.b3.cell 0),(by simpa using e_.b3.cell 1),(by simpa using e_.b3.cell 2)⟩ (λhHeld=>?_)⟩
  clear hK K
  replace HF:=aa.mk (HF.out.below hbx)
  clear hbx
  refine j4 ?_
  refine bq 14 19 #[I,I,I,I,I,I,I,I,I,I,I,I,I,I,I,O,O,O,O,O,O] au (h:=?_)
  refine bq 15 20 #[I,I,I,I,I,I,I,I,I,I,I,I,I,I,I,I,O,O,O,O,O] au (h:=?_)
  refine bq 16 21 #[I,I,I,I,I,I,I,I,I,I,I,I,I,I,I,I,I,O,O,O,O] au (h:=?_)
  refine fJ 17 22 #[I,I,I,I,I,I,I,I,I,I,I,I,I,I,I,I,I,I,O,O,O] au cz hHeld (hy:=by(rintro w' ⟨s0,s1,s2,s3,s4,s5⟩;go_simp;with_reducible rfl)) (h:=?_)
  refine fB (i:=18) (N:=some 23) #[I,I,I,I,I,I,I,I,I,I,I,I,I,I,I,I,I,I,I,O,O] rfl rfl (aM au.out (by kernel_rfl)) (by decide) (λK hK=>?_)
  refine bT Tryz.func157 (by kernel_rfl) rfl #[.int .i64 f2] (by rfl) rfl rfl (by(try simp only[List.map_toArray,List.map_cons,List.map_nil]);rfl) ?_
  refine(HB3.out _).mono ?_
  rintro e_ w_ ⟨rfl,hbx⟩
  refine⟨_,rfl,hK.out _ _ ?_⟩
  clear hK K
  replace HF:=aa.mk (HF.out.below hbx)
  clear hbx
  refine j4 ?_
  refine bq 19 24 #[I,I,I,I,I,I,I,I,I,I,I,I,I,I,I,I,I,I,I,I,O] au (h:=?_)
  refine bq 20 4 #[I,I,I,I,I,I,I,I,I,I,I,I,I,I,I,I,I,I,I,I,I] au (h:=?_)
  refine fM (bP au.out (by kernel_rfl)) ?_
  go_wp2_with fail
  go_ret
  exact⟨by(rw[HV.out];rfl),HF.out.b⟩
structure LC(base:Int)(rows:List (List Int))(fx:List dh):Prop where
 b:aX base 2 100=true
 n:rows.length<=5
 n1:0<rows.length
 m1:0<(rows.getD 0 []).length
 nar:rows.all (λx=>decide (x.length<=4))=true
 row:rows.all (AO (rows.getD 0 []).length)=true
 nf:fx.length<=10
 fix:fx.all (KZ rows.length (rows.getD 0 []).length)=true
set_option maxHeartbeats 4000000 in
theorem Bt{A:Option Addr}{c:Nat}{rows:List (List Int)}{Af:Option Addr}{cf:Nat}{fx:List dh}(base:Int)(w:World)(h:Mk w A c rows Af cf fx)(hv:LC base rows fx):
  Calls Tryz.prog 68 #[.agg #[.int .i64 base,.slice A rows.length c,.slice Af fx.length cf]] w λe w'=>e= .returned (.int .i64 0)/\Below w.heap.size w w':=by
 have H:=aa.mk h
 have HV:=aa.mk hv
 have hn:=hv.n
 have hn1:=hv.n1
 have hnf:=hv.nf
 have PV:(rows.getD 0 []).length<=4:=by
  have:=List.all_eq_true.1 hv.nar _ (mZ hn1)
  simpa using this
 have hm1:=hv.m1
 obtain⟨m,hm⟩:∃m,(rows.getD 0 []).length=m:=⟨_,rfl⟩
 have HM:=aa.mk hm
 have agl:=aa.mk (show rows.all (AO m)=true by rw[<- hm];exact hv.row)
 have agN:=aa.mk (show fx.all (KZ rows.length m)=true by rw[<- hm];exact hv.fix)
 rw[hm] at PV hm1
 clear h hv hm
 go_enter Tryz.func68,Tryz.ntmps68
 go_wp2_with fail
 have B1:=aa.mk (aV.new w [.int .i64 base,.slice A rows.length c,.slice Af fx.length cf] 37)
 have HB:=aa.mk (ae (Below.refl w.heap.size w) (.cells #[.int .i64 base,.slice A rows.length c,.slice Af fx.length cf] 37))
 generalize w.alloc (.cells #[.int .i64 base,.slice A rows.length c,.slice Af fx.length cf] 37)=w1 at B1 HB ⊢
 have h0:=B1.out.cell 0
 have h1:=B1.out.cell 1
 have h2:=B1.out.cell 2
 simp only[dZ,dY] at h0 h1 h2
 go_region
 clear h0 h1 h2
 replace B1:=aa.mk (B1.out.move rfl:aV w1.drew _ _ _)
 replace HB:=aa.mk (aN HB.out)
 generalize w1.drew=w2 at B1 HB ⊢
 have h0:=B1.out.cell 0
 have h1:=B1.out.cell 1
 have h2:=B1.out.cell 2
 simp only[dZ,dY] at h0 h1 h2
 have c1:decide (5<(rows.length:Int))=false:=by simp;omega
 have c2:decide (10<(fx.length:Int))=false:=by simp;omega
 go_wp2_with fail
 refine(Jq 152 #[] #[] (enters Tryz.func152 (by kernel_rfl) rfl) (λx=>decide (x.length<=4)) A c rows w2 (H.out.below HB.out).kr (by omega) (λW x Ax cx hW hx hcx=>CJ x Ax cx W hx hcx)).mono ?_
 rw[HV.out.nar]
 rintro e w3 ⟨rfl,hbx⟩
 replace B1:=aa.mk (B1.out.below hbx)
 replace HB:=aa.mk (HB.out.trans (hbx.mono HB.out.size))
 clear h0 h1 h2 hbx
 have h0:=B1.out.cell 0
 have h1:=B1.out.cell 1
 have h2:=B1.out.cell 2
 simp only[dZ,dY] at h0 h1 h2
 go_wp2_with fail
 refine(AQ base w3).mono ?_
 rw[HV.out.b]
 rintro e w4 ⟨rfl,hbx⟩
 replace B1:=aa.mk (B1.out.below hbx)
 replace HB:=aa.mk (HB.out.trans (hbx.mono HB.out.size))
 clear h0 h1 h2 hbx
 have h0:=B1.out.cell 0
 have h1:=B1.out.cell 1
 have h2:=B1.out.cell 2
 simp only[dZ,dY] at h0 h1 h2
 have cm:((m:Int)==0)=false:=by simpa using (show(m:Int)≠0 by omega)
 go_wp2_with fail
 refine(lV base w4 (H.out.below HB.out) hn1 m HM.out).mono ?_
 rintro e w5 ⟨rfl,hbx⟩
 replace B1:=aa.mk (B1.out.below hbx)
 replace HB:=aa.mk (HB.out.trans (hbx.mono HB.out.size))
 clear h0 h1 h2 hbx
 have h0:=B1.out.cell 0
 have h1:=B1.out.cell 1
 have h2:=B1.out.cell 2
 simp only[dZ,dY] at h0 h1 h2
 go_wp2_with fail
 refine(Jq 149 #[.agg #[.int .i64 base,.slice A rows.length c,.slice Af fx.length cf]] #[] (enters Tryz.func149 (by kernel_rfl) rfl) (AO m) A c rows w5 (H.out.below HB.out).kr (by omega) (λW x Ax cx hW hx hcx=>J5 base x Ax cx W (H.out.below (HB.out.trans (hW.mono HB.out.size))) hn1 m HM.out hx hcx)).mono ?_
 rw[agl.out]
 rintro e w6 ⟨rfl,hbx⟩
 replace B1:=aa.mk (B1.out.below hbx)
 replace HB:=aa.mk (HB.out.trans (hbx.mono HB.out.size))
 clear h0 h1 h2 hbx
 have h0:=B1.out.cell 0
 have h1:=B1.out.cell 1
 have h2:=B1.out.cell 2
 simp only[dZ,dY] at h0 h1 h2
 go_wp2_with fail
 refine(RI 150 #[.agg #[.int .i64 base,.slice A rows.length c,.slice Af fx.length cf]] #[] (enters Tryz.func150 (by kernel_rfl) rfl) (KZ rows.length m) Af cf fx w6 (H.out.below HB.out).kf (by omega) (λW x hW=>KY base x W (H.out.below (HB.out.trans (hW.mono HB.out.size))) hn1 (by omega) m HM.out (by omega))).mono ?_
 rw[agN.out]
 rintro e w7 ⟨rfl,hbx⟩
 replace B1:=aa.mk (B1.out.below hbx)
 replace HB:=aa.mk (HB.out.trans (hbx.mono HB.out.size))
 clear h0 h1 h2 hbx
 have h0:=B1.out.cell 0
 have h1:=B1.out.cell 1
 have h2:=B1.out.cell 2
 simp only[dZ,dY] at h0 h1 h2
 go_wp2_with fail
 go_ret
 exact⟨rfl,HB.out⟩
theorem LC.ok{w:World}{A:Option Addr}{c:Nat}{base:Int}{rows:List (List Int)}{Af:Option Addr}{cf:Nat}{fx:List dh}(hv:LC base rows fx)(h:Mk w A c rows Af cf fx):wE w A c base rows Af cf fx/\∀f ∈ fx,0<=f.f1/\f.f1<(rows.getD 0 []).length:=by
 have hb:=hv.b
 unfold aX at hb
 simp only[Bool.and_eq_true,decide_eq_true_eq] at hb
 refine⟨⟨h.kr,h.hc,h.kf,h.hcf,hb.1,hb.2,hv.n,hv.n1,λr hr=>?_,?_,λr hr x hx=>?_⟩,λf hf=>?_⟩
 .have:=List.all_eq_true.1 hv.row r hr
  unfold AO at this
  simp only[Bool.and_eq_true,beq_iff_eq] at this
  exact this.1
 .simpa using List.all_eq_true.1 hv.nar _ (mZ hv.n1)
 .have:=List.all_eq_true.1 hv.row r hr
  unfold AO at this
  simp only[Bool.and_eq_true] at this
  have:=List.all_eq_true.1 this.2 x hx
  unfold aX at this
  simp only[Bool.and_eq_true,decide_eq_true_eq] at this
  omega
 .have:=List.all_eq_true.1 hv.fix f hf
  unfold KZ aX at this
  simp only[Bool.and_eq_true,decide_eq_true_eq] at this
  omega
theorem D8{A:Option Addr}{c:Nat}{rows:List (List Int)}{Af:Option Addr}{cf:Nat}{fx:List dh}(base:Int)(w:World)(h:Mk w A c rows Af cf fx)(hv:LC base rows fx):
  Calls Tryz.prog 59 #[.agg #[.int .i64 base,.slice A rows.length c,.slice Af fx.length cf]] w λe w'=>∃gk mb,e= .returned (.tuple #[.pointer (some ⟨gk,0,none⟩),.int .i64 0])/\w.heap.size<=gk/\eX w gk mb base rows fx A c Af cf (λ_=>False) w':=by
 have H:=aa.mk h
 have HV:=aa.mk hv
 clear h hv
 go_enter Tryz.func59,Tryz.ntmps59
 have B1:=aa.mk (aV.new w [.int .i64 base,.slice A rows.length c,.slice Af fx.length cf] 37)
 have HB:=aa.mk (ae (Below.refl w.heap.size w) (.cells #[.int .i64 base,.slice A rows.length c,.slice Af fx.length cf] 37))
 have h0:=B1.out.cell 0
 have h1:=B1.out.cell 1
 have h2:=B1.out.cell 2
 simp only[dZ,dY] at h0 h1 h2
 go_wp2_with fail
 generalize w.alloc (.cells #[.int .i64 base,.slice A rows.length c,.slice Af fx.length cf] 37)=w1 at B1 HB h0 h1 h2 ⊢
 refine(Bt base w1 (H.out.below HB.out) HV.out).mono ?_
 rintro e w2 ⟨rfl,hbx⟩
 replace B1:=aa.mk (B1.out.below hbx)
 replace HB:=aa.mk (HB.out.trans (hbx.mono HB.out.size))
 clear h0 h1 h2 hbx
 have h0:=B1.out.cell 0
 have h1:=B1.out.cell 1
 have h2:=B1.out.cell 2
 simp only[dZ,dY] at h0 h1 h2
 have hmm:=@run_makeMap Tryz.prog
 go_wp2_with fail
 clear hmm h0 h1 h2
 go_ret2
 have hb2:=ae (ae HB.out (.map #[] 0)) (.cells #[.int .i64 base,.slice A rows.length c,.slice Af fx.length cf,.map (some w2.heap.size)] 274)
 have hm:=(heap_alloc_new w2 (.map #[] 0))
 have hs:=HB.out.size
 exact⟨w2.heap.size+1,w2.heap.size,rfl,by omega,aV.second w2 (.map #[] 0) [.int .i64 base,.slice A rows.length c,.slice Af fx.length cf,.map (some w2.heap.size)] 274,hb2,jE.new (ay hm _),hs,by omega,λb h=>h.elim⟩
theorem Gi(a b c:Value)(w:World):(Instr.field 167 (Value.agg #[a,b,c]) 0).run Tryz.prog w= .ok a w:=by
 unfold Instr.field
 simp only[Sem.run_bind,run_underlying Tryz.underlying167,Result.andThen_ok]
 simp[asAgg,part,isAgg,run_underlying Tryz.underlying3]
attribute [local go_sem] Gi
theorem Ih{A:Option Addr}{c:Nat}{rows:List (List Int)}{Af:Option Addr}{cf:Nat}{fx:List dh}(base:Int)(w:World)(h:Mk w A c rows Af cf fx)(hv:LC base rows fx):
  Calls Tryz.prog 14 #[.agg #[.int .i64 base,.slice A rows.length c,.slice Af fx.length cf]] w λe w'=>e= .returned (.tuple #[.int .i64 (fT base rows fx rows.length (λ_=>0)).1,.int .i64 0])/\Below w.heap.size w w':=by
 have H:=aa.mk h
 have HV:=aa.mk hv
 clear h hv
 obtain⟨rs,hrs⟩:∃r,fT base rows fx rows.length (λ_=>0)=r:=⟨_,rfl⟩
 have HRS:=aa.mk hrs
 rw[hrs]
 clear hrs
 go_enter Tryz.func14,Tryz.ntmps14
 have B1:=aa.mk (aV.new w [.int .i64 base,.slice A rows.length c,.slice Af fx.length cf] 37)
 have HB:=aa.mk (ae (Below.refl w.heap.size w) (.cells #[.int .i64 base,.slice A rows.length c,.slice Af fx.length cf] 37))
 have h0:=B1.out.cell 0
 have h1:=B1.out.cell 1
 have h2:=B1.out.cell 2
 simp only[dZ,dY] at h0 h1 h2
 go_wp2_with fail
 generalize w.alloc (.cells #[.int .i64 base,.slice A rows.length c,.slice Af fx.length cf] 37)=w1 at B1 HB h0 h1 h2 ⊢
 have H1:=aa.mk (H.out.below HB.out)
 have DL:=aa.mk (HV.out.ok H1.out)
 refine(D8 base w1 H1.out HV.out).mono ?_
 rintro e w2 ⟨gk,mb,rfl,hgk,hw⟩
 have hsz:=HB.out.size
 have HW:=aa.mk hw
 clear h0 h1 h2 hw
 have Xv:=aa.mk (show Calls Tryz.prog 60 #[.pointer (some ⟨gk,0,none⟩),.agg #[.int .i64 0,.int .i64 0,.int .i64 0,.int .i64 0,.int .i64 0]] w2 (wI w1 gk mb base rows fx A c Af cf (λ_=>False) w2 rs) by
  have:=Hm DL.out.1 DL.out.2 (by have:=HV.out.nf;omega) rows.length 0 (by omega) (λ_=>0) (λi=>by omega) (λi _=>rfl) _ w2 HW.out (λb h=>h.elim)
  rw[HRS.out] at this
  exact this)
 go_wp2_with fail
 refine Xv.out.mono ?_
 rintro e w3 ⟨v,rfl,hR,hW3,hK⟩
 obtain⟨A3,c3,rfl⟩:=Kd.di hR
 have HW3:=aa.mk hW3
 clear hR hW3 hK Xv
 unfold kT
 go_wp2_with fail
 go_ret2
 exact⟨rfl,HB.out.trans (HW3.out.b.mono HB.out.size)⟩
end Go.Proofs.YtdekaocdmjndaaaGreat
namespace Go.Proofs.YtdekaocdmjndaaaGreat.Wk
open Go.RowKit ah YtdekaocdmjndaaaGreatW.aj
def places(s:Nat):List Nat:=(List.range 8).filter (λn=>s.testBit n)
def eG(s n:Nat):Nat:=if s.testBit n then s-2^n else s
theorem Nv:∀s:Fin 256,bK.f 9 (s.1:Int)=some ((places s.1).map (λn:Nat=>(n:Int))):=by decide +kernel
theorem OD:∀s:Fin 256,∀n:Fin 8,Go.bits .andNot .i64 (s.1:Int) (wrap64 (2^n.1))=(eG s.1 n.1:Int):=by decide +kernel
theorem CK{s:Nat}(h:s<256):bK.f 9 (s:Int)=some ((places s).map (λn:Nat=>(n:Int))):=Nv ⟨s,h⟩
theorem Jg{s n:Nat}(h:s<256)(hn:n<8):Go.bits .andNot .i64 (s:Int) (wrap64 (2^n))=(eG s n:Int):=OD ⟨s,h⟩ ⟨n,hn⟩
theorem lF{s n:Nat}:n ∈ places s↔n<8/\s.testBit n=true:=by
 unfold places
 rw[List.mem_filter,List.mem_range]
theorem zi(s:Nat):(places s).length<=8:=by
 have:=List.length_filter_le (λn=>s.testBit n) (List.range 8)
 rwa [List.length_range] at this
theorem vT{s n:Nat}(h:n ∈ places s):eG s n<s:=by
 have hb:=(lF.1 h).2
 unfold eG
 rw[if_pos hb]
 have h1:0<2^n:=Nat.two_pow_pos n
 have h2:s≠0:=by
  rintro rfl
  simp at hb
 omega
def mJ(T:Nat->Nat->Int)(g:Nat->Nat->Int×Int)(at_ left:Nat)(OS:Int×Int)(n:Nat):Int×Int:=
 if T at_ n+(g n (eG left n)).1<OS.1 then(T at_ n+(g n (eG left n)).1,(n:Int)) else OS
def fT(T:Nat->Nat->Int):Nat->Nat->Nat->Int×Int
 |0,at_,_=>(T at_ 0,0)
 |f+1,at_,left=>if left=0 then(T at_ 0,0) else(places left).foldl (mJ T (fT T f) at_ left) (1048576,-1)
def rest(T:Nat->Nat->Int)(at_ left:Nat):Int×Int:=fT T left at_ left
theorem foldl_congr{α β:Type}{f g:β->α->β}(l:List α):∀(b:β),(∀b x,x ∈ l->f b x=g b x)->l.foldl f b=l.foldl g b:=by
 induction l with
 |nil=>intros;rfl
 |cons x l ih=>
  intro b h
  rw[List.foldl_cons,List.foldl_cons,h b x List.mem_cons_self]
  exact ih _ (λb y hy=>h b y (List.mem_cons_of_mem _ hy))
theorem ze(T:Nat->Nat->Int):∀(f g at_ left:Nat),left<=f->left<=g->fT T f at_ left=fT T g at_ left
 |0,0,_,_,_,_=>rfl
 |0,g+1,at_,left,h,_=>by
  obtain rfl:left=0:=by omega
  simp[fT]
 |f+1,0,at_,left,_,h=>by
  obtain rfl:left=0:=by omega
  simp[fT]
 |f+1,g+1,at_,left,h,h'=>by
  unfold fT
  by_cases e:left=0
  .rw[if_pos e,if_pos e]
  .rw[if_neg e,if_neg e]
   refine foldl_congr _ _ (λb n hn=>?_)
   unfold mJ
   have:=vT hn
   rw[ze T f g n (eG left n) (by omega) (by omega)]
theorem zb(T:Nat->Nat->Int)(at_ left:Nat)(h:left≠0):rest T at_ left=(places left).foldl (mJ T (rest T) at_ left) (1048576,-1):=by
 obtain⟨f,rfl⟩:∃f,left=f+1:=⟨left-1,by omega⟩
 unfold rest
 rw[fT,if_neg h]
 refine foldl_congr _ _ (λb n hn=>?_)
 unfold mJ
 have:=vT hn
 rw[ze T f (eG (f+1) n) n (eG (f+1) n) (by omega) (Nat.le_refl _)]
def kZ(T:Nat->Nat->Int):Prop:=∀i j,0<=T i j/\T i j<=1048576
def TB(T:Nat->Nat->Int)(at_ left:Nat)(l:List Nat)(b:Int×Int):Prop:=
 0<=b.1/\b.1<=1048576/\(b.1<1048576->∃n,n ∈ l/\b.2=(n:Int)/\T at_ n+(rest T n (eG left n)).1=b.1)
theorem uw{T:Nat->Nat->Int}(hT:kZ T)(at_ left:Nat)(hr:∀n,n ∈ places left->0<=(rest T n (eG left n)).1):∀(l pre:List Nat) (b:Int×Int),(∀n,n ∈ l->n ∈ places left)->TB T at_ left pre b->TB T at_ left (pre++l) (l.foldl (mJ T (rest T) at_ left) b)
 |[],pre,b,_,h=>by simpa using h
 |n::l,pre,b,hl,h=>by
  rw[List.foldl_cons,show pre++n::l=(pre++[n])++l by simp]
  refine uw hT at_ left hr l (pre++[n]) _ (λm hm=>hl m (List.mem_cons_of_mem _ hm)) ?_
  unfold mJ
  obtain⟨h1,h2,h3⟩:=h
  have h4:=hr n (hl n List.mem_cons_self)
  have h5:=hT at_ n
  by_cases e:T at_ n+(rest T n (eG left n)).1<b.1
  .rw[if_pos e]
   exact⟨by simp only;omega,by simp only;omega,λ_=>⟨n,by simp,rfl,rfl⟩⟩
  .rw[if_neg e]
   refine⟨h1,h2,λh=>?_⟩
   obtain⟨m,hm,hm2⟩:=h3 h
   exact⟨m,by simp[hm],hm2⟩
theorem IV{T:Nat->Nat->Int}(hT:kZ T):∀(k left at_:Nat),left<=k->0<=(rest T at_ left).1/\(rest T at_ left).1<=1048576
 |0,left,at_,h=>by
  obtain rfl:left=0:=by omega
  exact hT at_ 0
 |k+1,left,at_,h=>by
  by_cases e:left=0
  .subst e;exact hT at_ 0
  .rw[zb T at_ left e]
   have:=uw hT at_ left (λn hn=>(IV hT k _ n (by have:=vT hn;omega)).1) (places left) [] (1048576,-1) (λ_ h=>h) ⟨by simp only;omega,by simp only;omega,λh=>by simp at h⟩
   exact⟨this.1,this.2.1⟩
theorem jv{T:Nat->Nat->Int}(hT:kZ T)(at_ left:Nat):0<=(rest T at_ left).1/\(rest T at_ left).1<=1048576:=IV hT left left at_ (Nat.le_refl _)
theorem J6{T:Nat->Nat->Int}(hT:kZ T)(at_ left:Nat)(h0:left≠0)(h:(rest T at_ left).1<1048576):∃n,n ∈ places left/\(rest T at_ left).2=(n:Int)/\T at_ n+(rest T n (eG left n)).1=(rest T at_ left).1:=by
 have:=uw hT at_ left (λn hn=>(jv hT n _).1) (places left) [] (1048576,-1) (λ_ h=>h) ⟨by simp only;omega,by simp only;omega,λh=>by simp at h⟩
 rw[<- zb T at_ left h0] at this
 simpa using this.2.2 h
def rA(T:Nat->Nat->Int)(at_ left k:Nat):Int×Int:=((places left).take k).foldl (mJ T (rest T) at_ left) (1048576,-1)
theorem GL(T:Nat->Nat->Int)(at_ left k:Nat)(h:k<(places left).length):rA T at_ left (k+1)=mJ T (rest T) at_ left (rA T at_ left k) ((places left)[k]):=by
 unfold rA
 rw[List.take_succ_eq_append_getElem h,List.foldl_append]
 rfl
theorem Kt(T:Nat->Nat->Int)(at_ left:Nat)(h:left≠0):rA T at_ left (places left).length=rest T at_ left:=by
 unfold rA
 rw[List.take_length,zb T at_ left h]
theorem yT{R:List dJ}{N:Nat}(hR:∀r ∈ R,o6 N r):kZ (tm R N):=by
 intro i j
 unfold tm
 by_cases h:j<N
 .rw[if_pos h]
  exact tX hR j N i
 .rw[if_neg h]
  omega
end Go.Proofs.YtdekaocdmjndaaaGreat.Wk
