import Derived.Carry
import Derived.Test.YtkjoilgpmngndaaGreatQ33
set_option maxRecDepth 100000
set_option linter.all false
namespace Go.Proofs.YtkjoilgpmngndaaGreat
open Go.RowKit Go.Shelf au YtkjoilgpmngndaaGreatW.aj YtkjoilgpmngndaaGreatW.aJ
def PZ.T1:Bool×List (List Nat×List Nat):=(true,[([],[]),([0],[0]),([],[]),([2],[2]),([3],[3]),([4],[4]),([1,5],[1,5]),([6,6],[6]),([7],[7]),([8,7],[7,8]),([7],[7]),([10,7,7],[7,10]),([11,7],[7,11]),([9,12,11,7],[7,9,12]),([7,13],[7,13]),([14,13],[14]),([15],[15]),([16,15],[15,16]),([17,15,15],[15,17]),([15,18],[15,18]),([19,18,0,1,2,3,4,5,6,7,8,9,10,11,12,13,14,15,16,17,18,19],[19])])
def PZ.B1:List Nat:=[0,1,0,4,12,28,63,127,255,511,255,1279,3327,8191,16383,32767,65535,131071,262143,524287,1048575]
theorem PZ.Ji:dW .any (opsOf Tryz.f142 1)=PZ.T1:=by kernel_rfl
theorem PZ.Cq:bJ PZ.T1.2 PZ.B1=true:=by kernel_rfl
theorem Dp(n:Int)(w:World):Calls Tryz.prog 135 #[.int .i64 n] w λe w'=>e= .returned (.bool (aK n 0 10000))/\Below w.heap.size w w':=by
 refine(kM.calls n (aK n 0 10000) w ?_).mono ?_
 .unfold kM.f fB.f aK
  by_cases h:0<=n<;>simp[h]
 .rintro e w' ⟨h1,h2⟩
  exact⟨h1,h2.below⟩
theorem Dq(n:Int)(w:World):Calls Tryz.prog 145 #[.int .i64 n] w λe w'=>e= .returned (.bool (aK n 2 100))/\Below w.heap.size w w':=by
 refine(oq.calls n (aK n 2 100) w ?_).mono ?_
 .unfold oq.f fB.f aK
  by_cases h:2<=n<;>simp[h]
 .rintro e w' ⟨h1,h2⟩
  exact⟨h1,h2.below⟩
theorem Bw(n:Int)(w:World):Calls Tryz.prog 160 #[.int .i64 n] w λe w'=>e= .returned (.bool (aK n 0 10100))/\Below w.heap.size w w':=by
 go_enter Tryz.func160,Tryz.ntmps160
 go_wp2_with fail
 refine(nk n 0 10100 w).mono ?_
 rintro e w' ⟨rfl,hb⟩
 go_wp2_with fail
 go_ret
 exact⟨rfl,hb⟩
theorem ET(x:List Int)(A:Option Addr)(c:Nat)(w:World)(hx:(Kd.int .i64).C w A x.length x)(hc:x.length<=c):Calls Tryz.prog 144 #[.slice A x.length c] w λe w'=>e= .returned (.bool (decide (x.length<=4)))/\Below w.heap.size w w':=
 (oo.calls A c x (decide (x.length<=4)) w hx hc (by
  unfold oo.f
  congr 1
  rw[decide_eq_decide]
  omega)).mono λ_ _ h=>⟨h.1,h.2.below⟩
structure P6(w:World)(A:Option Addr)(c:Nat)(rows:List (List Int))(Af:Option Addr)(cf:Nat)(fx:List dN):Prop where
 kr:(Kd.slice 3 (Kd.int .i64)).C w A rows.length rows
 hc:rows.length<=c
 kf:Bt.C w Af fx.length fx
 hcf:fx.length<=cf
theorem P6.below{w w':World}{A:Option Addr}{c:Nat}{rows:List (List Int)}{Af:Option Addr}{cf:Nat}{fx:List dN}(h:P6 w A c rows Af cf fx)(hb:Below w.heap.size w w'):P6 w' A c rows Af cf fx:=⟨Kd.av h.kr hb,h.hc,Kd.av h.kf hb,h.hcf⟩
theorem nD{A:Option Addr}{c:Nat}{rows:List (List Int)}{Af:Option Addr}{cf:Nat}{fx:List dN}(base:Int)(w:World)(h:P6 w A c rows Af cf fx)(h1:0<rows.length)(m:Nat)(hm:(rows.getD 0 []).length=m):
  Calls Tryz.prog 146 #[.agg #[.int .i64 base,.slice A rows.length c,.slice Af fx.length cf]] w λe w'=>e= .returned (.int .i64 (m:Int))/\Below w.heap.size w w':=by
 subst hm
 refine gK.calls base A c rows Af cf fx _ w h.kr h.hc h.kf h.hcf ?_
 unfold gK.f
 rw[if_neg (by omega),if_pos (by omega)]
 rfl
def Dn(m:Nat)(x:List Int):Bool:=(x.length==m)&&x.all (λn=>aK n 0 10000)
def O1(n m:Nat)(f:dN):Bool:=aK f.f0 0 ((n:Int)-1)&&(aK f.f1 0 ((m:Int)-1)&&aK f.f2 0 10100)
theorem N8{A:Option Addr}{c:Nat}{rows:List (List Int)}{Af:Option Addr}{cf:Nat}{fx:List dN}(base:Int)(x:List Int)(Ax:Option Addr)(cx:Nat)(w:World)(h:P6 w A c rows Af cf fx)(h1:0<rows.length)(m:Nat)(hm:(rows.getD 0 []).length=m)(hx:(Kd.int .i64).C w Ax x.length x)(hcx:x.length<=cx):
  Calls Tryz.prog 141 #[.agg #[.int .i64 base,.slice A rows.length c,.slice Af fx.length cf],.slice Ax x.length cx] w λe w'=>e= .returned (.bool (Dn m x))/\Below w.heap.size w w':=by
 have H:=aa.mk h
 have HX:=aa.mk hx
 have HM:=aa.mk hm
 have hxm:=Kd.aeu hx
 clear h hx hm
 go_enter Tryz.func141,Tryz.ntmps141
 go_wp2_with fail
 have HB:=aa.mk (ae (Below.refl w.heap.size w) (.cells #[.int .i64 base,.slice A rows.length c,.slice Af fx.length cf] 110))
 refine(nD base _ (H.out.below HB.out) h1 m HM.out).mono ?_
 rintro e w2 ⟨rfl,hb⟩
 replace HB:=aa.mk (HB.out.trans (hb.mono HB.out.size))
 clear hb
 by_cases hl:x.length=m
 .have hlb:((x.length:Int)==(m:Int))=true:=by simp[hl]
  have HV:=aa.mk (show Dn m x=x.all (λn=>aK n 0 10000) by unfold Dn;rw[hl];simp)
  clear hl
  go_wp2_with fail
  refine(GV 135 #[] #[] (enters Tryz.func135 (by kernel_rfl) rfl) (λn=>aK n 0 10000) Ax cx x w2 (Kd.av HX.out HB.out) (by omega) (λW y hW=>Dp y W)).mono ?_
  rintro e w3 ⟨rfl,hb⟩
  replace HB:=aa.mk (HB.out.trans (hb.mono HB.out.size))
  clear hb
  go_wp2_with fail
  go_ret
  exact⟨by(rw[HV.out];rfl),HB.out⟩
 .have hlb:((x.length:Int)==(m:Int))=false:=by simpa using (show(x.length:Int)≠(m:Int) by omega)
  have HV:=aa.mk (show Dn m x=false by unfold Dn;rw[show(x.length==m)=false by simpa using hl];rfl)
  clear hl
  go_wp2_with fail
  go_ret
  exact⟨by(rw[HV.out];rfl),HB.out⟩
structure VJ(A:Option Addr)(c:Nat)(base:Int)(rows:List (List Int))(Af:Option Addr)(cf:Nat)(fx:List dN)(f0 f1 f2:Int)(w W:World):Prop where
 b2:aR W w.heap.size [.int .i64 base,.slice A rows.length c,.slice Af fx.length cf] 110
 b3:aR W (w.heap.size+1) [.int .i64 f0,.int .i64 f1,.int .i64 f2] 235
 t:P6 W A c rows Af cf fx
 b:Below w.heap.size w W
theorem VJ.below{A:Option Addr}{c:Nat}{base:Int}{rows:List (List Int)}{Af:Option Addr}{cf:Nat}{fx:List dN}{f0 f1 f2:Int}{w W W':World}(h:VJ A c base rows Af cf fx f0 f1 f2 w W)(hb:Below W.heap.size W W'):VJ A c base rows Af cf fx f0 f1 f2 w W':=⟨h.b2.below hb,h.b3.below hb,h.t.below hb,h.b.trans (hb.mono h.b.size)⟩
set_option maxHeartbeats 4000000 in
theorem O0{A:Option Addr}{c:Nat}{rows:List (List Int)}{Af:Option Addr}{cf:Nat}{fx:List dN}(base:Int)(x:dN)(w:World)(h:P6 w A c rows Af cf fx)(h1:0<rows.length)(hn:rows.length<=1000)(m:Nat)(hm:(rows.getD 0 []).length=m)(hm1:m<=1000):
  Calls Tryz.prog 142 #[.agg #[.int .i64 base,.slice A rows.length c,.slice Af fx.length cf],.agg #[.int .i64 x.f0,.int .i64 x.f1,.int .i64 x.f2]] w λe w'=>e= .returned (.bool (O1 rows.length m x))/\Below w.heap.size w w':=by
 obtain⟨f0,f1,f2⟩:=x
 have HM:=aa.mk hm
 have HF:=aa.mk (show VJ A c base rows Af cf fx f0 f1 f2 w ((w.alloc (.cells #[.int .i64 base,.slice A rows.length c,.slice Af fx.length cf] 110)).alloc (.cells #[.int .i64 f0,.int .i64 f1,.int .i64 f2] 235)) from
  ⟨(aR.new w [.int .i64 base,.slice A rows.length c,.slice Af fx.length cf] 110).alloc _,aR.second w _ [.int .i64 f0,.int .i64 f1,.int .i64 f2] 235,h.below (ae (ae (Below.refl _ _) _) _),ae (ae (Below.refl _ _) _) _⟩)
 clear h hm
 simp only
 go_enter Tryz.func142,Tryz.ntmps142
 go_wp2_with fail
 generalize(w.alloc (.cells #[.int .i64 base,.slice A rows.length c,.slice Af fx.length cf] 110)).alloc (.cells #[.int .i64 f0,.int .i64 f1,.int .i64 f2] 235)=w1 at HF ⊢
 obtain⟨b1,hb1⟩:∃b,aK f0 0 ((rows.length:Int)-1)=b:=⟨_,rfl⟩
 obtain⟨b2,hb2⟩:∃b,aK f1 0 ((m:Int)-1)=b:=⟨_,rfl⟩
 obtain⟨b3,hb3⟩:∃b,aK f2 0 10100=b:=⟨_,rfl⟩
 have HV:=aa.mk (show O1 rows.length m ⟨f0,f1,f2⟩=(b1&&(b2&&b3)) by rw[<- hb1,<- hb2,<- hb3];rfl)
 have HB1:=aa.mk (λ(W:World)=>hb1▸nk f0 0 ((rows.length:Int)-1) W:∀W,Calls Tryz.prog 136 #[.int .i64 f0,.int .i64 0,.int .i64 ((rows.length:Int)-1)] W λe w'=>e= .returned (.bool b1)/\Below W.heap.size W w')
 have HB2:=aa.mk (λ(W:World)=>hb2▸nk f1 0 ((m:Int)-1) W:∀W,Calls Tryz.prog 136 #[.int .i64 f1,.int .i64 0,.int .i64 ((m:Int)-1)] W λe w'=>e= .returned (.bool b2)/\Below W.heap.size W w')
 have HB3:=aa.mk (λ(W:World)=>hb3▸Bw f2 W:∀W,Calls Tryz.prog 160 #[.int .i64 f2] W λe w'=>e= .returned (.bool b3)/\Below W.heap.size W w')
 have hwn:IntKind.i64.wrap ((rows.length:Int)-1)=(rows.length:Int)-1:=by rw[dI];unfold wrap64;omega
 have hwm:IntKind.i64.wrap ((m:Int)-1)=(m:Int)-1:=by rw[dI];unfold wrap64;omega
 clear hb1 hb2 hb3 hn hm1
 cases b1
 .refine dB (n:=21) (S:=λw'=>w'.cell? ⟨w.heap.size,0,none⟩=some (.int .i64 base)/\w'.cell? ⟨w.heap.size,1,none⟩=some (.slice A rows.length c)/\w'.cell? ⟨w.heap.size,2,none⟩=some (.slice Af fx.length cf)/\w'.cell? ⟨w.heap.size+1,0,none⟩=some (.int .i64 f0)/\w'.cell? ⟨w.heap.size+1,1,none⟩=some (.int .i64 f1)/\w'.cell? ⟨w.heap.size+1,2,none⟩=some (.int .i64 f2)) (ds:=[6]) #[O,O,O,O,O,O,O,O,O,O,O,O,O,O,O,O,O,O,O,O,O] (by kernel_rfl) rfl rfl ⟨(by simpa using (HF.out).b2.cell 0),(by simpa using (HF.out).b2.cell 1),(by simpa using (HF.out).b2.cell 2),(by simpa using (HF.out).b3.cell 0),(by simpa using (HF.out).b3.cell 1),(by simpa using (HF.out).b3.cell 2)⟩ (λhHeld=>?_);refine bu PZ.Ji PZ.Cq (λak bN=>?_)
  replace HF:=aa.mk (HF.out.below (aM (Below.refl _ _)))
  generalize w1.drew=wd at HF hHeld ⊢
  refine aZ 0 5 #[I,O,O,O,O,O,O,O,O,O,O,O,O,O,O,O,O,O,O,O,O] ak (h:=?_)
  refine dG 1 6 #[I,I,O,O,O,O,O,O,O,O,O,O,O,O,O,O,O,O,O,O,O] ak bN hHeld (hy:=by(rintro w' ⟨s0,s1,s2,s3,s4,s5⟩;go_simp;with_reducible rfl)) (h:=?_)
  refine aZ 2 7 #[I,I,I,O,O,O,O,O,O,O,O,O,O,O,O,O,O,O,O,O,O] ak (h:=?_)
  refine dG 3 8 #[I,I,I,I,O,O,O,O,O,O,O,O,O,O,O,O,O,O,O,O,O] ak bN hHeld (hy:=by(rintro w' ⟨s0,s1,s2,s3,s4,s5⟩;go_simp;with_reducible rfl)) (h:=?_)
  refine aZ 4 9 #[I,I,I,I,I,O,O,O,O,O,O,O,O,O,O,O,O,O,O,O,O] ak (h:=?_)
  refine aZ 5 10 #[I,I,I,I,I,I,O,O,O,O,O,O,O,O,O,O,O,O,O,O,O] ak (h:=?_)
  refine dE (i:=6) (N:=some 11) #[I,I,I,I,I,I,I,O,O,O,O,O,O,O,O,O,O,O,O,O,O] rfl rfl (aI ak.out (by kernel_rfl)) (by decide) (λK hK=>?_)
  refine bW Tryz.func136 (by kernel_rfl) rfl #[.int .i64 f0,.int .i64 0,.int .i64 ((rows.length:Int)-1)] (by rfl) rfl rfl (by(try simp only[List.map_toArray,List.map_cons,List.map_nil]);rfl) ?_
  refine(HB1.out _).mono ?_
  rintro e_ w_ ⟨rfl,hbx⟩
  refine⟨_,rfl,hK.out _ _ ?_⟩
  clear hK K
  replace HF:=aa.mk (HF.out.below hbx)
  clear hbx
  refine iY ?_
  refine aZ 7 12 #[I,I,I,I,I,I,I,I,O,O,O,O,O,O,O,O,O,O,O,O,O] ak (h:=?_)
  refine pW (i:=8) (N:=some 13) (v:=undef) (a':=?_) #[I,I,I,I,I,I,I,I,I,O,O,O,O,O,O,O,O,O,O,O,O] rfl rfl (eF ak.out (by kernel_rfl)) (λ_ _ _ h=>h) (Or.inr ⟨by rfl,rfl⟩) ?_ ?_
  rotate_left
  .simp only[Act.put,sb0,sb1,dD,dI,dY]
   rfl
  refine pW (i:=9) (N:=some 14) (v:=undef) (a':=?_) #[I,I,I,I,I,I,I,I,I,I,O,O,O,O,O,O,O,O,O,O,O] rfl rfl (eF ak.out (by kernel_rfl)) (λ_ _ _ h=>h) (Or.inr ⟨by rfl,rfl⟩) ?_ ?_
  rotate_left
  .simp only[Act.put,sb0,sb1,dD,dI,dY]
   rfl
  refine pW (i:=10) (N:=some 15) (v:=undef) (a':=?_) #[I,I,I,I,I,I,I,I,I,I,I,O,O,O,O,O,O,O,O,O,O] rfl rfl (eF ak.out (by kernel_rfl)) (λ_ _ _ h=>h) (Or.inr ⟨by rfl,rfl⟩) ?_ ?_
  rotate_left
  .simp only[Act.put,sb0,sb1,dD,dI,dY]
   rfl
  refine pW (i:=11) (N:=some 16) (v:=undef) (a':=?_) #[I,I,I,I,I,I,I,I,I,I,I,I,O,O,O,O,O,O,O,O,O] rfl rfl (eF ak.out (by kernel_rfl)) (λ_ _ _ h=>h) (Or.inr ⟨by rfl,rfl⟩) ?_ ?_
  rotate_left
  .simp only[Act.put,sb0,sb1,dD,dI,dY]
   rfl
  refine pW (i:=12) (N:=some 17) (v:=undef) (a':=?_) #[I,I,I,I,I,I,I,I,I,I,I,I,I,O,O,O,O,O,O,O,O] rfl rfl (eF ak.out (by kernel_rfl)) (λ_ _ _ h=>h) (Or.inr ⟨by rfl,rfl⟩) ?_ ?_
  rotate_left
  .simp only[Act.put,sb0,sb1,dD,dI,dY]
   rfl
  refine pW (i:=13) (N:=some 18) (v:=undef) (a':=?_) #[I,I,I,I,I,I,I,I,I,I,I,I,I,I,O,O,O,O,O,O,O] rfl rfl (eF ak.out (by kernel_rfl)) (λ_ _ _ h=>h) (Or.inr ⟨by rfl,rfl⟩) ?_ ?_
  rotate_left
  .simp only[Act.put,sb0,sb1,dD,dI,dY]
   rfl
  refine aZ 14 19 #[I,I,I,I,I,I,I,I,I,I,I,I,I,I,I,O,O,O,O,O,O] ak (h:=?_)
  refine aZ 15 20 #[I,I,I,I,I,I,I,I,I,I,I,I,I,I,I,I,O,O,O,O,O] ak (h:=?_)
  refine pW (i:=16) (N:=some 21) (v:=undef) (a':=?_) #[I,I,I,I,I,I,I,I,I,I,I,I,I,I,I,I,I,O,O,O,O] rfl rfl (eF ak.out (by kernel_rfl)) (λ_ _ _ h=>h) (Or.inr ⟨by rfl,rfl⟩) ?_ ?_
  rotate_left
  .simp only[Act.put,sb0,sb1,dD,dI,dY]
   rfl
  refine pW (i:=17) (N:=some 22) (v:=undef) (a':=?_) #[I,I,I,I,I,I,I,I,I,I,I,I,I,I,I,I,I,I,O,O,O] rfl rfl (eF ak.out (by kernel_rfl)) (λ_ _ _ h=>h) (Or.inr ⟨by rfl,rfl⟩) ?_ ?_
  rotate_left
  .simp only[Act.put,sb0,sb1,dD,dI,dY]
   rfl
  refine pW (i:=18) (N:=some 23) (v:=undef) (a':=?_) #[I,I,I,I,I,I,I,I,I,I,I,I,I,I,I,I,I,I,I,O,O] rfl rfl (eF ak.out (by kernel_rfl)) (λ_ _ _ h=>h) (Or.inr ⟨by rfl,rfl⟩) ?_ ?_
  rotate_left
  .simp only[Act.put,sb0,sb1,dD,dI,dY]
   rfl
  refine aZ 19 24 #[I,I,I,I,I,I,I,I,I,I,I,I,I,I,I,I,I,I,I,I,O] ak (h:=?_)
  refine aZ 20 4 #[I,I,I,I,I,I,I,I,I,I,I,I,I,I,I,I,I,I,I,I,I] ak (h:=?_)
  refine dK (bG ak.out (by kernel_rfl)) ?_
  go_wp2_with fail
  go_ret
  exact⟨by(rw[HV.out];rfl),HF.out.b⟩
 cases b2
 .refine dB (n:=21) (S:=λw'=>w'.cell? ⟨w.heap.size,0,none⟩=some (.int .i64 base)/\w'.cell? ⟨w.heap.size,1,none⟩=some (.slice A rows.length c)/\w'.cell? ⟨w.heap.size,2,none⟩=some (.slice Af fx.length cf)/\w'.cell? ⟨w.heap.size+1,0,none⟩=some (.int .i64 f0)/\w'.cell? ⟨w.heap.size+1,1,none⟩=some (.int .i64 f1)/\w'.cell? ⟨w.heap.size+1,2,none⟩=some (.int .i64 f2)) (ds:=[13]) #[O,O,O,O,O,O,O,O,O,O,O,O,O,O,O,O,O,O,O,O,O] (by kernel_rfl) rfl rfl ⟨(by simpa using (HF.out).b2.cell 0),(by simpa using (HF.out).b2.cell 1),(by simpa using (HF.out).b2.cell 2),(by simpa using (HF.out).b3.cell 0),(by simpa using (HF.out).b3.cell 1),(by simpa using (HF.out).b3.cell 2)⟩ (λhHeld=>?_);refine bu PZ.Ji PZ.Cq (λak bN=>?_)
  replace HF:=aa.mk (HF.out.below (aM (Below.refl _ _)))
  generalize w1.drew=wd at HF hHeld ⊢
  refine aZ 0 5 #[I,O,O,O,O,O,O,O,O,O,O,O,O,O,O,O,O,O,O,O,O] ak (h:=?_)
  refine dG 1 6 #[I,I,O,O,O,O,O,O,O,O,O,O,O,O,O,O,O,O,O,O,O] ak bN hHeld (hy:=by(rintro w' ⟨s0,s1,s2,s3,s4,s5⟩;go_simp;with_reducible rfl)) (h:=?_)
  refine aZ 2 7 #[I,I,I,O,O,O,O,O,O,O,O,O,O,O,O,O,O,O,O,O,O] ak (h:=?_)
  refine dG 3 8 #[I,I,I,I,O,O,O,O,O,O,O,O,O,O,O,O,O,O,O,O,O] ak bN hHeld (hy:=by(rintro w' ⟨s0,s1,s2,s3,s4,s5⟩;go_simp;with_reducible rfl)) (h:=?_)
  refine aZ 4 9 #[I,I,I,I,I,O,O,O,O,O,O,O,O,O,O,O,O,O,O,O,O] ak (h:=?_)
  refine aZ 5 10 #[I,I,I,I,I,I,O,O,O,O,O,O,O,O,O,O,O,O,O,O,O] ak (h:=?_)
  refine dO (i:=6) (N:=some 11) #[I,I,I,I,I,I,I,O,O,O,O,O,O,O,O,O,O,O,O,O,O] rfl rfl (aI ak.out (by kernel_rfl)) (by decide) (λK hK=>?_)
  refine bW Tryz.func136 (by kernel_rfl) rfl #[.int .i64 f0,.int .i64 0,.int .i64 ((rows.length:Int)-1)] (by rfl) rfl rfl (by(try simp only[List.map_toArray,List.map_cons,List.map_nil]);rfl) ?_
  refine(HB1.out _).mono ?_
  rintro e_ w_ ⟨rfl,hbx⟩
  have e_:=HF.out.below hbx
  refine⟨_,rfl,hK.out _ _ ⟨(by simpa using e_.b2.cell 0),(by simpa using e_.b2.cell 1),(by simpa using e_.b2.cell 2),(by simpa using e_.b3.cell 0),(by simpa using e_.b3.cell 1),(by simpa using e_.b3.cell 2)⟩ (λhHeld=>?_)⟩
  clear hK K
  replace HF:=aa.mk (HF.out.below hbx)
  clear hbx
  refine iY ?_
  refine aZ 7 12 #[I,I,I,I,I,I,I,I,O,O,O,O,O,O,O,O,O,O,O,O,O] ak (h:=?_)
  refine aZ 8 13 #[I,I,I,I,I,I,I,I,I,O,O,O,O,O,O,O,O,O,O,O,O] ak (h:=?_)
  refine dG 9 14 #[I,I,I,I,I,I,I,I,I,I,O,O,O,O,O,O,O,O,O,O,O] ak bN hHeld (hy:=by(rintro w' ⟨s0,s1,s2,s3,s4,s5⟩;go_simp;with_reducible rfl)) (h:=?_)
  refine dG 10 15 #[I,I,I,I,I,I,I,I,I,I,I,O,O,O,O,O,O,O,O,O,O] ak bN hHeld (hy:=by(rintro w' ⟨s0,s1,s2,s3,s4,s5⟩;go_simp;with_reducible rfl)) (h:=?_)
  refine dO (i:=11) (N:=some 16) #[I,I,I,I,I,I,I,I,I,I,I,I,O,O,O,O,O,O,O,O,O] rfl rfl (aI ak.out (by kernel_rfl)) (by decide) (λK hK=>?_)
  refine bW Tryz.func146 (by kernel_rfl) rfl #[.agg #[.int .i64 base,.slice A rows.length c,.slice Af fx.length cf]] (by rfl) rfl rfl (by(try simp only[List.map_toArray,List.map_cons,List.map_nil]);rfl) ?_
  refine(nD base _ HF.out.t h1 m HM.out).mono ?_
  rintro e_ w_ ⟨rfl,hbx⟩
  have e_:=HF.out.below hbx
  refine⟨_,rfl,hK.out _ _ ⟨(by simpa using e_.b2.cell 0),(by simpa using e_.b2.cell 1),(by simpa using e_.b2.cell 2),(by simpa using e_.b3.cell 0),(by simpa using e_.b3.cell 1),(by simpa using e_.b3.cell 2)⟩ (λhHeld=>?_)⟩
  clear hK K
  replace HF:=aa.mk (HF.out.below hbx)
  clear hbx
  refine iY ?_
  refine aZ 12 17 #[I,I,I,I,I,I,I,I,I,I,I,I,I,O,O,O,O,O,O,O,O] ak (h:=?_)
  refine dE (i:=13) (N:=some 18) #[I,I,I,I,I,I,I,I,I,I,I,I,I,I,O,O,O,O,O,O,O] rfl rfl (aI ak.out (by kernel_rfl)) (by decide) (λK hK=>?_)
  refine bW Tryz.func136 (by kernel_rfl) rfl #[.int .i64 f1,.int .i64 0,.int .i64 ((m:Int)-1)] (by rfl) rfl rfl (by(try simp only[List.map_toArray,List.map_cons,List.map_nil]);rfl) ?_
  refine(HB2.out _).mono ?_
  rintro e_ w_ ⟨rfl,hbx⟩
  refine⟨_,rfl,hK.out _ _ ?_⟩
  clear hK K
  replace HF:=aa.mk (HF.out.below hbx)
  clear hbx
  refine iY ?_
  refine aZ 14 19 #[I,I,I,I,I,I,I,I,I,I,I,I,I,I,I,O,O,O,O,O,O] ak (h:=?_)
  refine aZ 15 20 #[I,I,I,I,I,I,I,I,I,I,I,I,I,I,I,I,O,O,O,O,O] ak (h:=?_)
  refine pW (i:=16) (N:=some 21) (v:=undef) (a':=?_) #[I,I,I,I,I,I,I,I,I,I,I,I,I,I,I,I,I,O,O,O,O] rfl rfl (eF ak.out (by kernel_rfl)) (λ_ _ _ h=>h) (Or.inr ⟨by rfl,rfl⟩) ?_ ?_
  rotate_left
  .simp only[Act.put,sb0,sb1,dD,dI,dY]
   rfl
  refine pW (i:=17) (N:=some 22) (v:=undef) (a':=?_) #[I,I,I,I,I,I,I,I,I,I,I,I,I,I,I,I,I,I,O,O,O] rfl rfl (eF ak.out (by kernel_rfl)) (λ_ _ _ h=>h) (Or.inr ⟨by rfl,rfl⟩) ?_ ?_
  rotate_left
  .simp only[Act.put,sb0,sb1,dD,dI,dY]
   rfl
  refine pW (i:=18) (N:=some 23) (v:=undef) (a':=?_) #[I,I,I,I,I,I,I,I,I,I,I,I,I,I,I,I,I,I,I,O,O] rfl rfl (eF ak.out (by kernel_rfl)) (λ_ _ _ h=>h) (Or.inr ⟨by rfl,rfl⟩) ?_ ?_
  rotate_left
  .simp only[Act.put,sb0,sb1,dD,dI,dY]
   rfl
  refine aZ 19 24 #[I,I,I,I,I,I,I,I,I,I,I,I,I,I,I,I,I,I,I,I,O] ak (h:=?_)
  refine aZ 20 4 #[I,I,I,I,I,I,I,I,I,I,I,I,I,I,I,I,I,I,I,I,I] ak (h:=?_)
  refine dK (bG ak.out (by kernel_rfl)) ?_
  go_wp2_with fail
  go_ret
  exact⟨by(rw[HV.out];rfl),HF.out.b⟩
 .refine dB (n:=21) (S:=λw'=>w'.cell? ⟨w.heap.size,0,none⟩=some (.int .i64 base)/\w'.cell? ⟨w.heap.size,1,none⟩=some (.slice A rows.length c)/\w'.cell? ⟨w.heap.size,2,none⟩=some (.slice Af fx.length cf)/\w'.cell? ⟨w.heap.size+1,0,none⟩=some (.int .i64 f0)/\w'.cell? ⟨w.heap.size+1,1,none⟩=some (.int .i64 f1)/\w'.cell? ⟨w.heap.size+1,2,none⟩=some (.int .i64 f2)) (ds:=[18]) #[O,O,O,O,O,O,O,O,O,O,O,O,O,O,O,O,O,O,O,O,O] (by kernel_rfl) rfl rfl ⟨(by simpa using (HF.out).b2.cell 0),(by simpa using (HF.out).b2.cell 1),(by simpa using (HF.out).b2.cell 2),(by simpa using (HF.out).b3.cell 0),(by simpa using (HF.out).b3.cell 1),(by simpa using (HF.out).b3.cell 2)⟩ (λhHeld=>?_);refine bu PZ.Ji PZ.Cq (λak bN=>?_)
  replace HF:=aa.mk (HF.out.below (aM (Below.refl _ _)))
  generalize w1.drew=wd at HF hHeld ⊢
  refine aZ 0 5 #[I,O,O,O,O,O,O,O,O,O,O,O,O,O,O,O,O,O,O,O,O] ak (h:=?_)
  refine dG 1 6 #[I,I,O,O,O,O,O,O,O,O,O,O,O,O,O,O,O,O,O,O,O] ak bN hHeld (hy:=by(rintro w' ⟨s0,s1,s2,s3,s4,s5⟩;go_simp;with_reducible rfl)) (h:=?_)
  refine aZ 2 7 #[I,I,I,O,O,O,O,O,O,O,O,O,O,O,O,O,O,O,O,O,O] ak (h:=?_)
  refine dG 3 8 #[I,I,I,I,O,O,O,O,O,O,O,O,O,O,O,O,O,O,O,O,O] ak bN hHeld (hy:=by(rintro w' ⟨s0,s1,s2,s3,s4,s5⟩;go_simp;with_reducible rfl)) (h:=?_)
  refine aZ 4 9 #[I,I,I,I,I,O,O,O,O,O,O,O,O,O,O,O,O,O,O,O,O] ak (h:=?_)
  refine aZ 5 10 #[I,I,I,I,I,I,O,O,O,O,O,O,O,O,O,O,O,O,O,O,O] ak (h:=?_)
  refine dO (i:=6) (N:=some 11) #[I,I,I,I,I,I,I,O,O,O,O,O,O,O,O,O,O,O,O,O,O] rfl rfl (aI ak.out (by kernel_rfl)) (by decide) (λK hK=>?_)
  refine bW Tryz.func136 (by kernel_rfl) rfl #[.int .i64 f0,.int .i64 0,.int .i64 ((rows.length:Int)-1)] (by rfl) rfl rfl (by(try simp only[List.map_toArray,List.map_cons,List.map_nil]);rfl) ?_
  refine(HB1.out _).mono ?_
  rintro e_ w_ ⟨rfl,hbx⟩
  have e_:=HF.out.below hbx
  refine⟨_,rfl,hK.out _ _ ⟨(by simpa using e_.b2.cell 0),(by simpa using e_.b2.cell 1),(by simpa using e_.b2.cell 2),(by simpa using e_.b3.cell 0),(by simpa using e_.b3.cell 1),(by simpa using e_.b3.cell 2)⟩ (λhHeld=>?_)⟩
  clear hK K
  replace HF:=aa.mk (HF.out.below hbx)
  clear hbx
  refine iY ?_
  refine aZ 7 12 #[I,I,I,I,I,I,I,I,O,O,O,O,O,O,O,O,O,O,O,O,O] ak (h:=?_)
  refine aZ 8 13 #[I,I,I,I,I,I,I,I,I,O,O,O,O,O,O,O,O,O,O,O,O] ak (h:=?_)
  refine dG 9 14 #[I,I,I,I,I,I,I,I,I,I,O,O,O,O,O,O,O,O,O,O,O] ak bN hHeld (hy:=by(rintro w' ⟨s0,s1,s2,s3,s4,s5⟩;go_simp;with_reducible rfl)) (h:=?_)
  refine dG 10 15 #[I,I,I,I,I,I,I,I,I,I,I,O,O,O,O,O,O,O,O,O,O] ak bN hHeld (hy:=by(rintro w' ⟨s0,s1,s2,s3,s4,s5⟩;go_simp;with_reducible rfl)) (h:=?_)
  refine dO (i:=11) (N:=some 16) #[I,I,I,I,I,I,I,I,I,I,I,I,O,O,O,O,O,O,O,O,O] rfl rfl (aI ak.out (by kernel_rfl)) (by decide) (λK hK=>?_)
  refine bW Tryz.func146 (by kernel_rfl) rfl #[.agg #[.int .i64 base,.slice A rows.length c,.slice Af fx.length cf]] (by rfl) rfl rfl (by(try simp only[List.map_toArray,List.map_cons,List.map_nil]);rfl) ?_
  refine(nD base _ HF.out.t h1 m HM.out).mono ?_
  rintro e_ w_ ⟨rfl,hbx⟩
  have e_:=HF.out.below hbx
  refine⟨_,rfl,hK.out _ _ ⟨(by simpa using e_.b2.cell 0),(by simpa using e_.b2.cell 1),(by simpa using e_.b2.cell 2),(by simpa using e_.b3.cell 0),(by simpa using e_.b3.cell 1),(by simpa using e_.b3.cell 2)⟩ (λhHeld=>?_)⟩
  clear hK K
  replace HF:=aa.mk (HF.out.below hbx)
  clear hbx
  refine iY ?_
  refine aZ 12 17 #[I,I,I,I,I,I,I,I,I,I,I,I,I,O,O,O,O,O,O,O,O] ak (h:=?_)
  refine dO (i:=13) (N:=some 18) #[I,I,I,I,I,I,I,I,I,I,I,I,I,I,O,O,O,O,O,O,O] rfl rfl (aI ak.out (by kernel_rfl)) (by decide) (λK hK=>?_)
  refine bW Tryz.func136 (by kernel_rfl) rfl #[.int .i64 f1,.int .i64 0,.int .i64 ((m:Int)-1)] (by rfl) rfl rfl (by(try simp only[List.map_toArray,List.map_cons,List.map_nil]);rfl) ?_
  refine(HB2.out _).mono ?_
  rintro e_ w_ ⟨rfl,hbx⟩
  have e_:=HF.out.below hbx
  refine⟨_,rfl,hK.out _ _ ⟨(by simpa using e_.b2.cell 0),(by simpa using e_.b2.cell 1),(by simpa using e_.b2.cell 2),(by simpa using e_.b3.cell 0),(by simpa using e_.b3.cell 1),(by simpa using e_.b3.cell 2)⟩ (λhHeld=>?_)⟩
  clear hK K
  replace HF:=aa.mk (HF.out.below hbx)
  clear hbx
  refine iY ?_
  refine aZ 14 19 #[I,I,I,I,I,I,I,I,I,I,I,I,I,I,I,O,O,O,O,O,O] ak (h:=?_)
  refine aZ 15 20 #[I,I,I,I,I,I,I,I,I,I,I,I,I,I,I,I,O,O,O,O,O] ak (h:=?_)
  refine aZ 16 21 #[I,I,I,I,I,I,I,I,I,I,I,I,I,I,I,I,I,O,O,O,O] ak (h:=?_)
  refine dG 17 22 #[I,I,I,I,I,I,I,I,I,I,I,I,I,I,I,I,I,I,O,O,O] ak bN hHeld (hy:=by(rintro w' ⟨s0,s1,s2,s3,s4,s5⟩;go_simp;with_reducible rfl)) (h:=?_)
  refine dE (i:=18) (N:=some 23) #[I,I,I,I,I,I,I,I,I,I,I,I,I,I,I,I,I,I,I,O,O] rfl rfl (aI ak.out (by kernel_rfl)) (by decide) (λK hK=>?_)
  refine bW Tryz.func160 (by kernel_rfl) rfl #[.int .i64 f2] (by rfl) rfl rfl (by(try simp only[List.map_toArray,List.map_cons,List.map_nil]);rfl) ?_
  refine(HB3.out _).mono ?_
  rintro e_ w_ ⟨rfl,hbx⟩
  refine⟨_,rfl,hK.out _ _ ?_⟩
  clear hK K
  replace HF:=aa.mk (HF.out.below hbx)
  clear hbx
  refine iY ?_
  refine aZ 19 24 #[I,I,I,I,I,I,I,I,I,I,I,I,I,I,I,I,I,I,I,I,O] ak (h:=?_)
  refine aZ 20 4 #[I,I,I,I,I,I,I,I,I,I,I,I,I,I,I,I,I,I,I,I,I] ak (h:=?_)
  refine dK (bG ak.out (by kernel_rfl)) ?_
  go_wp2_with fail
  go_ret
  exact⟨by(rw[HV.out];rfl),HF.out.b⟩
structure Py(base:Int)(rows:List (List Int))(fx:List dN):Prop where
 b:aK base 2 100=true
 n:rows.length<=5
 n1:0<rows.length
 m1:0<(rows.getD 0 []).length
 nar:rows.all (λx=>decide (x.length<=4))=true
 row:rows.all (Dn (rows.getD 0 []).length)=true
 nf:fx.length<=10
 fix:fx.all (O1 rows.length (rows.getD 0 []).length)=true
set_option maxHeartbeats 4000000 in
theorem DW{A:Option Addr}{c:Nat}{rows:List (List Int)}{Af:Option Addr}{cf:Nat}{fx:List dN}(base:Int)(w:World)(h:P6 w A c rows Af cf fx)(hv:Py base rows fx):
  Calls Tryz.prog 114 #[.agg #[.int .i64 base,.slice A rows.length c,.slice Af fx.length cf]] w λe w'=>e= .returned (.int .i64 0)/\Below w.heap.size w w':=by
 have H:=aa.mk h
 have HV:=aa.mk hv
 have hn:=hv.n
 have hn1:=hv.n1
 have hnf:=hv.nf
 have Tw:(rows.getD 0 []).length<=4:=by
  have:=List.all_eq_true.1 hv.nar _ (oQ hn1)
  simpa using this
 have hm1:=hv.m1
 obtain⟨m,hm⟩:∃m,(rows.getD 0 []).length=m:=⟨_,rfl⟩
 have HM:=aa.mk hm
 have Vu:=aa.mk (show rows.all (Dn m)=true by rw[<- hm];exact hv.row)
 have ajG:=aa.mk (show fx.all (O1 rows.length m)=true by rw[<- hm];exact hv.fix)
 rw[hm] at Tw hm1
 clear h hv hm
 go_enter Tryz.func114,Tryz.ntmps114
 go_wp2_with fail
 have B1:=aa.mk (aR.new w [.int .i64 base,.slice A rows.length c,.slice Af fx.length cf] 110)
 have HB:=aa.mk (ae (Below.refl w.heap.size w) (.cells #[.int .i64 base,.slice A rows.length c,.slice Af fx.length cf] 110))
 generalize w.alloc (.cells #[.int .i64 base,.slice A rows.length c,.slice Af fx.length cf] 110)=w1 at B1 HB ⊢
 have h0:=B1.out.cell 0
 have h1:=B1.out.cell 1
 have h2:=B1.out.cell 2
 simp only[eP,eO] at h0 h1 h2
 go_region
 clear h0 h1 h2
 replace B1:=aa.mk (B1.out.move rfl:aR w1.drew _ _ _)
 replace HB:=aa.mk (aM HB.out)
 generalize w1.drew=w2 at B1 HB ⊢
 have h0:=B1.out.cell 0
 have h1:=B1.out.cell 1
 have h2:=B1.out.cell 2
 simp only[eP,eO] at h0 h1 h2
 have c1:decide (5<(rows.length:Int))=false:=by simp;omega
 have c2:decide (10<(fx.length:Int))=false:=by simp;omega
 go_wp2_with fail
 refine(M9 144 #[] #[] (enters Tryz.func144 (by kernel_rfl) rfl) (λx=>decide (x.length<=4)) A c rows w2 (H.out.below HB.out).kr (by omega) (λW x Ax cx hW hx hcx=>ET x Ax cx W hx hcx)).mono ?_
 rw[HV.out.nar]
 rintro e w3 ⟨rfl,hbx⟩
 replace B1:=aa.mk (B1.out.below hbx)
 replace HB:=aa.mk (HB.out.trans (hbx.mono HB.out.size))
 clear h0 h1 h2 hbx
 have h0:=B1.out.cell 0
 have h1:=B1.out.cell 1
 have h2:=B1.out.cell 2
 simp only[eP,eO] at h0 h1 h2
 go_wp2_with fail
 refine(Dq base w3).mono ?_
 rw[HV.out.b]
 rintro e w4 ⟨rfl,hbx⟩
 replace B1:=aa.mk (B1.out.below hbx)
 replace HB:=aa.mk (HB.out.trans (hbx.mono HB.out.size))
 clear h0 h1 h2 hbx
 have h0:=B1.out.cell 0
 have h1:=B1.out.cell 1
 have h2:=B1.out.cell 2
 simp only[eP,eO] at h0 h1 h2
 have cm:((m:Int)==0)=false:=by simpa using (show(m:Int)≠0 by omega)
 go_wp2_with fail
 refine(nD base w4 (H.out.below HB.out) hn1 m HM.out).mono ?_
 rintro e w5 ⟨rfl,hbx⟩
 replace B1:=aa.mk (B1.out.below hbx)
 replace HB:=aa.mk (HB.out.trans (hbx.mono HB.out.size))
 clear h0 h1 h2 hbx
 have h0:=B1.out.cell 0
 have h1:=B1.out.cell 1
 have h2:=B1.out.cell 2
 simp only[eP,eO] at h0 h1 h2
 go_wp2_with fail
 refine(M9 141 #[.agg #[.int .i64 base,.slice A rows.length c,.slice Af fx.length cf]] #[] (enters Tryz.func141 (by kernel_rfl) rfl) (Dn m) A c rows w5 (H.out.below HB.out).kr (by omega) (λW x Ax cx hW hx hcx=>N8 base x Ax cx W (H.out.below (HB.out.trans (hW.mono HB.out.size))) hn1 m HM.out hx hcx)).mono ?_
 rw[Vu.out]
 rintro e w6 ⟨rfl,hbx⟩
 replace B1:=aa.mk (B1.out.below hbx)
 replace HB:=aa.mk (HB.out.trans (hbx.mono HB.out.size))
 clear h0 h1 h2 hbx
 have h0:=B1.out.cell 0
 have h1:=B1.out.cell 1
 have h2:=B1.out.cell 2
 simp only[eP,eO] at h0 h1 h2
 go_wp2_with fail
 refine(Vk 142 #[.agg #[.int .i64 base,.slice A rows.length c,.slice Af fx.length cf]] #[] (enters Tryz.func142 (by kernel_rfl) rfl) (O1 rows.length m) Af cf fx w6 (H.out.below HB.out).kf (by omega) (λW x hW=>O0 base x W (H.out.below (HB.out.trans (hW.mono HB.out.size))) hn1 (by omega) m HM.out (by omega))).mono ?_
 rw[ajG.out]
 rintro e w7 ⟨rfl,hbx⟩
 replace B1:=aa.mk (B1.out.below hbx)
 replace HB:=aa.mk (HB.out.trans (hbx.mono HB.out.size))
 clear h0 h1 h2 hbx
 have h0:=B1.out.cell 0
 have h1:=B1.out.cell 1
 have h2:=B1.out.cell 2
 simp only[eP,eO] at h0 h1 h2
 go_wp2_with fail
 go_ret
 exact⟨rfl,HB.out⟩
theorem Py.ok{w:World}{A:Option Addr}{c:Nat}{base:Int}{rows:List (List Int)}{Af:Option Addr}{cf:Nat}{fx:List dN}(hv:Py base rows fx)(h:P6 w A c rows Af cf fx):yl w A c base rows Af cf fx/\∀f ∈ fx,0<=f.f1/\f.f1<(rows.getD 0 []).length:=by
 have hb:=hv.b
 unfold aK at hb
 simp only[Bool.and_eq_true,decide_eq_true_eq] at hb
 refine⟨⟨h.kr,h.hc,h.kf,h.hcf,hb.1,hb.2,hv.n,hv.n1,λr hr=>?_,?_,λr hr x hx=>?_⟩,λf hf=>?_⟩
 .have:=List.all_eq_true.1 hv.row r hr
  unfold Dn at this
  simp only[Bool.and_eq_true,beq_iff_eq] at this
  exact this.1
 .simpa using List.all_eq_true.1 hv.nar _ (oQ hv.n1)
 .have:=List.all_eq_true.1 hv.row r hr
  unfold Dn at this
  simp only[Bool.and_eq_true] at this
  have:=List.all_eq_true.1 this.2 x hx
  unfold aK at this
  simp only[Bool.and_eq_true,decide_eq_true_eq] at this
  omega
 .have:=List.all_eq_true.1 hv.fix f hf
  unfold O1 aK at this
  simp only[Bool.and_eq_true,decide_eq_true_eq] at this
  omega
theorem GJ{A:Option Addr}{c:Nat}{rows:List (List Int)}{Af:Option Addr}{cf:Nat}{fx:List dN}(base:Int)(w:World)(h:P6 w A c rows Af cf fx)(hv:Py base rows fx):
  Calls Tryz.prog 82 #[.agg #[.int .i64 base,.slice A rows.length c,.slice Af fx.length cf]] w λe w'=>∃gk mb,e= .returned (.tuple #[.pointer (some ⟨gk,0,none⟩),.int .i64 0])/\w.heap.size<=gk/\gH w gk mb base rows fx A c Af cf (λ_=>False) w':=by
 have H:=aa.mk h
 have HV:=aa.mk hv
 clear h hv
 go_enter Tryz.func82,Tryz.ntmps82
 have B1:=aa.mk (aR.new w [.int .i64 base,.slice A rows.length c,.slice Af fx.length cf] 110)
 have HB:=aa.mk (ae (Below.refl w.heap.size w) (.cells #[.int .i64 base,.slice A rows.length c,.slice Af fx.length cf] 110))
 have h0:=B1.out.cell 0
 have h1:=B1.out.cell 1
 have h2:=B1.out.cell 2
 simp only[eP,eO] at h0 h1 h2
 go_wp2_with fail
 generalize w.alloc (.cells #[.int .i64 base,.slice A rows.length c,.slice Af fx.length cf] 110)=w1 at B1 HB h0 h1 h2 ⊢
 refine(DW base w1 (H.out.below HB.out) HV.out).mono ?_
 rintro e w2 ⟨rfl,hbx⟩
 replace B1:=aa.mk (B1.out.below hbx)
 replace HB:=aa.mk (HB.out.trans (hbx.mono HB.out.size))
 clear h0 h1 h2 hbx
 have h0:=B1.out.cell 0
 have h1:=B1.out.cell 1
 have h2:=B1.out.cell 2
 simp only[eP,eO] at h0 h1 h2
 have hmm:=@run_makeMap Tryz.prog
 go_wp2_with fail
 clear hmm h0 h1 h2
 go_ret2
 have hb2:=ae (ae HB.out (.map #[] 0)) (.cells #[.int .i64 base,.slice A rows.length c,.slice Af fx.length cf,.map (some w2.heap.size)] 215)
 have hm:=(heap_alloc_new w2 (.map #[] 0))
 have hs:=HB.out.size
 exact⟨w2.heap.size+1,w2.heap.size,rfl,by omega,aR.second w2 (.map #[] 0) [.int .i64 base,.slice A rows.length c,.slice Af fx.length cf,.map (some w2.heap.size)] 215,hb2,kI.new (ay hm _),hs,by omega,λb h=>h.elim⟩
theorem Ju(a b c:Value)(w:World):(Instr.field 178 (Value.agg #[a,b,c]) 0).run Tryz.prog w= .ok a w:=by
 unfold Instr.field
 simp only[Sem.run_bind,run_underlying Tryz.underlying178,Result.andThen_ok]
 simp[asAgg,part,isAgg,run_underlying Tryz.underlying3]
attribute [local go_sem] Ju
theorem K4{A:Option Addr}{c:Nat}{rows:List (List Int)}{Af:Option Addr}{cf:Nat}{fx:List dN}(base:Int)(w:World)(h:P6 w A c rows Af cf fx)(hv:Py base rows fx):
  Calls Tryz.prog 37 #[.agg #[.int .i64 base,.slice A rows.length c,.slice Af fx.length cf]] w λe w'=>e= .returned (.tuple #[.int .i64 (iE base rows fx rows.length (λ_=>0)).1,.int .i64 0])/\Below w.heap.size w w':=by
 have H:=aa.mk h
 have HV:=aa.mk hv
 clear h hv
 obtain⟨rs,hrs⟩:∃r,iE base rows fx rows.length (λ_=>0)=r:=⟨_,rfl⟩
 have HRS:=aa.mk hrs
 rw[hrs]
 clear hrs
 go_enter Tryz.func37,Tryz.ntmps37
 have B1:=aa.mk (aR.new w [.int .i64 base,.slice A rows.length c,.slice Af fx.length cf] 110)
 have HB:=aa.mk (ae (Below.refl w.heap.size w) (.cells #[.int .i64 base,.slice A rows.length c,.slice Af fx.length cf] 110))
 have h0:=B1.out.cell 0
 have h1:=B1.out.cell 1
 have h2:=B1.out.cell 2
 simp only[eP,eO] at h0 h1 h2
 go_wp2_with fail
 generalize w.alloc (.cells #[.int .i64 base,.slice A rows.length c,.slice Af fx.length cf] 110)=w1 at B1 HB h0 h1 h2 ⊢
 have H1:=aa.mk (H.out.below HB.out)
 have DU:=aa.mk (HV.out.ok H1.out)
 refine(GJ base w1 H1.out HV.out).mono ?_
 rintro e w2 ⟨gk,mb,rfl,hgk,hw⟩
 have hsz:=HB.out.size
 have HW:=aa.mk hw
 clear h0 h1 h2 hw
 have HFR:=aa.mk (show Calls Tryz.prog 83 #[.pointer (some ⟨gk,0,none⟩),.agg #[.int .i64 0,.int .i64 0,.int .i64 0,.int .i64 0,.int .i64 0]] w2 (yw w1 gk mb base rows fx A c Af cf (λ_=>False) w2 rs) by
  have:=KD DU.out.1 DU.out.2 (by have:=HV.out.nf;omega) rows.length 0 (by omega) (λ_=>0) (λi=>by omega) (λi _=>rfl) _ w2 HW.out (λb h=>h.elim)
  rw[HRS.out] at this
  exact this)
 go_wp2_with fail
 refine HFR.out.mono ?_
 rintro e w3 ⟨v,rfl,hR,hW3,hK⟩
 obtain⟨A3,c3,rfl⟩:=Kd.kP hR
 have HW3:=aa.mk hW3
 clear hR hW3 hK HFR
 unfold mr
 go_wp2_with fail
 go_ret2
 exact⟨rfl,HB.out.trans (HW3.out.b.mono HB.out.size)⟩
end Go.Proofs.YtkjoilgpmngndaaGreat
namespace Go.Proofs.YtkjoilgpmngndaaGreat
open Go.RowKit Go.Shelf au YtkjoilgpmngndaaGreatW.aj
set_option maxRecDepth 100000
def caS:List dQ:=[⟨0,0,1,⟨0,9⟩⟩,⟨0,1,1,⟨0,9⟩⟩]
theorem Zj:lY [7] 2 caS []=0:=by decide +kernel
theorem Zh:Nb [7] caS (λ_=>(4,3)):=by
 intro d hd
 have hd':d<1:=hd
 obtain rfl:d=0:=by omega
 exact⟨(0,⟨0,0,1,⟨0,9⟩⟩),(1,⟨0,1,1,⟨0,9⟩⟩),rfl,by decide,by decide,by decide,2,3,3,1,1,1,by constructor<;>decide⟩
theorem RH:kG caS (λ_=>(4,3)) [(7:Int)].length=[4,3]:=by decide +kernel
theorem RG:Nc caS 2 [4,3]:=by
 unfold Nc
 decide +kernel
theorem U7:Wk.nW [⟨1,2⟩] [] [0]=(2,0):=by decide +kernel
theorem U6:(iE 5 [[4,3]] [] 1 (λ_=>0)).1=3:=by decide +kernel
theorem Zi:Py 5 [[4,3]] []:=by constructor<;>decide +kernel
theorem PQ{w:World}{g:Nat}{t:TypeId}(h:aR w g [.int .i64 0,.int .i64 0,.int .i64 1,.int .i64 0,.int .i64 9,.int .i64 0,.int .i64 1,.int .i64 1,.int .i64 0,.int .i64 9] t):Bu.C w (some ⟨g,0,none⟩) 2 caS:=by
 refine⟨rfl,by decide,λ_=>⟨_,rfl,λj p hj=>?_⟩⟩
 match j,hj with
 |0,hj=>
  cases hj
  refine⟨_,rfl,Mw w _,λi u hu=>?_⟩
  match i,hu with
  |0,hu=>cases hu;exact h.cell 0
  |1,hu=>cases hu;exact h.cell 1
  |2,hu=>cases hu;exact h.cell 2
  |3,hu=>cases hu;exact h.cell 3
  |4,hu=>cases hu;exact h.cell 4
 |1,hj=>
  cases hj
  refine⟨_,rfl,Mw w _,λi u hu=>?_⟩
  match i,hu with
  |0,hu=>cases hu;exact h.cell 5
  |1,hu=>cases hu;exact h.cell 6
  |2,hu=>cases hu;exact h.cell 7
  |3,hu=>cases hu;exact h.cell 8
  |4,hu=>cases hu;exact h.cell 9
theorem Te{w:World}{g:Nat}{t:TypeId}(h:aR w g [.int .i64 1,.int .i64 2] t):CV.C w (some ⟨g,0,none⟩) 1 [⟨1,2⟩]:=by
 refine⟨rfl,by decide,λ_=>⟨_,rfl,λj p hj=>?_⟩⟩
 match j,hj with
 |0,hj=>
  cases hj
  refine⟨_,rfl,Yg w _,λi u hu=>?_⟩
  match i,hu with
  |0,hu=>cases hu;exact h.cell 0
  |1,hu=>cases hu;exact h.cell 1
theorem aet{w:World}{g:Nat}{a b:Int}{t:TypeId}(h:aR w g [.int .i64 a,.int .i64 b] t):(Kd.int .i64).C w (some ⟨g,0,none⟩) 2 [a,b]:=by
 refine⟨rfl,by decide,λ_=>⟨_,rfl,λj p hj=>?_⟩⟩
 match j,hj with
 |0,hj=>
  cases hj
  refine⟨[.int .i64 a],rfl,rfl,λi u hu=>?_⟩
  match i,hu with
  |0,hu=>cases hu;exact h.cell 0
 |1,hj=>
  cases hj
  refine⟨[.int .i64 b],rfl,rfl,λi u hu=>?_⟩
  match i,hu with
  |0,hu=>cases hu;exact h.cell 1
theorem VM{w:World}{g:Nat}{A:Option Addr}{n c:Nat}{xs:List Int}{t:TypeId}(h:aR w g [.slice A n c] t)(hn:xs.length=n)(hc:n<=c)(hx:(Kd.int .i64).C w A n xs):(Kd.slice 3 (Kd.int .i64)).C w (some ⟨g,0,none⟩) 1 [xs]:=by
 subst hn
 refine⟨rfl,by decide,λ_=>⟨_,rfl,λj p hj=>?_⟩⟩
 match j,hj with
 |0,hj=>
  cases hj
  refine⟨[.slice A xs.length c],rfl,⟨A,c,rfl,hc,hx⟩,λi u hu=>?_⟩
  match i,hu with
  |0,hu=>cases hu;exact h.cell 0
end Go.Proofs.YtkjoilgpmngndaaGreat
namespace Go.Proofs.YtkjoilgpmngndaaGreat
open Go.RowKit Go.Shelf au YtkjoilgpmngndaaGreatW.aj YtkjoilgpmngndaaGreatW.aJ
attribute [local go_sem] Oper.semAt_some
set_option maxHeartbeats 40000000 in
theorem jI(w:World):Calls Tryz.prog 7 #[] w λe w'=>e= .returned (.bool true)/\Below w.heap.size w w':=by
 go_enter Tryz.func7,Tryz.ntmps7
 go_wp2_with fail
 have HB:=aa.mk (ae (ae (Below.refl w.heap.size w) (.cells #[.int .i64 7] 3)) (.cells #[.int .i64 0,.int .i64 0,.int .i64 1,.int .i64 0,.int .i64 9,.int .i64 0,.int .i64 1,.int .i64 1,.int .i64 0,.int .i64 9] 105))
 have B0:=(aR.new w [.int .i64 7] 3).alloc (.cells #[.int .i64 0,.int .i64 0,.int .i64 1,.int .i64 0,.int .i64 9,.int .i64 0,.int .i64 1,.int .i64 1,.int .i64 0,.int .i64 9] 105)
 have B1:=aR.second w (.cells #[.int .i64 7] 3) [.int .i64 0,.int .i64 0,.int .i64 1,.int .i64 0,.int .i64 9,.int .i64 0,.int .i64 1,.int .i64 1,.int .i64 0,.int .i64 9] 105
 have HI:=aa.mk (show Nr ((w.alloc (.cells #[.int .i64 7] 3)).alloc (.cells #[.int .i64 0,.int .i64 0,.int .i64 1,.int .i64 0,.int .i64 9,.int .i64 0,.int .i64 1,.int .i64 1,.int .i64 0,.int .i64 9] 105)) (some ⟨w.heap.size,0,none⟩) 1 [7] (some ⟨w.heap.size+1,0,none⟩) 2 caS none 0 [] from⟨kN (B0.cell 0),by decide,PQ B1,by decide,Kd.NA _ _,by decide,by decide,by decide,by decide⟩)
 generalize(w.alloc (.cells #[.int .i64 7] 3)).alloc (.cells #[.int .i64 0,.int .i64 0,.int .i64 1,.int .i64 0,.int .i64 9,.int .i64 0,.int .i64 1,.int .i64 1,.int .i64 0,.int .i64 9] 105)=w1 at HB HI ⊢
 clear B0 B1
 have hsz1:=HB.out.size
 refine(IQ (nw:=2) HI.out Zj (λ_=>(4,3)) Zh (by rw[RH];exact RG)).mono ?_
 rintro e w2 ⟨⟨v1,v2,rfl,hr1,hr2⟩,hb2⟩
 rw[RH] at hr1 hr2
 have hr2':(Kd.int .i64).R 3 w2 w1.heap.size (λ_=>True) v2 [4,3]:=hr2
 obtain⟨gs,cs,rfl,_⟩:=Kd.zg hr1 (by decide)
 obtain⟨gd,cd,rfl,_⟩:=Kd.zg hr2' (by decide)
 obtain⟨hls,_,hCs⟩:=Kd.dL hr1
 obtain⟨hld,_,hCd⟩:=Kd.dL hr2'
 have HS:=aa.mk hCs
 have HD:=aa.mk hCd
 replace HB:=aa.mk (HB.out.trans (hb2.mono HB.out.size))
 simp only[List.length_cons,List.length_nil,Nat.zero_add,Nat.reduceAdd] at hls hld HS HD ⊢
 clear hb2 hr1 hr2 hr2' hCs hCd HI hsz1
 go_wp2_with fail
 have hb3:=ae (ae (Below.refl w2.heap.size w2) (.cells #[.int .i64 1,.int .i64 2] 88)) (.cells #[.int .i64 0] 3)
 have B0:=(aR.new w2 [.int .i64 1,.int .i64 2] 88).alloc (.cells #[.int .i64 0] 3)
 have B1:=aR.second w2 (.cells #[.int .i64 1,.int .i64 2] 88) [.int .i64 0] 3
 have HM:=aa.mk (show Wk.IsMap ((w2.alloc (.cells #[.int .i64 1,.int .i64 2] 88)).alloc (.cells #[.int .i64 0] 3)) (some ⟨w2.heap.size,0,none⟩) 1 [⟨1,2⟩] none 0 [] from⟨Te B0,by decide,Kd.NA _ _,by decide,by decide,by decide⟩)
 have HL:=aa.mk (show(Kd.int .i64).C ((w2.alloc (.cells #[.int .i64 1,.int .i64 2] 88)).alloc (.cells #[.int .i64 0] 3)) (some ⟨w2.heap.size+1,0,none⟩) [(0:Int)].length [0] from kN (B1.cell 0))
 replace HB:=aa.mk (HB.out.trans (hb3.mono HB.out.size))
 replace HS:=aa.mk (Kd.av HS.out hb3)
 replace HD:=aa.mk (Kd.av HD.out hb3)
 clear hb3 B0 B1
 generalize w2.heap.size=g2 at HM HL ⊢
 generalize(w2.alloc (.cells #[.int .i64 1,.int .i64 2] 88)).alloc (.cells #[.int .i64 0] 3)=w3 at HB HS HD HM HL ⊢
 refine(Wk.wM [0] HL.out (by decide) (by decide) HM.out).mono ?_
 rintro e w4 ⟨⟨a1,n1,d1,a2,n2,d2,rfl,hn1⟩,hb4⟩
 rw[U7] at hn1 ⊢
 obtain rfl:=hn1 rfl rfl
 replace HB:=aa.mk (HB.out.trans (hb4.mono HB.out.size))
 replace HS:=aa.mk (Kd.av HS.out hb4)
 replace HD:=aa.mk (Kd.av HD.out hb4)
 clear hb4 HM HL hn1
 go_wp2_with fail
 have hb5:=ae (ae (ae (Below.refl w4.heap.size w4) (.cells #[.slice a1 1 d1,.slice a2 n2 d2] 80)) (.cells #[.int .i64 4,.int .i64 3] 3)) (.cells #[.slice (some ⟨w4.heap.size+1,0,none⟩) 2 2] 22)
 have B0:=((aR.new w4 [.slice a1 1 d1,.slice a2 n2 d2] 80).alloc (.cells #[.int .i64 4,.int .i64 3] 3)).alloc (.cells #[.slice (some ⟨w4.heap.size+1,0,none⟩) 2 2] 22)
 have B1:=(aR.second w4 (.cells #[.slice a1 1 d1,.slice a2 n2 d2] 80) [.int .i64 4,.int .i64 3] 3).alloc (.cells #[.slice (some ⟨w4.heap.size+1,0,none⟩) 2 2] 22)
 have B2:=aR.second (w4.alloc (.cells #[.slice a1 1 d1,.slice a2 n2 d2] 80)) (.cells #[.int .i64 4,.int .i64 3] 3) [.slice (some ⟨w4.heap.size+1,0,none⟩) 2 2] 22
 rw[World.size_alloc] at B2
 have HT:=aa.mk (show P6 (((w4.alloc (.cells #[.slice a1 1 d1,.slice a2 n2 d2] 80)).alloc (.cells #[.int .i64 4,.int .i64 3] 3)).alloc (.cells #[.slice (some ⟨w4.heap.size+1,0,none⟩) 2 2] 22)) (some ⟨w4.heap.size+1+1,0,none⟩) 1 [[4,3]] none 0 [] from⟨VM (xs:=[4,3]) B2 rfl (by decide) (aet B1),by decide,Kd.NA _ _,by decide⟩)
 have BW:=aa.mk B0
 replace HB:=aa.mk (HB.out.trans (hb5.mono HB.out.size))
 replace HS:=aa.mk (Kd.av HS.out hb5)
 replace HD:=aa.mk (Kd.av HD.out hb5)
 clear hb5 B0 B1 B2
 generalize((w4.alloc (.cells #[.slice a1 1 d1,.slice a2 n2 d2] 80)).alloc (.cells #[.int .i64 4,.int .i64 3] 3)).alloc (.cells #[.slice (some ⟨w4.heap.size+1,0,none⟩) 2 2] 22)=w5 at HB HS HD HT BW ⊢
 generalize w4.heap.size=g4 at HT BW ⊢
 have HWA:=aa.mk (K4 5 w5 HT.out Zi)
 rw[show [[(4:Int),3]].length=1 from rfl,U6] at HWA
 refine HWA.out.mono ?_
 rintro e w6 ⟨rfl,hb6⟩
 replace HB:=aa.mk (HB.out.trans (hb6.mono HB.out.size))
 replace HS:=aa.mk (Kd.av HS.out hb6)
 replace HD:=aa.mk (Kd.av HD.out hb6)
 replace BW:=aa.mk (BW.out.below hb6)
 clear hb6 HT HWA
 obtain⟨sa,e,h0⟩:=Kd.cK HS.out 0 (by decide) (by decide)
 cases e
 obtain⟨ad,e,h1⟩:=Kd.cK HD.out 1 (by decide) (by decide)
 cases e
 replace h0:w6.cell? ⟨gs,0,none⟩=some (.int .i64 4):=h0
 replace h1:w6.cell? ⟨gd,1,none⟩=some (.int .i64 3):=h1
 have h2:=BW.out.cell 0
 simp only[List.getElem?_cons_zero] at h2
 go_wp2_with fail
 go_ret
 exact⟨rfl,HB.out⟩
end Go.Proofs.YtkjoilgpmngndaaGreat
