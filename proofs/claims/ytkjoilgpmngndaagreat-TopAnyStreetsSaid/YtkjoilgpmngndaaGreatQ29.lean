import Derived.Carry
import Derived.Test.YtkjoilgpmngndaaGreatQ28
set_option linter.all false
namespace Go.Proofs.YtkjoilgpmngndaaGreat
open Go.RowKit Go.Shelf Go.Proofs.YtkjoilgpmngndaaGreat.av Go.Proofs.YtkjoilgpmngndaaGreatW.aA Go.Proofs.YtkjoilgpmngndaaGreatW.aJ
def QY.T1:Bool×List (List Nat×List Nat):=(true,[([],[]),([0],[0]),([],[]),([2],[2]),([3],[3]),([4],[4]),([1,5],[1,5]),([6,6],[6]),([7],[7]),([8,7],[7,8]),([7],[7]),([10,7,7],[7,10]),([11,7],[7,11]),([9,12,11,7],[7,9,12]),([7,13],[7,13]),([14,13],[14]),([15],[15]),([16,15],[15,16]),([17,15,15],[15,17]),([15,18],[15,18]),([19,18,0,1,2,3,4,5,6,7,8,9,10,11,12,13,14,15,16,17,18,19],[19])])
def QY.B1:List Nat:=[0,1,0,4,12,28,63,127,255,511,255,1279,3327,8191,16383,32767,65535,131071,262143,524287,1048575]
theorem QY.Ri:eu .any (opsOf Tryz.f142 1)=QY.T1:=by kernel_rfl
theorem QY.KG:bO QY.T1.2 QY.B1=true:=by kernel_rfl
theorem Cn(n:Int)(w:World):Calls Tryz.prog 135 #[.int .i64 n] w fun e w'=>e= .returned (.bool (aY n 0 10000))/\Below w.heap.size w w':=by
 refine(kg.calls n (aY n 0 10000) w ?_).mono ?_
 .unfold kg.f eH.f aY
  by_cases h:0<=n<;>simp[h]
 .rintro e w' ⟨h1,h2⟩
  exact⟨h1,h2.below⟩
theorem Co(n:Int)(w:World):Calls Tryz.prog 145 #[.int .i64 n] w fun e w'=>e= .returned (.bool (aY n 2 100))/\Below w.heap.size w w':=by
 refine(nA.calls n (aY n 2 100) w ?_).mono ?_
 .unfold nA.f eH.f aY
  by_cases h:2<=n<;>simp[h]
 .rintro e w' ⟨h1,h2⟩
  exact⟨h1,h2.below⟩
theorem AO(n:Int)(w:World):Calls Tryz.prog 160 #[.int .i64 n] w fun e w'=>e= .returned (.bool (aY n 0 10100))/\Below w.heap.size w w':=by
 go_enter Tryz.func160,Tryz.ntmps160
 go_wp2_with fail
 refine(mF n 0 10100 w).mono ?_
 rintro e w' ⟨rfl,hb⟩
 go_wp2_with fail
 go_ret
 exact⟨rfl,hb⟩
theorem DR(x:List Int)(A:Option Addr)(c:Nat)(w:World)(hx:(Kd.int .i64).C w A x.length x)(hc:x.length<=c):Calls Tryz.prog 144 #[.slice A x.length c] w fun e w'=>e= .returned (.bool (decide (x.length<=4)))/\Below w.heap.size w w':=
 (ny.calls A c x (decide (x.length<=4)) w hx hc (by
  unfold ny.f
  congr 1
  rw[decide_eq_decide]
  omega)).mono fun _ _ h=>⟨h.1,h.2.below⟩
structure QZ(w:World)(A:Option Addr)(c:Nat)(rows:List (List Int))(Af:Option Addr)(cf:Nat)(fx:List dJ):Prop where
 kr:(Kd.slice 3 (Kd.int .i64)).C w A rows.length rows
 hc:rows.length<=c
 kf:AL.C w Af fx.length fx
 hcf:fx.length<=cf
theorem QZ.below{w w':World}{A:Option Addr}{c:Nat}{rows:List (List Int)}{Af:Option Addr}{cf:Nat}{fx:List dJ}(h:QZ w A c rows Af cf fx)(hb:Below w.heap.size w w'):QZ w' A c rows Af cf fx:=⟨Kd.aK h.kr hb,h.hc,Kd.aK h.kf hb,h.hcf⟩
theorem mH{A:Option Addr}{c:Nat}{rows:List (List Int)}{Af:Option Addr}{cf:Nat}{fx:List dJ}(base:Int)(w:World)(h:QZ w A c rows Af cf fx)(h1:0<rows.length)(m:Nat)(hm:(rows.getD 0 []).length=m):
  Calls Tryz.prog 146 #[.agg #[.int .i64 base,.slice A rows.length c,.slice Af fx.length cf]] w fun e w'=>e= .returned (.int .i64 (m:Int))/\Below w.heap.size w w':=by
 subst hm
 refine fV.calls base A c rows Af cf fx _ w h.kr h.hc h.kf h.hcf ?_
 unfold fV.f
 rw[if_neg (by omega),if_pos (by omega)]
 rfl
def Cm(m:Nat)(x:List Int):Bool:=(x.length==m)&&x.all (fun n=>aY n 0 10000)
def Qm(n m:Nat)(f:dJ):Bool:=aY f.f0 0 ((n:Int)-1)&&(aY f.f1 0 ((m:Int)-1)&&aY f.f2 0 10100)
set_option maxRecDepth 100000 in
theorem Pw{A:Option Addr}{c:Nat}{rows:List (List Int)}{Af:Option Addr}{cf:Nat}{fx:List dJ}(base:Int)(x:List Int)(Ax:Option Addr)(cx:Nat)(w:World)(h:QZ w A c rows Af cf fx)(h1:0<rows.length)(m:Nat)(hm:(rows.getD 0 []).length=m)(hx:(Kd.int .i64).C w Ax x.length x)(hcx:x.length<=cx):
  Calls Tryz.prog 141 #[.agg #[.int .i64 base,.slice A rows.length c,.slice Af fx.length cf],.slice Ax x.length cx] w fun e w'=>e= .returned (.bool (Cm m x))/\Below w.heap.size w w':=by
 have H:=aa.mk h
 have HX:=aa.mk hx
 have HM:=aa.mk hm
 have hxm:=Kd.afG hx
 clear h hx hm
 go_enter Tryz.func141,Tryz.ntmps141
 go_wp2_with fail
 have HB:=aa.mk (ae (Below.refl w.heap.size w) (.cells #[.int .i64 base,.slice A rows.length c,.slice Af fx.length cf] 110))
 refine(mH base _ (H.out.below HB.out) h1 m HM.out).mono ?_
 rintro e w2 ⟨rfl,hb⟩
 replace HB:=aa.mk (HB.out.trans (hb.mono HB.out.size))
 clear hb
 by_cases hl:x.length=m
 .have hlb:((x.length:Int)==(m:Int))=true:=by simp[hl]
  have HV:=aa.mk (show Cm m x=x.all (fun n=>aY n 0 10000) by unfold Cm;rw[hl];simp)
  clear hl
  go_wp2_with fail
  refine(Jz 135 #[] #[] (enters Tryz.func135 (by kernel_rfl) rfl) (fun n=>aY n 0 10000) Ax cx x w2 (Kd.aK HX.out HB.out) (by omega) (fun W y hW=>Cn y W)).mono ?_
  rintro e w3 ⟨rfl,hb⟩
  replace HB:=aa.mk (HB.out.trans (hb.mono HB.out.size))
  clear hb
  go_wp2_with fail
  go_ret
  exact⟨by(rw[HV.out];rfl),HB.out⟩
 .have hlb:((x.length:Int)==(m:Int))=false:=by simpa using (show(x.length:Int)≠(m:Int) by omega)
  have HV:=aa.mk (show Cm m x=false by unfold Cm;rw[show(x.length==m)=false by simpa using hl];rfl)
  clear hl
  go_wp2_with fail
  go_ret
  exact⟨by(rw[HV.out];rfl),HB.out⟩
structure Xy(A:Option Addr)(c:Nat)(base:Int)(rows:List (List Int))(Af:Option Addr)(cf:Nat)(fx:List dJ)(f0 f1 f2:Int)(w W:World):Prop where
 b2:aR W w.heap.size [.int .i64 base,.slice A rows.length c,.slice Af fx.length cf] 110
 b3:aR W (w.heap.size+1) [.int .i64 f0,.int .i64 f1,.int .i64 f2] 235
 t:QZ W A c rows Af cf fx
 b:Below w.heap.size w W
theorem Xy.below{A:Option Addr}{c:Nat}{base:Int}{rows:List (List Int)}{Af:Option Addr}{cf:Nat}{fx:List dJ}{f0 f1 f2:Int}{w W W':World}(h:Xy A c base rows Af cf fx f0 f1 f2 w W)(hb:Below W.heap.size W W'):Xy A c base rows Af cf fx f0 f1 f2 w W':=⟨h.b2.below hb,h.b3.below hb,h.t.below hb,h.b.trans (hb.mono h.b.size)⟩
set_option maxRecDepth 100000 in
set_option maxHeartbeats 4000000 in
theorem Ql{A:Option Addr}{c:Nat}{rows:List (List Int)}{Af:Option Addr}{cf:Nat}{fx:List dJ}(base:Int)(x:dJ)(w:World)(h:QZ w A c rows Af cf fx)(h1:0<rows.length)(hn:rows.length<=1000)(m:Nat)(hm:(rows.getD 0 []).length=m)(hm1:m<=1000):
  Calls Tryz.prog 142 #[.agg #[.int .i64 base,.slice A rows.length c,.slice Af fx.length cf],.agg #[.int .i64 x.f0,.int .i64 x.f1,.int .i64 x.f2]] w fun e w'=>e= .returned (.bool (Qm rows.length m x))/\Below w.heap.size w w':=by
 obtain⟨f0,f1,f2⟩:=x
 have HM:=aa.mk hm
 have HF:=aa.mk (show Xy A c base rows Af cf fx f0 f1 f2 w ((w.alloc (.cells #[.int .i64 base,.slice A rows.length c,.slice Af fx.length cf] 110)).alloc (.cells #[.int .i64 f0,.int .i64 f1,.int .i64 f2] 235)) from
  ⟨(aR.new w [.int .i64 base,.slice A rows.length c,.slice Af fx.length cf] 110).alloc _,aR.second w _ [.int .i64 f0,.int .i64 f1,.int .i64 f2] 235,h.below (ae (ae (Below.refl _ _) _) _),ae (ae (Below.refl _ _) _) _⟩)
 clear h hm
 simp only
 go_enter Tryz.func142,Tryz.ntmps142
 go_wp2_with fail
 generalize(w.alloc (.cells #[.int .i64 base,.slice A rows.length c,.slice Af fx.length cf] 110)).alloc (.cells #[.int .i64 f0,.int .i64 f1,.int .i64 f2] 235)=w1 at HF ⊢
 obtain⟨b1,hb1⟩:∃b,aY f0 0 ((rows.length:Int)-1)=b:=⟨_,rfl⟩
 obtain⟨b2,hb2⟩:∃b,aY f1 0 ((m:Int)-1)=b:=⟨_,rfl⟩
 obtain⟨b3,hb3⟩:∃b,aY f2 0 10100=b:=⟨_,rfl⟩
 have HV:=aa.mk (show Qm rows.length m ⟨f0,f1,f2⟩=(b1&&(b2&&b3)) by rw[<- hb1,<- hb2,<- hb3];rfl)
 have HB1:=aa.mk (fun(W:World)=>hb1▸mF f0 0 ((rows.length:Int)-1) W:∀W,Calls Tryz.prog 136 #[.int .i64 f0,.int .i64 0,.int .i64 ((rows.length:Int)-1)] W fun e w'=>e= .returned (.bool b1)/\Below W.heap.size W w')
 have HB2:=aa.mk (fun(W:World)=>hb2▸mF f1 0 ((m:Int)-1) W:∀W,Calls Tryz.prog 136 #[.int .i64 f1,.int .i64 0,.int .i64 ((m:Int)-1)] W fun e w'=>e= .returned (.bool b2)/\Below W.heap.size W w')
 have HB3:=aa.mk (fun(W:World)=>hb3▸AO f2 W:∀W,Calls Tryz.prog 160 #[.int .i64 f2] W fun e w'=>e= .returned (.bool b3)/\Below W.heap.size W w')
 have hwn:IntKind.i64.wrap ((rows.length:Int)-1)=(rows.length:Int)-1:=by rw[dL];unfold wrap64;omega
 have hwm:IntKind.i64.wrap ((m:Int)-1)=(m:Int)-1:=by rw[dL];unfold wrap64;omega
 clear hb1 hb2 hb3 hn hm1
 cases b1
 .refine gz (n:=21) (S:=fun w'=>w'.cell? ⟨w.heap.size,0,none⟩=some (.int .i64 base)/\w'.cell? ⟨w.heap.size,1,none⟩=some (.slice A rows.length c)/\w'.cell? ⟨w.heap.size,2,none⟩=some (.slice Af fx.length cf)/\w'.cell? ⟨w.heap.size+1,0,none⟩=some (.int .i64 f0)/\w'.cell? ⟨w.heap.size+1,1,none⟩=some (.int .i64 f1)/\w'.cell? ⟨w.heap.size+1,2,none⟩=some (.int .i64 f2)) (ds:=[6]) #[O,O,O,O,O,O,O,O,O,O,O,O,O,O,O,O,O,O,O,O,O] (by kernel_rfl) rfl rfl ⟨(by simpa using (HF.out).b2.cell 0),(by simpa using (HF.out).b2.cell 1),(by simpa using (HF.out).b2.cell 2),(by simpa using (HF.out).b3.cell 0),(by simpa using (HF.out).b3.cell 1),(by simpa using (HF.out).b3.cell 2)⟩ (fun hHeld=>?_);refine bK QY.Ri QY.KG (fun aC bW=>?_)
  replace HF:=aa.mk (HF.out.below (bG (Below.refl _ _)))
  generalize w1.drew=wd at HF hHeld ⊢
  refine bI 0 5 #[I,O,O,O,O,O,O,O,O,O,O,O,O,O,O,O,O,O,O,O,O] aC (h:=?_)
  refine eP 1 6 #[I,I,O,O,O,O,O,O,O,O,O,O,O,O,O,O,O,O,O,O,O] aC bW hHeld (hy:=by(rintro w' ⟨s0,s1,s2,s3,s4,s5⟩;go_simp;with_reducible rfl)) (h:=?_)
  refine bI 2 7 #[I,I,I,O,O,O,O,O,O,O,O,O,O,O,O,O,O,O,O,O,O] aC (h:=?_)
  refine eP 3 8 #[I,I,I,I,O,O,O,O,O,O,O,O,O,O,O,O,O,O,O,O,O] aC bW hHeld (hy:=by(rintro w' ⟨s0,s1,s2,s3,s4,s5⟩;go_simp;with_reducible rfl)) (h:=?_)
  refine bI 4 9 #[I,I,I,I,I,O,O,O,O,O,O,O,O,O,O,O,O,O,O,O,O] aC (h:=?_)
  refine bI 5 10 #[I,I,I,I,I,I,O,O,O,O,O,O,O,O,O,O,O,O,O,O,O] aC (h:=?_)
  refine dW (i:=6) (N:=some 11) #[I,I,I,I,I,I,I,O,O,O,O,O,O,O,O,O,O,O,O,O,O] rfl rfl (aN aC.out (by kernel_rfl)) (by decide) (fun K hK=>?_)
  refine fD Tryz.func136 (by kernel_rfl) rfl #[.int .i64 f0,.int .i64 0,.int .i64 ((rows.length:Int)-1)] (by rfl) rfl rfl (by(try simp only[List.map_toArray,List.map_cons,List.map_nil]);rfl) ?_
  refine(HB1.out _).mono ?_
  rintro e_ w_ ⟨rfl,hbx⟩
  refine⟨_,rfl,hK.out _ _ ?_⟩
  clear hK K
  replace HF:=aa.mk (HF.out.below hbx)
  clear hbx
  refine bF (by simp only[Act.put,List.setIfInBounds_toArray,List.set_cons_zero,List.set_cons_succ];rfl) ?_
  refine bI 7 12 #[I,I,I,I,I,I,I,I,O,O,O,O,O,O,O,O,O,O,O,O,O] aC (h:=?_)
  refine oO (i:=8) (N:=some 13) (v:=undef) (a':=?_) #[I,I,I,I,I,I,I,I,I,O,O,O,O,O,O,O,O,O,O,O,O] rfl rfl (dQ aC.out (by kernel_rfl)) (fun _ _ _ h=>h) (Or.inr ⟨by rfl,rfl⟩) ?_ ?_
  rotate_left
  .simp only[Act.put,List.setIfInBounds_toArray,List.set_cons_zero,List.set_cons_succ,dL,ed]
   rfl
  refine oO (i:=9) (N:=some 14) (v:=undef) (a':=?_) #[I,I,I,I,I,I,I,I,I,I,O,O,O,O,O,O,O,O,O,O,O] rfl rfl (dQ aC.out (by kernel_rfl)) (fun _ _ _ h=>h) (Or.inr ⟨by rfl,rfl⟩) ?_ ?_
  rotate_left
  .simp only[Act.put,List.setIfInBounds_toArray,List.set_cons_zero,List.set_cons_succ,dL,ed]
   rfl
  refine oO (i:=10) (N:=some 15) (v:=undef) (a':=?_) #[I,I,I,I,I,I,I,I,I,I,I,O,O,O,O,O,O,O,O,O,O] rfl rfl (dQ aC.out (by kernel_rfl)) (fun _ _ _ h=>h) (Or.inr ⟨by rfl,rfl⟩) ?_ ?_
  rotate_left
  .simp only[Act.put,List.setIfInBounds_toArray,List.set_cons_zero,List.set_cons_succ,dL,ed]
   rfl
  refine oO (i:=11) (N:=some 16) (v:=undef) (a':=?_) #[I,I,I,I,I,I,I,I,I,I,I,I,O,O,O,O,O,O,O,O,O] rfl rfl (dQ aC.out (by kernel_rfl)) (fun _ _ _ h=>h) (Or.inr ⟨by rfl,rfl⟩) ?_ ?_
  rotate_left
  .simp only[Act.put,List.setIfInBounds_toArray,List.set_cons_zero,List.set_cons_succ,dL,ed]
   rfl
  refine oO (i:=12) (N:=some 17) (v:=undef) (a':=?_) #[I,I,I,I,I,I,I,I,I,I,I,I,I,O,O,O,O,O,O,O,O] rfl rfl (dQ aC.out (by kernel_rfl)) (fun _ _ _ h=>h) (Or.inr ⟨by rfl,rfl⟩) ?_ ?_
  rotate_left
  .simp only[Act.put,List.setIfInBounds_toArray,List.set_cons_zero,List.set_cons_succ,dL,ed]
   rfl
  refine oO (i:=13) (N:=some 18) (v:=undef) (a':=?_) #[I,I,I,I,I,I,I,I,I,I,I,I,I,I,O,O,O,O,O,O,O] rfl rfl (dQ aC.out (by kernel_rfl)) (fun _ _ _ h=>h) (Or.inr ⟨by rfl,rfl⟩) ?_ ?_
  rotate_left
  .simp only[Act.put,List.setIfInBounds_toArray,List.set_cons_zero,List.set_cons_succ,dL,ed]
   rfl
  refine bI 14 19 #[I,I,I,I,I,I,I,I,I,I,I,I,I,I,I,O,O,O,O,O,O] aC (h:=?_)
  refine bI 15 20 #[I,I,I,I,I,I,I,I,I,I,I,I,I,I,I,I,O,O,O,O,O] aC (h:=?_)
  refine oO (i:=16) (N:=some 21) (v:=undef) (a':=?_) #[I,I,I,I,I,I,I,I,I,I,I,I,I,I,I,I,I,O,O,O,O] rfl rfl (dQ aC.out (by kernel_rfl)) (fun _ _ _ h=>h) (Or.inr ⟨by rfl,rfl⟩) ?_ ?_
  rotate_left
  .simp only[Act.put,List.setIfInBounds_toArray,List.set_cons_zero,List.set_cons_succ,dL,ed]
   rfl
  refine oO (i:=17) (N:=some 22) (v:=undef) (a':=?_) #[I,I,I,I,I,I,I,I,I,I,I,I,I,I,I,I,I,I,O,O,O] rfl rfl (dQ aC.out (by kernel_rfl)) (fun _ _ _ h=>h) (Or.inr ⟨by rfl,rfl⟩) ?_ ?_
  rotate_left
  .simp only[Act.put,List.setIfInBounds_toArray,List.set_cons_zero,List.set_cons_succ,dL,ed]
   rfl
  refine oO (i:=18) (N:=some 23) (v:=undef) (a':=?_) #[I,I,I,I,I,I,I,I,I,I,I,I,I,I,I,I,I,I,I,O,O] rfl rfl (dQ aC.out (by kernel_rfl)) (fun _ _ _ h=>h) (Or.inr ⟨by rfl,rfl⟩) ?_ ?_
  rotate_left
  .simp only[Act.put,List.setIfInBounds_toArray,List.set_cons_zero,List.set_cons_succ,dL,ed]
   rfl
  refine bI 19 24 #[I,I,I,I,I,I,I,I,I,I,I,I,I,I,I,I,I,I,I,I,O] aC (h:=?_)
  refine bI 20 4 #[I,I,I,I,I,I,I,I,I,I,I,I,I,I,I,I,I,I,I,I,I] aC (h:=?_)
  refine fF (bQ aC.out (by kernel_rfl)) ?_
  go_wp2_with fail
  go_ret
  exact⟨by(rw[HV.out];rfl),HF.out.b⟩
 cases b2
 .refine gz (n:=21) (S:=fun w'=>w'.cell? ⟨w.heap.size,0,none⟩=some (.int .i64 base)/\w'.cell? ⟨w.heap.size,1,none⟩=some (.slice A rows.length c)/\w'.cell? ⟨w.heap.size,2,none⟩=some (.slice Af fx.length cf)/\w'.cell? ⟨w.heap.size+1,0,none⟩=some (.int .i64 f0)/\w'.cell? ⟨w.heap.size+1,1,none⟩=some (.int .i64 f1)/\w'.cell? ⟨w.heap.size+1,2,none⟩=some (.int .i64 f2)) (ds:=[13]) #[O,O,O,O,O,O,O,O,O,O,O,O,O,O,O,O,O,O,O,O,O] (by kernel_rfl) rfl rfl ⟨(by simpa using (HF.out).b2.cell 0),(by simpa using (HF.out).b2.cell 1),(by simpa using (HF.out).b2.cell 2),(by simpa using (HF.out).b3.cell 0),(by simpa using (HF.out).b3.cell 1),(by simpa using (HF.out).b3.cell 2)⟩ (fun hHeld=>?_);refine bK QY.Ri QY.KG (fun aC bW=>?_)
  replace HF:=aa.mk (HF.out.below (bG (Below.refl _ _)))
  generalize w1.drew=wd at HF hHeld ⊢
  refine bI 0 5 #[I,O,O,O,O,O,O,O,O,O,O,O,O,O,O,O,O,O,O,O,O] aC (h:=?_)
  refine eP 1 6 #[I,I,O,O,O,O,O,O,O,O,O,O,O,O,O,O,O,O,O,O,O] aC bW hHeld (hy:=by(rintro w' ⟨s0,s1,s2,s3,s4,s5⟩;go_simp;with_reducible rfl)) (h:=?_)
  refine bI 2 7 #[I,I,I,O,O,O,O,O,O,O,O,O,O,O,O,O,O,O,O,O,O] aC (h:=?_)
  refine eP 3 8 #[I,I,I,I,O,O,O,O,O,O,O,O,O,O,O,O,O,O,O,O,O] aC bW hHeld (hy:=by(rintro w' ⟨s0,s1,s2,s3,s4,s5⟩;go_simp;with_reducible rfl)) (h:=?_)
  refine bI 4 9 #[I,I,I,I,I,O,O,O,O,O,O,O,O,O,O,O,O,O,O,O,O] aC (h:=?_)
  refine bI 5 10 #[I,I,I,I,I,I,O,O,O,O,O,O,O,O,O,O,O,O,O,O,O] aC (h:=?_)
  refine iC (i:=6) (N:=some 11) #[I,I,I,I,I,I,I,O,O,O,O,O,O,O,O,O,O,O,O,O,O] rfl rfl (aN aC.out (by kernel_rfl)) (by decide) (fun K hK=>?_)
  refine fD Tryz.func136 (by kernel_rfl) rfl #[.int .i64 f0,.int .i64 0,.int .i64 ((rows.length:Int)-1)] (by rfl) rfl rfl (by(try simp only[List.map_toArray,List.map_cons,List.map_nil]);rfl) ?_
  refine(HB1.out _).mono ?_
  rintro e_ w_ ⟨rfl,hbx⟩
  refine⟨_,rfl,hK.out _ _ ⟨(by simpa using (HF.out.below hbx).b2.cell 0),(by simpa using (HF.out.below hbx).b2.cell 1),(by simpa using (HF.out.below hbx).b2.cell 2),(by simpa using (HF.out.below hbx).b3.cell 0),(by simpa using (HF.out.below hbx).b3.cell 1),(by simpa using (HF.out.below hbx).b3.cell 2)⟩ (fun hHeld=>?_)⟩
  clear hK K
  replace HF:=aa.mk (HF.out.below hbx)
  clear hbx
  refine bF (by simp only[Act.put,List.setIfInBounds_toArray,List.set_cons_zero,List.set_cons_succ];rfl) ?_
  refine bI 7 12 #[I,I,I,I,I,I,I,I,O,O,O,O,O,O,O,O,O,O,O,O,O] aC (h:=?_)
  refine bI 8 13 #[I,I,I,I,I,I,I,I,I,O,O,O,O,O,O,O,O,O,O,O,O] aC (h:=?_)
  refine eP 9 14 #[I,I,I,I,I,I,I,I,I,I,O,O,O,O,O,O,O,O,O,O,O] aC bW hHeld (hy:=by(rintro w' ⟨s0,s1,s2,s3,s4,s5⟩;go_simp;with_reducible rfl)) (h:=?_)
  refine eP 10 15 #[I,I,I,I,I,I,I,I,I,I,I,O,O,O,O,O,O,O,O,O,O] aC bW hHeld (hy:=by(rintro w' ⟨s0,s1,s2,s3,s4,s5⟩;go_simp;with_reducible rfl)) (h:=?_)
  refine iC (i:=11) (N:=some 16) #[I,I,I,I,I,I,I,I,I,I,I,I,O,O,O,O,O,O,O,O,O] rfl rfl (aN aC.out (by kernel_rfl)) (by decide) (fun K hK=>?_)
  refine fD Tryz.func146 (by kernel_rfl) rfl #[.agg #[.int .i64 base,.slice A rows.length c,.slice Af fx.length cf]] (by rfl) rfl rfl (by(try simp only[List.map_toArray,List.map_cons,List.map_nil]);rfl) ?_
  refine(mH base _ HF.out.t h1 m HM.out).mono ?_
  rintro e_ w_ ⟨rfl,hbx⟩
  refine⟨_,rfl,hK.out _ _ ⟨(by simpa using (HF.out.below hbx).b2.cell 0),(by simpa using (HF.out.below hbx).b2.cell 1),(by simpa using (HF.out.below hbx).b2.cell 2),(by simpa using (HF.out.below hbx).b3.cell 0),(by simpa using (HF.out.below hbx).b3.cell 1),(by simpa using (HF.out.below hbx).b3.cell 2)⟩ (fun hHeld=>?_)⟩
  clear hK K
  replace HF:=aa.mk (HF.out.below hbx)
  clear hbx
  refine bF (by simp only[Act.put,List.setIfInBounds_toArray,List.set_cons_zero,List.set_cons_succ];rfl) ?_
  refine bI 12 17 #[I,I,I,I,I,I,I,I,I,I,I,I,I,O,O,O,O,O,O,O,O] aC (h:=?_)
  refine dW (i:=13) (N:=some 18) #[I,I,I,I,I,I,I,I,I,I,I,I,I,I,O,O,O,O,O,O,O] rfl rfl (aN aC.out (by kernel_rfl)) (by decide) (fun K hK=>?_)
  refine fD Tryz.func136 (by kernel_rfl) rfl #[.int .i64 f1,.int .i64 0,.int .i64 ((m:Int)-1)] (by rfl) rfl rfl (by(try simp only[List.map_toArray,List.map_cons,List.map_nil]);rfl) ?_
  refine(HB2.out _).mono ?_
  rintro e_ w_ ⟨rfl,hbx⟩
  refine⟨_,rfl,hK.out _ _ ?_⟩
  clear hK K
  replace HF:=aa.mk (HF.out.below hbx)
  clear hbx
  refine bF (by simp only[Act.put,List.setIfInBounds_toArray,List.set_cons_zero,List.set_cons_succ];rfl) ?_
  refine bI 14 19 #[I,I,I,I,I,I,I,I,I,I,I,I,I,I,I,O,O,O,O,O,O] aC (h:=?_)
  refine bI 15 20 #[I,I,I,I,I,I,I,I,I,I,I,I,I,I,I,I,O,O,O,O,O] aC (h:=?_)
  refine oO (i:=16) (N:=some 21) (v:=undef) (a':=?_) #[I,I,I,I,I,I,I,I,I,I,I,I,I,I,I,I,I,O,O,O,O] rfl rfl (dQ aC.out (by kernel_rfl)) (fun _ _ _ h=>h) (Or.inr ⟨by rfl,rfl⟩) ?_ ?_
  rotate_left
  .simp only[Act.put,List.setIfInBounds_toArray,List.set_cons_zero,List.set_cons_succ,dL,ed]
   rfl
  refine oO (i:=17) (N:=some 22) (v:=undef) (a':=?_) #[I,I,I,I,I,I,I,I,I,I,I,I,I,I,I,I,I,I,O,O,O] rfl rfl (dQ aC.out (by kernel_rfl)) (fun _ _ _ h=>h) (Or.inr ⟨by rfl,rfl⟩) ?_ ?_
  rotate_left
  .simp only[Act.put,List.setIfInBounds_toArray,List.set_cons_zero,List.set_cons_succ,dL,ed]
   rfl
  refine oO (i:=18) (N:=some 23) (v:=undef) (a':=?_) #[I,I,I,I,I,I,I,I,I,I,I,I,I,I,I,I,I,I,I,O,O] rfl rfl (dQ aC.out (by kernel_rfl)) (fun _ _ _ h=>h) (Or.inr ⟨by rfl,rfl⟩) ?_ ?_
  rotate_left
  .simp only[Act.put,List.setIfInBounds_toArray,List.set_cons_zero,List.set_cons_succ,dL,ed]
   rfl
  refine bI 19 24 #[I,I,I,I,I,I,I,I,I,I,I,I,I,I,I,I,I,I,I,I,O] aC (h:=?_)
  refine bI 20 4 #[I,I,I,I,I,I,I,I,I,I,I,I,I,I,I,I,I,I,I,I,I] aC (h:=?_)
  refine fF (bQ aC.out (by kernel_rfl)) ?_
  go_wp2_with fail
  go_ret
  exact⟨by(rw[HV.out];rfl),HF.out.b⟩
 .refine gz (n:=21) (S:=fun w'=>w'.cell? ⟨w.heap.size,0,none⟩=some (.int .i64 base)/\w'.cell? ⟨w.heap.size,1,none⟩=some (.slice A rows.length c)/\w'.cell? ⟨w.heap.size,2,none⟩=some (.slice Af fx.length cf)/\w'.cell? ⟨w.heap.size+1,0,none⟩=some (.int .i64 f0)/\w'.cell? ⟨w.heap.size+1,1,none⟩=some (.int .i64 f1)/\w'.cell? ⟨w.heap.size+1,2,none⟩=some (.int .i64 f2)) (ds:=[18]) #[O,O,O,O,O,O,O,O,O,O,O,O,O,O,O,O,O,O,O,O,O] (by kernel_rfl) rfl rfl ⟨(by simpa using (HF.out).b2.cell 0),(by simpa using (HF.out).b2.cell 1),(by simpa using (HF.out).b2.cell 2),(by simpa using (HF.out).b3.cell 0),(by simpa using (HF.out).b3.cell 1),(by simpa using (HF.out).b3.cell 2)⟩ (fun hHeld=>?_);refine bK QY.Ri QY.KG (fun aC bW=>?_)
  replace HF:=aa.mk (HF.out.below (bG (Below.refl _ _)))
  generalize w1.drew=wd at HF hHeld ⊢
  refine bI 0 5 #[I,O,O,O,O,O,O,O,O,O,O,O,O,O,O,O,O,O,O,O,O] aC (h:=?_)
  refine eP 1 6 #[I,I,O,O,O,O,O,O,O,O,O,O,O,O,O,O,O,O,O,O,O] aC bW hHeld (hy:=by(rintro w' ⟨s0,s1,s2,s3,s4,s5⟩;go_simp;with_reducible rfl)) (h:=?_)
  refine bI 2 7 #[I,I,I,O,O,O,O,O,O,O,O,O,O,O,O,O,O,O,O,O,O] aC (h:=?_)
  refine eP 3 8 #[I,I,I,I,O,O,O,O,O,O,O,O,O,O,O,O,O,O,O,O,O] aC bW hHeld (hy:=by(rintro w' ⟨s0,s1,s2,s3,s4,s5⟩;go_simp;with_reducible rfl)) (h:=?_)
  refine bI 4 9 #[I,I,I,I,I,O,O,O,O,O,O,O,O,O,O,O,O,O,O,O,O] aC (h:=?_)
  refine bI 5 10 #[I,I,I,I,I,I,O,O,O,O,O,O,O,O,O,O,O,O,O,O,O] aC (h:=?_)
  refine iC (i:=6) (N:=some 11) #[I,I,I,I,I,I,I,O,O,O,O,O,O,O,O,O,O,O,O,O,O] rfl rfl (aN aC.out (by kernel_rfl)) (by decide) (fun K hK=>?_)
  refine fD Tryz.func136 (by kernel_rfl) rfl #[.int .i64 f0,.int .i64 0,.int .i64 ((rows.length:Int)-1)] (by rfl) rfl rfl (by(try simp only[List.map_toArray,List.map_cons,List.map_nil]);rfl) ?_
  refine(HB1.out _).mono ?_
  rintro e_ w_ ⟨rfl,hbx⟩
  refine⟨_,rfl,hK.out _ _ ⟨(by simpa using (HF.out.below hbx).b2.cell 0),(by simpa using (HF.out.below hbx).b2.cell 1),(by simpa using (HF.out.below hbx).b2.cell 2),(by simpa using (HF.out.below hbx).b3.cell 0),(by simpa using (HF.out.below hbx).b3.cell 1),(by simpa using (HF.out.below hbx).b3.cell 2)⟩ (fun hHeld=>?_)⟩
  clear hK K
  replace HF:=aa.mk (HF.out.below hbx)
  clear hbx
  refine bF (by simp only[Act.put,List.setIfInBounds_toArray,List.set_cons_zero,List.set_cons_succ];rfl) ?_
  refine bI 7 12 #[I,I,I,I,I,I,I,I,O,O,O,O,O,O,O,O,O,O,O,O,O] aC (h:=?_)
  refine bI 8 13 #[I,I,I,I,I,I,I,I,I,O,O,O,O,O,O,O,O,O,O,O,O] aC (h:=?_)
  refine eP 9 14 #[I,I,I,I,I,I,I,I,I,I,O,O,O,O,O,O,O,O,O,O,O] aC bW hHeld (hy:=by(rintro w' ⟨s0,s1,s2,s3,s4,s5⟩;go_simp;with_reducible rfl)) (h:=?_)
  refine eP 10 15 #[I,I,I,I,I,I,I,I,I,I,I,O,O,O,O,O,O,O,O,O,O] aC bW hHeld (hy:=by(rintro w' ⟨s0,s1,s2,s3,s4,s5⟩;go_simp;with_reducible rfl)) (h:=?_)
  refine iC (i:=11) (N:=some 16) #[I,I,I,I,I,I,I,I,I,I,I,I,O,O,O,O,O,O,O,O,O] rfl rfl (aN aC.out (by kernel_rfl)) (by decide) (fun K hK=>?_)
  refine fD Tryz.func146 (by kernel_rfl) rfl #[.agg #[.int .i64 base,.slice A rows.length c,.slice Af fx.length cf]] (by rfl) rfl rfl (by(try simp only[List.map_toArray,List.map_cons,List.map_nil]);rfl) ?_
  refine(mH base _ HF.out.t h1 m HM.out).mono ?_
  rintro e_ w_ ⟨rfl,hbx⟩
  refine⟨_,rfl,hK.out _ _ ⟨(by simpa using (HF.out.below hbx).b2.cell 0),(by simpa using (HF.out.below hbx).b2.cell 1),(by simpa using (HF.out.below hbx).b2.cell 2),(by simpa using (HF.out.below hbx).b3.cell 0),(by simpa using (HF.out.below hbx).b3.cell 1),(by simpa using (HF.out.below hbx).b3.cell 2)⟩ (fun hHeld=>?_)⟩
  clear hK K
  replace HF:=aa.mk (HF.out.below hbx)
  clear hbx
  refine bF (by simp only[Act.put,List.setIfInBounds_toArray,List.set_cons_zero,List.set_cons_succ];rfl) ?_
  refine bI 12 17 #[I,I,I,I,I,I,I,I,I,I,I,I,I,O,O,O,O,O,O,O,O] aC (h:=?_)
  refine iC (i:=13) (N:=some 18) #[I,I,I,I,I,I,I,I,I,I,I,I,I,I,O,O,O,O,O,O,O] rfl rfl (aN aC.out (by kernel_rfl)) (by decide) (fun K hK=>?_)
  refine fD Tryz.func136 (by kernel_rfl) rfl #[.int .i64 f1,.int .i64 0,.int .i64 ((m:Int)-1)] (by rfl) rfl rfl (by(try simp only[List.map_toArray,List.map_cons,List.map_nil]);rfl) ?_
  refine(HB2.out _).mono ?_
  rintro e_ w_ ⟨rfl,hbx⟩
  refine⟨_,rfl,hK.out _ _ ⟨(by simpa using (HF.out.below hbx).b2.cell 0),(by simpa using (HF.out.below hbx).b2.cell 1),(by simpa using (HF.out.below hbx).b2.cell 2),(by simpa using (HF.out.below hbx).b3.cell 0),(by simpa using (HF.out.below hbx).b3.cell 1),(by simpa using (HF.out.below hbx).b3.cell 2)⟩ (fun hHeld=>?_)⟩
  clear hK K
  replace HF:=aa.mk (HF.out.below hbx)
  clear hbx
  refine bF (by simp only[Act.put,List.setIfInBounds_toArray,List.set_cons_zero,List.set_cons_succ];rfl) ?_
  refine bI 14 19 #[I,I,I,I,I,I,I,I,I,I,I,I,I,I,I,O,O,O,O,O,O] aC (h:=?_)
  refine bI 15 20 #[I,I,I,I,I,I,I,I,I,I,I,I,I,I,I,I,O,O,O,O,O] aC (h:=?_)
  refine bI 16 21 #[I,I,I,I,I,I,I,I,I,I,I,I,I,I,I,I,I,O,O,O,O] aC (h:=?_)
  refine eP 17 22 #[I,I,I,I,I,I,I,I,I,I,I,I,I,I,I,I,I,I,O,O,O] aC bW hHeld (hy:=by(rintro w' ⟨s0,s1,s2,s3,s4,s5⟩;go_simp;with_reducible rfl)) (h:=?_)
  refine dW (i:=18) (N:=some 23) #[I,I,I,I,I,I,I,I,I,I,I,I,I,I,I,I,I,I,I,O,O] rfl rfl (aN aC.out (by kernel_rfl)) (by decide) (fun K hK=>?_)
  refine fD Tryz.func160 (by kernel_rfl) rfl #[.int .i64 f2] (by rfl) rfl rfl (by(try simp only[List.map_toArray,List.map_cons,List.map_nil]);rfl) ?_
  refine(HB3.out _).mono ?_
  rintro e_ w_ ⟨rfl,hbx⟩
  refine⟨_,rfl,hK.out _ _ ?_⟩
  clear hK K
  replace HF:=aa.mk (HF.out.below hbx)
  clear hbx
  refine bF (by simp only[Act.put,List.setIfInBounds_toArray,List.set_cons_zero,List.set_cons_succ];rfl) ?_
  refine bI 19 24 #[I,I,I,I,I,I,I,I,I,I,I,I,I,I,I,I,I,I,I,I,O] aC (h:=?_)
  refine bI 20 4 #[I,I,I,I,I,I,I,I,I,I,I,I,I,I,I,I,I,I,I,I,I] aC (h:=?_)
  refine fF (bQ aC.out (by kernel_rfl)) ?_
  go_wp2_with fail
  go_ret
  exact⟨by(rw[HV.out];rfl),HF.out.b⟩
structure QE(base:Int)(rows:List (List Int))(fx:List dJ):Prop where
 b:aY base 2 100=true
 n:rows.length<=5
 n1:0<rows.length
 m1:0<(rows.getD 0 []).length
 nar:rows.all (fun x=>decide (x.length<=4))=true
 row:rows.all (Cm (rows.getD 0 []).length)=true
 nf:fx.length<=10
 fix:fx.all (Qm rows.length (rows.getD 0 []).length)=true
set_option maxRecDepth 100000 in
set_option maxHeartbeats 4000000 in
theorem CQ{A:Option Addr}{c:Nat}{rows:List (List Int)}{Af:Option Addr}{cf:Nat}{fx:List dJ}(base:Int)(w:World)(h:QZ w A c rows Af cf fx)(hv:QE base rows fx):
  Calls Tryz.prog 114 #[.agg #[.int .i64 base,.slice A rows.length c,.slice Af fx.length cf]] w fun e w'=>e= .returned (.int .i64 0)/\Below w.heap.size w w':=by
 have H:=aa.mk h
 have HV:=aa.mk hv
 have hn:=hv.n
 have hn1:=hv.n1
 have hnf:=hv.nf
 have UA:(rows.getD 0 []).length<=4:=by
  have:=List.all_eq_true.1 hv.nar _ (nQ hn1)
  simpa using this
 have hm1:=hv.m1
 obtain⟨m,hm⟩:∃m,(rows.getD 0 []).length=m:=⟨_,rfl⟩
 have HM:=aa.mk hm
 have ak3:=aa.mk (show rows.all (Cm m)=true by rw[<- hm];exact hv.row)
 have alv:=aa.mk (show fx.all (Qm rows.length m)=true by rw[<- hm];exact hv.fix)
 rw[hm] at UA hm1
 clear h hv hm
 go_enter Tryz.func114,Tryz.ntmps114
 go_wp2_with fail
 have B1:=aa.mk (aR.new w [.int .i64 base,.slice A rows.length c,.slice Af fx.length cf] 110)
 have HB:=aa.mk (ae (Below.refl w.heap.size w) (.cells #[.int .i64 base,.slice A rows.length c,.slice Af fx.length cf] 110))
 generalize w.alloc (.cells #[.int .i64 base,.slice A rows.length c,.slice Af fx.length cf] 110)=w1 at B1 HB ⊢
 have h0:=B1.out.cell 0
 have h1:=B1.out.cell 1
 have h2:=B1.out.cell 2
 simp only[List.getElem?_cons_zero,List.getElem?_cons_succ] at h0 h1 h2
 go_region
 clear h0 h1 h2
 replace B1:=aa.mk (B1.out.move rfl:aR w1.drew _ _ _)
 replace HB:=aa.mk (bG HB.out)
 generalize w1.drew=w2 at B1 HB ⊢
 have h0:=B1.out.cell 0
 have h1:=B1.out.cell 1
 have h2:=B1.out.cell 2
 simp only[List.getElem?_cons_zero,List.getElem?_cons_succ] at h0 h1 h2
 have c1:decide (5<(rows.length:Int))=false:=by simp;omega
 have c2:decide (10<(fx.length:Int))=false:=by simp;omega
 go_wp2_with fail
 refine(OS 144 #[] #[] (enters Tryz.func144 (by kernel_rfl) rfl) (fun x=>decide (x.length<=4)) A c rows w2 (H.out.below HB.out).kr (by omega) (fun W x Ax cx hW hx hcx=>DR x Ax cx W hx hcx)).mono ?_
 rw[HV.out.nar]
 rintro e w3 ⟨rfl,hbx⟩
 replace B1:=aa.mk (B1.out.below hbx)
 replace HB:=aa.mk (HB.out.trans (hbx.mono HB.out.size))
 clear h0 h1 h2 hbx
 have h0:=B1.out.cell 0
 have h1:=B1.out.cell 1
 have h2:=B1.out.cell 2
 simp only[List.getElem?_cons_zero,List.getElem?_cons_succ] at h0 h1 h2
 go_wp2_with fail
 refine(Co base w3).mono ?_
 rw[HV.out.b]
 rintro e w4 ⟨rfl,hbx⟩
 replace B1:=aa.mk (B1.out.below hbx)
 replace HB:=aa.mk (HB.out.trans (hbx.mono HB.out.size))
 clear h0 h1 h2 hbx
 have h0:=B1.out.cell 0
 have h1:=B1.out.cell 1
 have h2:=B1.out.cell 2
 simp only[List.getElem?_cons_zero,List.getElem?_cons_succ] at h0 h1 h2
 have cm:((m:Int)==0)=false:=by simpa using (show(m:Int)≠0 by omega)
 go_wp2_with fail
 refine(mH base w4 (H.out.below HB.out) hn1 m HM.out).mono ?_
 rintro e w5 ⟨rfl,hbx⟩
 replace B1:=aa.mk (B1.out.below hbx)
 replace HB:=aa.mk (HB.out.trans (hbx.mono HB.out.size))
 clear h0 h1 h2 hbx
 have h0:=B1.out.cell 0
 have h1:=B1.out.cell 1
 have h2:=B1.out.cell 2
 simp only[List.getElem?_cons_zero,List.getElem?_cons_succ] at h0 h1 h2
 go_wp2_with fail
 refine(OS 141 #[.agg #[.int .i64 base,.slice A rows.length c,.slice Af fx.length cf]] #[] (enters Tryz.func141 (by kernel_rfl) rfl) (Cm m) A c rows w5 (H.out.below HB.out).kr (by omega) (fun W x Ax cx hW hx hcx=>Pw base x Ax cx W (H.out.below (HB.out.trans (hW.mono HB.out.size))) hn1 m HM.out hx hcx)).mono ?_
 rw[ak3.out]
 rintro e w6 ⟨rfl,hbx⟩
 replace B1:=aa.mk (B1.out.below hbx)
 replace HB:=aa.mk (HB.out.trans (hbx.mono HB.out.size))
 clear h0 h1 h2 hbx
 have h0:=B1.out.cell 0
 have h1:=B1.out.cell 1
 have h2:=B1.out.cell 2
 simp only[List.getElem?_cons_zero,List.getElem?_cons_succ] at h0 h1 h2
 go_wp2_with fail
 refine(Xg 142 #[.agg #[.int .i64 base,.slice A rows.length c,.slice Af fx.length cf]] #[] (enters Tryz.func142 (by kernel_rfl) rfl) (Qm rows.length m) Af cf fx w6 (H.out.below HB.out).kf (by omega) (fun W x hW=>Ql base x W (H.out.below (HB.out.trans (hW.mono HB.out.size))) hn1 (by omega) m HM.out (by omega))).mono ?_
 rw[alv.out]
 rintro e w7 ⟨rfl,hbx⟩
 replace B1:=aa.mk (B1.out.below hbx)
 replace HB:=aa.mk (HB.out.trans (hbx.mono HB.out.size))
 clear h0 h1 h2 hbx
 have h0:=B1.out.cell 0
 have h1:=B1.out.cell 1
 have h2:=B1.out.cell 2
 simp only[List.getElem?_cons_zero,List.getElem?_cons_succ] at h0 h1 h2
 go_wp2_with fail
 go_ret
 exact⟨rfl,HB.out⟩
theorem QE.ok{w:World}{A:Option Addr}{c:Nat}{base:Int}{rows:List (List Int)}{Af:Option Addr}{cf:Nat}{fx:List dJ}(hv:QE base rows fx)(h:QZ w A c rows Af cf fx):xx w A c base rows Af cf fx/\∀f ∈ fx,0<=f.f1/\f.f1<(rows.getD 0 []).length:=by
 have hb:=hv.b
 unfold aY at hb
 simp only[Bool.and_eq_true,decide_eq_true_eq] at hb
 refine⟨⟨h.kr,h.hc,h.kf,h.hcf,hb.1,hb.2,hv.n,hv.n1,fun r hr=>?_,?_,fun r hr x hx=>?_⟩,fun f hf=>?_⟩
 .have:=List.all_eq_true.1 hv.row r hr
  unfold Cm at this
  simp only[Bool.and_eq_true,beq_iff_eq] at this
  exact this.1
 .simpa using List.all_eq_true.1 hv.nar _ (nQ hv.n1)
 .have:=List.all_eq_true.1 hv.row r hr
  unfold Cm at this
  simp only[Bool.and_eq_true] at this
  have:=List.all_eq_true.1 this.2 x hx
  unfold aY at this
  simp only[Bool.and_eq_true,decide_eq_true_eq] at this
  omega
 .have:=List.all_eq_true.1 hv.fix f hf
  unfold Qm aY at this
  simp only[Bool.and_eq_true,decide_eq_true_eq] at this
  omega
theorem Jp{A:Option Addr}{c:Nat}{rows:List (List Int)}{Af:Option Addr}{cf:Nat}{fx:List dJ}(base:Int)(w:World)(h:QZ w A c rows Af cf fx)(hv:QE base rows fx):
  Calls Tryz.prog 82 #[.agg #[.int .i64 base,.slice A rows.length c,.slice Af fx.length cf]] w fun e w'=>∃gk mb,e= .returned (.tuple #[.pointer (some ⟨gk,0,none⟩),.int .i64 0])/\w.heap.size<=gk/\fT w gk mb base rows fx A c Af cf (fun _=>False) w':=by
 have H:=aa.mk h
 have HV:=aa.mk hv
 clear h hv
 go_enter Tryz.func82,Tryz.ntmps82
 have B1:=aa.mk (aR.new w [.int .i64 base,.slice A rows.length c,.slice Af fx.length cf] 110)
 have HB:=aa.mk (ae (Below.refl w.heap.size w) (.cells #[.int .i64 base,.slice A rows.length c,.slice Af fx.length cf] 110))
 have h0:=B1.out.cell 0
 have h1:=B1.out.cell 1
 have h2:=B1.out.cell 2
 simp only[List.getElem?_cons_zero,List.getElem?_cons_succ] at h0 h1 h2
 go_wp2_with fail
 generalize w.alloc (.cells #[.int .i64 base,.slice A rows.length c,.slice Af fx.length cf] 110)=w1 at B1 HB h0 h1 h2 ⊢
 refine(CQ base w1 (H.out.below HB.out) HV.out).mono ?_
 rintro e w2 ⟨rfl,hbx⟩
 replace B1:=aa.mk (B1.out.below hbx)
 replace HB:=aa.mk (HB.out.trans (hbx.mono HB.out.size))
 clear h0 h1 h2 hbx
 have h0:=B1.out.cell 0
 have h1:=B1.out.cell 1
 have h2:=B1.out.cell 2
 simp only[List.getElem?_cons_zero,List.getElem?_cons_succ] at h0 h1 h2
 have hmm:=@run_makeMap Tryz.prog
 go_wp2_with fail
 clear hmm h0 h1 h2
 go_ret2
 have hb2:=ae (ae HB.out (.map #[] 0)) (.cells #[.int .i64 base,.slice A rows.length c,.slice Af fx.length cf,.map (some w2.heap.size)] 215)
 have hm:=(heap_alloc_new w2 (.map #[] 0))
 have hs:=HB.out.size
 exact⟨w2.heap.size+1,w2.heap.size,rfl,by omega,aR.second w2 (.map #[] 0) [.int .i64 base,.slice A rows.length c,.slice Af fx.length cf,.map (some w2.heap.size)] 215,hb2,jY.new (aQ hm _),hs,by omega,fun b h=>h.elim⟩
theorem LJ(a b c:Value)(w:World):(Instr.field 178 (Value.agg #[a,b,c]) 0).run Tryz.prog w= .ok a w:=by
 unfold Instr.field
 simp only[Sem.run_bind,run_underlying Tryz.underlying178,Result.andThen_ok]
 simp[asAgg,part,isAgg,run_underlying Tryz.underlying3]
attribute [local go_sem] LJ
set_option maxRecDepth 100000 in
theorem Nz{A:Option Addr}{c:Nat}{rows:List (List Int)}{Af:Option Addr}{cf:Nat}{fx:List dJ}(base:Int)(w:World)(h:QZ w A c rows Af cf fx)(hv:QE base rows fx):
  Calls Tryz.prog 37 #[.agg #[.int .i64 base,.slice A rows.length c,.slice Af fx.length cf]] w fun e w'=>e= .returned (.tuple #[.int .i64 (gV base rows fx rows.length (fun _=>0)).1,.int .i64 0])/\Below w.heap.size w w':=by
 have H:=aa.mk h
 have HV:=aa.mk hv
 clear h hv
 obtain⟨rs,hrs⟩:∃r,gV base rows fx rows.length (fun _=>0)=r:=⟨_,rfl⟩
 have HRS:=aa.mk hrs
 rw[hrs]
 clear hrs
 go_enter Tryz.func37,Tryz.ntmps37
 have B1:=aa.mk (aR.new w [.int .i64 base,.slice A rows.length c,.slice Af fx.length cf] 110)
 have HB:=aa.mk (ae (Below.refl w.heap.size w) (.cells #[.int .i64 base,.slice A rows.length c,.slice Af fx.length cf] 110))
 have h0:=B1.out.cell 0
 have h1:=B1.out.cell 1
 have h2:=B1.out.cell 2
 simp only[List.getElem?_cons_zero,List.getElem?_cons_succ] at h0 h1 h2
 go_wp2_with fail
 generalize w.alloc (.cells #[.int .i64 base,.slice A rows.length c,.slice Af fx.length cf] 110)=w1 at B1 HB h0 h1 h2 ⊢
 have H1:=aa.mk (H.out.below HB.out)
 have IC:=aa.mk (HV.out.ok H1.out)
 refine(Jp base w1 H1.out HV.out).mono ?_
 rintro e w2 ⟨gk,mb,rfl,hgk,hw⟩
 have hsz:=HB.out.size
 have HW:=aa.mk hw
 clear h0 h1 h2 hw
 have HFR:=aa.mk (show Calls Tryz.prog 83 #[.pointer (some ⟨gk,0,none⟩),.agg #[.int .i64 0,.int .i64 0,.int .i64 0,.int .i64 0,.int .i64 0]] w2 (xE w1 gk mb base rows fx A c Af cf (fun _=>False) w2 rs) by
  have:=M7 IC.out.1 IC.out.2 (by have:=HV.out.nf;omega) rows.length 0 (by omega) (fun _=>0) (fun i=>by omega) (fun i _=>rfl) _ w2 HW.out (fun b h=>h.elim)
  rw[HRS.out] at this
  exact this)
 go_wp2_with fail
 refine HFR.out.mono ?_
 rintro e w3 ⟨v,rfl,hR,hW3,hK⟩
 obtain⟨A3,c3,rfl⟩:=Kd.pq hR
 have HW3:=aa.mk hW3
 clear hR hW3 hK HFR
 unfold lG
 go_wp2_with fail
 go_ret2
 exact⟨rfl,HB.out.trans (HW3.out.b.mono HB.out.size)⟩
end Go.Proofs.YtkjoilgpmngndaaGreat
