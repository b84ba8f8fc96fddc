import Derived.Deep.WholeRow
import Derived.Laws.CopyRow
import Derived.Test.YtdekaocdmjndaaaGreatQ16
set_option maxRecDepth 100000
set_option linter.all false
namespace Go.Proofs.YtdekaocdmjndaaaGreat
open Go.RowKit Go.Shelf ah YtdekaocdmjndaaaGreatW.aj YtdekaocdmjndaaaGreatW.aH Ag
attribute [local go_sem] Oper.semAt_some
def PX.T3:Bool×List (List Nat×List Nat):=(true,[([],[]),([],[]),([1],[1]),([0,2],[0,2]),([3],[3]),([4],[4]),([],[]),([],[]),([5,6,7,0],[5,6,7]),([8,8,0,1,2,3,4,5,6,7,8],[8])])
def PX.B3:List Nat:=[0,0,2,7,15,31,0,0,255,511]
theorem PX.Qp:eB .any (opsOf Tryz.f275 3)=PX.T3:=by kernel_rfl
theorem PX.Jl:bI PX.T3.2 PX.B3=true:=by kernel_rfl
theorem oZ(n lo hi:Int)(w:World):Calls Tryz.prog 92 #[.int .i64 n,.int .i64 lo,.int .i64 hi] w λe w'=>e= .returned (.bool (oW n lo hi))/\Below w.heap.size w w':=by
 refine(jD.calls n lo hi (oW n lo hi) w ?_).mono ?_
 .unfold jD.f oW
  by_cases h:lo<=n<;>simp[h]
 .rintro e w' ⟨h1,h2⟩
  exact⟨h1,h2.below⟩
theorem De(n:Int)(w:World):Calls Tryz.prog 78 #[.int .i64 n] w λe w'=>e= .returned (.bool (oW n (-50000) 50000))/\Below w.heap.size w w':=by
 refine(sU.calls n (oW n (-50000) 50000) w ?_).mono ?_
 .unfold sU.f jD.f oW
  by_cases h: -50000<=n<;>simp[h]
 .rintro e w' ⟨h1,h2⟩
  exact⟨h1,h2.below⟩
theorem xn(n:Int)(w:World):Calls Tryz.prog 163 #[.int .i64 n] w λe w'=>e= .returned (.bool (oW n 0 140))/\Below w.heap.size w w':=by
 go_enter Tryz.func163,Tryz.ntmps163
 go_wp2_with fail
 refine(oZ n 0 140 w).mono ?_
 rintro e w' ⟨rfl,hb⟩
 go_wp2_with fail
 go_ret
 exact⟨rfl,hb⟩
theorem qK(g:Nat)(x y:Int)(w:World)(hx:w.cell? ⟨g,0,none⟩=some (.int .i64 x))(hy:w.cell? ⟨g,1,none⟩=some (.int .i64 y)):
  Calls Tryz.prog 81 #[.slice (some ⟨g,0,none⟩) 2 2] w λe w'=>e= .returned (.int .i64 (min x y))/\w'=w:=by
 go_enter Tryz.func81,Tryz.ntmps81
 go_wp2_with fail
 refine(LM g x y w hx hy).mono ?_
 rintro e w' ⟨rfl,rfl⟩
 go_wp2_with fail
 go_ret
 exact⟨rfl,rfl⟩
theorem EA(n lo hi:Int)(b:Bool)(h:oW n lo hi=b)(w:World):Calls Tryz.prog 92 #[.int .i64 n,.int .i64 lo,.int .i64 hi] w λe w'=>e= .returned (.bool b)/\Below w.heap.size w w':=by
 subst h
 exact oZ n lo hi w
theorem yD(n:Int)(b:Bool)(h:oW n (-50000) 50000=b)(w:World):Calls Tryz.prog 78 #[.int .i64 n] w λe w'=>e= .returned (.bool b)/\Below w.heap.size w w':=by
 subst h
 exact De n w
theorem Ey(n:Int)(b:Bool)(h:oW n 0 140=b)(w:World):Calls Tryz.prog 163 #[.int .i64 n] w λe w'=>e= .returned (.bool b)/\Below w.heap.size w w':=by
 subst h
 exact xn n w
theorem Db(a b m e_:Int)(w:World):
  Calls Tryz.prog 88 #[.agg #[.int .i64 a,.int .i64 b,.int .i64 m,.int .i64 e_]] w λe w'=>e= .returned (.bool (lD ⟨a,b,m,e_⟩))/\Below w.heap.size w w':=by
 obtain⟨b1,hb1⟩:∃o,oW a 0 120=o:=⟨_,rfl⟩
 have wL:=aa.mk (EA a 0 120 b1 hb1)
 obtain⟨b2,hb2⟩:∃o,oW b 1 12=o:=⟨_,rfl⟩
 have FZ:=aa.mk (EA b 1 12 b2 hb2)
 obtain⟨b3,hb3⟩:∃o,oW m 0 1=o:=⟨_,rfl⟩
 have FO:=aa.mk (EA m 0 1 b3 hb3)
 obtain⟨b4,hb4⟩:∃o,oW e_ 0 5=o:=⟨_,rfl⟩
 have HC4:=aa.mk (EA e_ 0 5 b4 hb4)
 have HV:=aa.mk (show lD ⟨a,b,m,e_⟩=(b1&&b2&&b3&&b4) from by rw[<- hb1,<- hb2,<- hb3,<- hb4];rfl)
 clear hb1 hb2 hb3 hb4
 go_enter Tryz.func88,Tryz.ntmps88
 go_upto_region 1 with(fail)
 have HB:=aa.mk (ae (Below.refl w.heap.size w) (.cells #[.int .i64 a,.int .i64 b,.int .i64 m,.int .i64 e_] 188))
 have BX:=aa.mk (aV.new w [.int .i64 a,.int .i64 b,.int .i64 m,.int .i64 e_] 188)
 generalize w.alloc (.cells #[.int .i64 a,.int .i64 b,.int .i64 m,.int .i64 e_] 188)=w0 at HB BX ⊢
 have dx:=BX.out.cell 0
 have dw:=BX.out.cell 1
 have dn:=BX.out.cell 2
 have dQ:=BX.out.cell 3
 simp only[dZ,dY] at dx dw dn dQ
 have mg:=BX.out.lt
 go_wp2_with fail
 clear dx dw dn dQ mg
 refine(wL.out _).mono ?_
 rintro e w1 ⟨rfl,dK⟩
 replace HB:=aa.mk (HB.out.trans (dK.mono HB.out.size))
 replace BX:=aa.mk (BX.out.below dK)
 clear dK
 cases b1
 .go_wp2_with fail
  go_ret
  exact⟨by(rw[HV.out];rfl),HB.out⟩
 have dx:=BX.out.cell 0
 have dw:=BX.out.cell 1
 have dn:=BX.out.cell 2
 have dQ:=BX.out.cell 3
 simp only[dZ,dY] at dx dw dn dQ
 have mg:=BX.out.lt
 go_wp2_with fail
 clear dx dw dn dQ mg
 refine(FZ.out _).mono ?_
 rintro e w2 ⟨rfl,dK⟩
 replace HB:=aa.mk (HB.out.trans (dK.mono HB.out.size))
 replace BX:=aa.mk (BX.out.below dK)
 clear dK
 cases b2
 .go_wp2_with fail
  go_ret
  exact⟨by(rw[HV.out];rfl),HB.out⟩
 have dx:=BX.out.cell 0
 have dw:=BX.out.cell 1
 have dn:=BX.out.cell 2
 have dQ:=BX.out.cell 3
 simp only[dZ,dY] at dx dw dn dQ
 have mg:=BX.out.lt
 go_wp2_with fail
 clear dx dw dn dQ mg
 refine(FO.out _).mono ?_
 rintro e w3 ⟨rfl,dK⟩
 replace HB:=aa.mk (HB.out.trans (dK.mono HB.out.size))
 replace BX:=aa.mk (BX.out.below dK)
 clear dK
 cases b3
 .go_wp2_with fail
  go_ret
  exact⟨by(rw[HV.out];rfl),HB.out⟩
 have dx:=BX.out.cell 0
 have dw:=BX.out.cell 1
 have dn:=BX.out.cell 2
 have dQ:=BX.out.cell 3
 simp only[dZ,dY] at dx dw dn dQ
 have mg:=BX.out.lt
 go_wp2_with fail
 clear dx dw dn dQ mg
 refine(HC4.out _).mono ?_
 rintro e w4 ⟨rfl,dK⟩
 replace HB:=aa.mk (HB.out.trans (dK.mono HB.out.size))
 replace BX:=aa.mk (BX.out.below dK)
 clear dK
 go_wp2_with fail
 go_ret
 exact⟨by(rw[HV.out];rfl),HB.out⟩
theorem Bf{Ar Ac:Option Addr}{cr cc:Nat}{rules:List iK}(lo hi:Int)(nc:Nat)(x:jh)(w:World)(hl:rules.length<=1000):
  Calls Tryz.prog 86 #[.agg #[.int .i64 lo,.int .i64 hi,.slice Ar rules.length cr,.slice Ac nc cc],.agg #[.int .i64 x.f0,.int .i64 x.f1,.int .i64 x.f2]] w λe w'=>e= .returned (.bool (Ef rules.length x))/\Below w.heap.size w w':=by
 obtain⟨a,b,m⟩:=x
 obtain⟨n,hn⟩:∃n,rules.length=n:=⟨_,rfl⟩
 rw[hn] at hl ⊢
 clear hn
 obtain⟨b1,hb1⟩:∃o,oW a (-50000) 50000=o:=⟨_,rfl⟩
 have wL:=aa.mk (yD a b1 hb1)
 obtain⟨b2,hb2⟩:∃o,oW b 0 ((n:Int)-1)=o:=⟨_,rfl⟩
 have FZ:=aa.mk (EA b 0 ((n:Int)-1) b2 hb2)
 obtain⟨b3,hb3⟩:∃o,oW m 0 140=o:=⟨_,rfl⟩
 have FO:=aa.mk (Ey m b3 hb3)
 have HV:=aa.mk (show Ef n ⟨a,b,m⟩=(b1&&b2&&b3) from by rw[<- hb1,<- hb2,<- hb3];rfl)
 clear hb1 hb2 hb3
 have hwn:IntKind.i64.wrap ((n:Int)-1)=(n:Int)-1:=by rw[cB];unfold wrap64;omega
 simp only
 go_enter Tryz.func86,Tryz.ntmps86
 go_upto_region 1 with(fail)
 have HB:=aa.mk (ae (ae (Below.refl w.heap.size w) (.cells #[.int .i64 lo,.int .i64 hi,.slice Ar n cr,.slice Ac nc cc] 67)) (.cells #[.int .i64 a,.int .i64 b,.int .i64 m] 191))
 have BP:=aa.mk ((aV.new w [.int .i64 lo,.int .i64 hi,.slice Ar n cr,.slice Ac nc cc] 67).alloc (.cells #[.int .i64 a,.int .i64 b,.int .i64 m] 191))
 have BX:=aa.mk (aV.second w (.cells #[.int .i64 lo,.int .i64 hi,.slice Ar n cr,.slice Ac nc cc] 67) [.int .i64 a,.int .i64 b,.int .i64 m] 191)
 generalize(w.alloc (.cells #[.int .i64 lo,.int .i64 hi,.slice Ar n cr,.slice Ac nc cc] 67)).alloc (.cells #[.int .i64 a,.int .i64 b,.int .i64 m] 191)=w0 at HB BP BX ⊢
 have dx:=BX.out.cell 0
 have dw:=BX.out.cell 1
 have dn:=BX.out.cell 2
 have Fa:=BP.out.cell 0
 have E9:=BP.out.cell 1
 have E8:=BP.out.cell 2
 have E5:=BP.out.cell 3
 simp only[dZ,dY] at dx dw dn Fa E9 E8 E5
 have mg:=BX.out.lt
 have Ye:=BP.out.lt
 go_wp2_with fail
 clear dx dw dn Fa E9 E8 E5 mg Ye
 refine(wL.out _).mono ?_
 rintro e w1 ⟨rfl,dK⟩
 replace HB:=aa.mk (HB.out.trans (dK.mono HB.out.size))
 replace BX:=aa.mk (BX.out.below dK)
 replace BP:=aa.mk (BP.out.below dK)
 clear dK
 cases b1
 .go_wp2_with fail
  go_ret
  exact⟨by(rw[HV.out];rfl),HB.out⟩
 have dx:=BX.out.cell 0
 have dw:=BX.out.cell 1
 have dn:=BX.out.cell 2
 have Fa:=BP.out.cell 0
 have E9:=BP.out.cell 1
 have E8:=BP.out.cell 2
 have E5:=BP.out.cell 3
 simp only[dZ,dY] at dx dw dn Fa E9 E8 E5
 have mg:=BX.out.lt
 have Ye:=BP.out.lt
 go_wp2_with fail
 clear dx dw dn Fa E9 E8 E5 mg Ye
 refine(FZ.out _).mono ?_
 rintro e w2 ⟨rfl,dK⟩
 replace HB:=aa.mk (HB.out.trans (dK.mono HB.out.size))
 replace BX:=aa.mk (BX.out.below dK)
 replace BP:=aa.mk (BP.out.below dK)
 clear dK
 cases b2
 .go_wp2_with fail
  go_ret
  exact⟨by(rw[HV.out];rfl),HB.out⟩
 have dx:=BX.out.cell 0
 have dw:=BX.out.cell 1
 have dn:=BX.out.cell 2
 have Fa:=BP.out.cell 0
 have E9:=BP.out.cell 1
 have E8:=BP.out.cell 2
 have E5:=BP.out.cell 3
 simp only[dZ,dY] at dx dw dn Fa E9 E8 E5
 have mg:=BX.out.lt
 have Ye:=BP.out.lt
 go_wp2_with fail
 clear dx dw dn Fa E9 E8 E5 mg Ye
 refine(FO.out _).mono ?_
 rintro e w3 ⟨rfl,dK⟩
 replace HB:=aa.mk (HB.out.trans (dK.mono HB.out.size))
 replace BX:=aa.mk (BX.out.below dK)
 replace BP:=aa.mk (BP.out.below dK)
 clear dK
 go_wp2_with fail
 go_ret
 exact⟨by(rw[HV.out];rfl),HB.out⟩
theorem down_calls(a b m e_ n:Int)(w:World)(hb:1<=b)(hb1:b<=12)(hn:0<=n)(hn1:n<=1000):
  Calls Tryz.prog 341 #[.agg #[.int .i64 a,.int .i64 b,.int .i64 m,.int .i64 e_],.int .i64 n] w λe w'=>e= .returned (.int .i64 (n-n%b))/\Below w.heap.size w w':=by
 have hne:(b==0)=false:=by simpa using (show b≠0 by omega)
 have h1:=Int.emod_nonneg n (show b≠0 by omega)
 have h2:=Int.emod_lt_of_pos n (show 0<b by omega)
 go_enter Tryz.func341,Tryz.ntmps341
 go_wp2_with fail
 go_ret
 exact⟨rfl,ae (Below.refl _ _) _⟩
theorem UO(a b m e_ n:Int)(w:World)(hb:1<=b)(hb1:b<=12)(hn:0<=n)(hn1:n<=900):
  Calls Tryz.prog 342 #[.agg #[.int .i64 a,.int .i64 b,.int .i64 m,.int .i64 e_],.int .i64 n] w λe w'=>e= .returned (.int .i64 ((n+b/2)-(n+b/2)%b))/\Below w.heap.size w w':=by
 go_enter Tryz.func342,Tryz.ntmps342
 go_wp2_with fail
 refine(down_calls a b m e_ _ _ hb hb1 (by omega) (by omega)).mono ?_
 rintro e w' ⟨rfl,hb'⟩
 go_wp2_with fail
 go_ret
 exact⟨rfl,(ae (Below.refl _ _) _).trans (hb'.mono (by simp))⟩
theorem xH(w:World):Calls Tryz.prog 324 #[] w λe w'=>e= .returned (.slice (some ⟨w.heap.size,0,none⟩) 2 2)/\w'=w.alloc (.cells #[.func (.func 341) #[] #[],.func (.func 342) #[] #[]] 420):=by
 go_enter Tryz.func324,Tryz.ntmps324
 go_wp2_with fail
 go_ret
 exact⟨rfl,rfl⟩
set_option maxHeartbeats 4000000 in
theorem DT(r:iK)(n:Int)(w:World)(hr:lD r=true)(hn:0<=n)(hn1:n<=900):
  Calls Tryz.prog 275 #[.agg #[.int .i64 r.f0,.int .i64 r.f1,.int .i64 r.f2,.int .i64 r.f3],.int .i64 n] w λe w'=>e= .returned (.int .i64 (wN r n))/\Below w.heap.size w w':=by
 obtain⟨a,b,m,e_⟩:=r
 unfold lD oW at hr
 simp only[Bool.and_eq_true,decide_eq_true_eq] at hr
 obtain⟨⟨⟨⟨ha0,ha1⟩,hb0,hb1⟩,hm0,hm1⟩,he0,he1⟩:=hr
 simp only
 go_enter Tryz.func275,Tryz.ntmps275
 go_upto_region 1 with(fail)
 have HB:=aa.mk (ae (Below.refl w.heap.size w) (.cells #[.int .i64 a,.int .i64 b,.int .i64 m,.int .i64 e_] 188))
 have BX:=aa.mk (aV.new w [.int .i64 a,.int .i64 b,.int .i64 m,.int .i64 e_] 188)
 generalize w.alloc (.cells #[.int .i64 a,.int .i64 b,.int .i64 m,.int .i64 e_] 188)=w0 at HB BX ⊢
 have dx:=BX.out.cell 0
 have dw:=BX.out.cell 1
 have dn:=BX.out.cell 2
 have dQ:=BX.out.cell 3
 simp only[dZ,dY] at dx dw dn dQ
 have mg:=BX.out.lt
 by_cases hna:n<a
 .have HV:=aa.mk (show wN ⟨a,b,m,e_⟩ n=n from if_pos hna)
  go_wp2_with fail
  go_ret
  exact⟨by(rw[HV.out];rfl),HB.out⟩
 replace hna:=Int.not_lt.1 hna
 have HV:=aa.mk (show wN ⟨a,b,m,e_⟩ n=if m=0 then n-n%b else(n+b/2)-(n+b/2)%b from if_neg (by show ¬n<a;omega))
 go_wp2_with fail
 rcases(show m=0\/m=1 by omega) with rfl|rfl
 .refine fF (n:=10) (S:=λw'=>w'.cell? ⟨w.heap.size,0,none⟩=some (.int .i64 a)/\w'.cell? ⟨w.heap.size,1,none⟩=some (.int .i64 b)/\w'.cell? ⟨w.heap.size,2,none⟩=some (.int .i64 0)/\w'.cell? ⟨w.heap.size,3,none⟩=some (.int .i64 e_)) (ds:=[8]) #[O,O,O,O,O,O,O,O,O,O] (by kernel_rfl) rfl rfl ⟨dx,dw,dn,dQ⟩ (λhHeld=>?_);refine bG PX.Qp PX.Jl (λau cz=>?_)
  replace BX:=aa.mk (BX.out.move rfl:aV w0.drew _ _ _)
  replace HB:=aa.mk (aN HB.out)
  clear dx dw dn dQ mg
  generalize w0.drew=wd at BX HB hHeld ⊢
  refine bq 1 11 #[O,I,O,O,O,O,O,O,O,O] au (h:=?_)
  refine fJ 2 12 #[O,I,I,O,O,O,O,O,O,O] au cz hHeld (hy:=by(rintro w' ⟨s0,s1,s2,s3⟩;go_simp;with_reducible rfl)) (h:=?_)
  refine fJ 6 16 #[O,I,I,O,O,O,I,O,O,O] au cz hHeld (hy:=by(rintro w' ⟨s0,s1,s2,s3⟩;go_simp;with_reducible rfl)) (h:=?_)
  refine bq 7 17 #[O,I,I,O,O,O,I,I,O,O] au (h:=?_)
  refine gB (i:=0) (N:=some 10) #[I,I,I,O,O,O,I,I,O,O] rfl rfl (aM au.out (by kernel_rfl)) (by decide) (λK hK=>?_)
  refine bT Tryz.func324 (by kernel_rfl) rfl #[] (by rfl) rfl rfl (by simp only[List.map_toArray,List.map_nil]) ?_
  refine(xH _).mono ?_
  rintro e_1 w_ ⟨rfl,rfl⟩
  have LZ:=aa.mk (BX.out.alloc (.cells #[.func (.func 341) #[] #[],.func (.func 342) #[] #[]] 420))
  refine⟨_,rfl,hK.out _ _ ⟨(by simpa using LZ.out.cell 0),(by simpa using LZ.out.cell 1),(by simpa using LZ.out.cell 2),(by simpa using LZ.out.cell 3)⟩ (λhHeld=>?_)⟩
  clear hK K
  have HB1:=aa.mk (ae HB.out (.cells #[.func (.func 341) #[] #[],.func (.func 342) #[] #[]] 420))
  have hm:=(aV.new wd [.func (.func 341) #[] #[],.func (.func 342) #[] #[]] 420).cell 0
  simp only[dZ,dY] at hm
  clear HB BX
  generalize hgm:wd.heap.size=gm at hm ⊢
  clear hgm
  generalize wd.alloc (.cells #[.func (.func 341) #[] #[],.func (.func 342) #[] #[]] 420)=w1 at LZ HB1 hm hHeld ⊢
  refine j4 ?_
  refine bq 3 13 #[I,I,I,I,O,O,I,I,O,O] au (h:=?_)
  refine bq 4 14 #[I,I,I,I,I,O,I,I,O,O] au (h:=?_)
  refine gB (i:=5) (N:=some 15) #[I,I,I,I,I,I,I,I,O,O] rfl rfl (aM au.out (by kernel_rfl)) (by decide) (λK hK=>?_)
  refine bD (w1:=?_) (v:=?_) (by rfl) rfl ?_ ?_
  rotate_left 2
  .go_simp
   constructor<;>rfl
  refine hK.out _ _ hHeld (λhHeld=>?_)
  clear hK K hm
  refine j4 ?_
  refine fB (i:=8) (N:=some 18) #[I,I,I,I,I,I,I,I,I,O] rfl rfl (aM au.out (by kernel_rfl)) (by decide) (λK hK=>?_)
  refine Df Tryz.func341 (by kernel_rfl) rfl #[.agg #[.int .i64 a,.int .i64 b,.int .i64 0,.int .i64 e_],.int .i64 n] (by rfl) rfl rfl (by rfl) (by first|rfl|(simp only[List.map_toArray,List.map_cons,List.map_nil];rfl)) ?_
  simp only[List.append_toArray,List.cons_append,List.nil_append]
  refine(down_calls a b 0 e_ n _ hb0 hb1 hn (by omega)).mono ?_
  rintro e_1 w_ ⟨rfl,dK⟩
  refine⟨_,rfl,hK.out _ _ ?_⟩
  clear hK K
  have HB:=aa.mk (HB1.out.trans (dK.mono HB1.out.size))
  clear dK HB1 LZ
  refine j4 ?_
  refine bq 9 4 #[I,I,I,I,I,I,I,I,I,I] au (h:=?_)
  refine fM (bP au.out (by kernel_rfl)) ?_
  go_wp2_with fail
  go_ret
  exact⟨by(rw[HV.out];rfl),HB.out⟩
 .refine fF (n:=10) (S:=λw'=>w'.cell? ⟨w.heap.size,0,none⟩=some (.int .i64 a)/\w'.cell? ⟨w.heap.size,1,none⟩=some (.int .i64 b)/\w'.cell? ⟨w.heap.size,2,none⟩=some (.int .i64 1)/\w'.cell? ⟨w.heap.size,3,none⟩=some (.int .i64 e_)) (ds:=[8]) #[O,O,O,O,O,O,O,O,O,O] (by kernel_rfl) rfl rfl ⟨dx,dw,dn,dQ⟩ (λhHeld=>?_);refine bG PX.Qp PX.Jl (λau cz=>?_)
  replace BX:=aa.mk (BX.out.move rfl:aV w0.drew _ _ _)
  replace HB:=aa.mk (aN HB.out)
  clear dx dw dn dQ mg
  generalize w0.drew=wd at BX HB hHeld ⊢
  refine bq 1 11 #[O,I,O,O,O,O,O,O,O,O] au (h:=?_)
  refine fJ 2 12 #[O,I,I,O,O,O,O,O,O,O] au cz hHeld (hy:=by(rintro w' ⟨s0,s1,s2,s3⟩;go_simp;with_reducible rfl)) (h:=?_)
  refine fJ 6 16 #[O,I,I,O,O,O,I,O,O,O] au cz hHeld (hy:=by(rintro w' ⟨s0,s1,s2,s3⟩;go_simp;with_reducible rfl)) (h:=?_)
  refine bq 7 17 #[O,I,I,O,O,O,I,I,O,O] au (h:=?_)
  refine gB (i:=0) (N:=some 10) #[I,I,I,O,O,O,I,I,O,O] rfl rfl (aM au.out (by kernel_rfl)) (by decide) (λK hK=>?_)
  refine bT Tryz.func324 (by kernel_rfl) rfl #[] (by rfl) rfl rfl (by simp only[List.map_toArray,List.map_nil]) ?_
  refine(xH _).mono ?_
  rintro e_1 w_ ⟨rfl,rfl⟩
  have LZ:=aa.mk (BX.out.alloc (.cells #[.func (.func 341) #[] #[],.func (.func 342) #[] #[]] 420))
  refine⟨_,rfl,hK.out _ _ ⟨(by simpa using LZ.out.cell 0),(by simpa using LZ.out.cell 1),(by simpa using LZ.out.cell 2),(by simpa using LZ.out.cell 3)⟩ (λhHeld=>?_)⟩
  clear hK K
  have HB1:=aa.mk (ae HB.out (.cells #[.func (.func 341) #[] #[],.func (.func 342) #[] #[]] 420))
  have hm:=(aV.new wd [.func (.func 341) #[] #[],.func (.func 342) #[] #[]] 420).cell 1
  simp only[dZ,dY] at hm
  clear HB BX
  generalize hgm:wd.heap.size=gm at hm ⊢
  clear hgm
  generalize wd.alloc (.cells #[.func (.func 341) #[] #[],.func (.func 342) #[] #[]] 420)=w1 at LZ HB1 hm hHeld ⊢
  refine j4 ?_
  refine bq 3 13 #[I,I,I,I,O,O,I,I,O,O] au (h:=?_)
  refine bq 4 14 #[I,I,I,I,I,O,I,I,O,O] au (h:=?_)
  refine gB (i:=5) (N:=some 15) #[I,I,I,I,I,I,I,I,O,O] rfl rfl (aM au.out (by kernel_rfl)) (by decide) (λK hK=>?_)
  refine bD (w1:=?_) (v:=?_) (by rfl) rfl ?_ ?_
  rotate_left 2
  .go_simp
   constructor<;>rfl
  refine hK.out _ _ hHeld (λhHeld=>?_)
  clear hK K hm
  refine j4 ?_
  refine fB (i:=8) (N:=some 18) #[I,I,I,I,I,I,I,I,I,O] rfl rfl (aM au.out (by kernel_rfl)) (by decide) (λK hK=>?_)
  refine Df Tryz.func342 (by kernel_rfl) rfl #[.agg #[.int .i64 a,.int .i64 b,.int .i64 1,.int .i64 e_],.int .i64 n] (by rfl) rfl rfl (by rfl) (by first|rfl|(simp only[List.map_toArray,List.map_cons,List.map_nil];rfl)) ?_
  simp only[List.append_toArray,List.cons_append,List.nil_append]
  refine(UO a b 1 e_ n _ hb0 hb1 hn (by omega)).mono ?_
  rintro e_1 w_ ⟨rfl,dK⟩
  refine⟨_,rfl,hK.out _ _ ?_⟩
  clear hK K
  have HB:=aa.mk (HB1.out.trans (dK.mono HB1.out.size))
  clear dK HB1 LZ
  refine j4 ?_
  refine bq 9 4 #[I,I,I,I,I,I,I,I,I,I] au (h:=?_)
  refine fM (bP au.out (by kernel_rfl)) ?_
  go_wp2_with fail
  go_ret
  exact⟨by(rw[HV.out];rfl),HB.out⟩
end Go.Proofs.YtdekaocdmjndaaaGreat
namespace Go.Proofs.YtdekaocdmjndaaaGreat
open Go.RowKit Go.Shelf ah YtdekaocdmjndaaaGreatW.aj YtdekaocdmjndaaaGreatW.aH Ag
def Np:List Bool:=List.replicate 121 false
def jA(bs:List Bool):List Value:=bs.map Value.bool
theorem zz:(Tryz.prog.info? 358).map (λi=>(i.zero,i.size))=some (some (.agg (jA Np).toArray),121):=by kernel_rfl
theorem Bz:∀(c s:Nat) (a:List Bool),tH (c+1) s a=(tH c s a).set (s+c) true
 |0,s,a=>rfl
 |c+1,s,a=>by
  rw[tH,Bz c (s+1) (a.set s true),tH,show s+1+c=s+(c+1) by omega]
def IQ(r:Ru)(written:Int)(k:Nat)(a:List Bool):List Bool:=if wN r k=written then tH ((min ((k:Int)+r.f3) 120+1-max 0 ((k:Int)-r.f3)).toNat) (max 0 ((k:Int)-r.f3)).toNat a else a
theorem zS(r:Ru)(written:Int):∀(c s:Nat) (a:List Bool),qN r written (c+1) s a=IQ r written (s+c) (qN r written c s a)
 |0,s,a=>rfl
 |c+1,s,a=>by
  rw[qN,zS r written c (s+1),qN,show s+1+c=s+(c+1) by omega]
theorem OB(bs:List Bool):(jA bs).toArray.all (·.oneCell')=true:=by
 unfold jA
 rw[List.all_toArray,List.all_eq_true]
 intro x hx
 obtain⟨b,_,rfl⟩:=List.mem_map.1 hx
 rfl
theorem OA(bs:List Bool)(i:Nat):(jA bs).set i (.bool true)=jA (bs.set i true):=by
 unfold jA
 rw[List.map_set]
theorem xM(g:Nat)(x y z:Int)(h:min x y=z)(w:World)(hx:w.cell? ⟨g,0,none⟩=some (.int .i64 x))(hy:w.cell? ⟨g,1,none⟩=some (.int .i64 y)):
  Calls Tryz.prog 81 #[.slice (some ⟨g,0,none⟩) 2 2] w λe w'=>e= .returned (.int .i64 z)/\w'=w:=by
 subst h
 exact qK g x y w hx hy
set_option maxHeartbeats 4000000 in
theorem Ib(r:iK)(n:Int)(w:World)(hr:lD r=true):
  Calls Tryz.prog 227 #[.agg #[.int .i64 r.f0,.int .i64 r.f1,.int .i64 r.f2,.int .i64 r.f3],.int .i64 n] w λe w'=>e= .returned (.agg (jA (oG r n)).toArray)/\Below w.heap.size w w':=by
 have HR:=aa.mk hr
 obtain⟨a,b,m,e_⟩:=r
 unfold lD oW at hr
 simp only[Bool.and_eq_true,decide_eq_true_eq] at hr
 obtain⟨⟨⟨⟨ha0,ha1⟩,hb0,hb1⟩,hm0,hm1⟩,he0,he1⟩:=hr
 clear ha0 ha1 hb0 hb1 hm0 hm1
 simp only
 have hz:=(zero_of_info zz).1
 go_enter Tryz.func227,Tryz.ntmps227
 go_upto_region 1 with(fail)
 have HB:=aa.mk (ae (ae (Below.refl w.heap.size w) (.cells #[.int .i64 a,.int .i64 b,.int .i64 m,.int .i64 e_] 188)) (.cells (jA Np).toArray 358))
 have BX:=aa.mk ((aV.new w [.int .i64 a,.int .i64 b,.int .i64 m,.int .i64 e_] 188).alloc (.cells (jA Np).toArray 358))
 have BA:=aa.mk (aV.second w (.cells #[.int .i64 a,.int .i64 b,.int .i64 m,.int .i64 e_] 188) (jA Np) 358)
 clear hz
 generalize(w.alloc (.cells #[.int .i64 a,.int .i64 b,.int .i64 m,.int .i64 e_] 188)).alloc (.cells (jA Np).toArray 358)=w0 at HB BX BA ⊢
 go_wp2_with fail
 go_loopw [7] (λv7 wr=>∃k:Nat,k<=126/\v7= .int .i64 k/\aa (Below w.heap.size w wr)/\aa (aV wr w.heap.size [.int .i64 a,.int .i64 b,.int .i64 m,.int .i64 e_] 188)/\aa (aV wr (w.heap.size+1) (jA (qN ⟨a,b,m,e_⟩ n k 0 Np)) 358)) (λv7 _=>126-(intOf v7).toNat)
 case atStart=>exact⟨0,Nat.zero_le _,rfl,HB,BX,BA⟩
 case round=>
  clear HB BX BA
  obtain⟨k,hk,rfl,HB,BX,BA⟩:=hrel
  have dx:=BX.out.cell 0
  have dw:=BX.out.cell 1
  have dn:=BX.out.cell 2
  have dQ:=BX.out.cell 3
  simp only[dZ,dY] at dx dw dn dQ
  have mg:=BX.out.lt
  have UT:=BA.out.lt
  by_cases hk1:k<126
  .go_wp2_with fail
   refine(DT ⟨a,b,m,e_⟩ k wr HR.out (by omega) (by omega)).mono ?_
   rintro e w1 ⟨rfl,dK⟩
   clear dx dw dn dQ mg UT
   replace HB:=aa.mk (HB.out.trans (dK.mono HB.out.size))
   replace BX:=aa.mk (BX.out.below dK)
   replace BA:=aa.mk (BA.out.below dK)
   clear dK
   have dx:=BX.out.cell 0
   have dw:=BX.out.cell 1
   have dn:=BX.out.cell 2
   have dQ:=BX.out.cell 3
   simp only[dZ,dY] at dx dw dn dQ
   have mg:=BX.out.lt
   have UT:=BA.out.lt
   have HS:=aa.mk (zS ⟨a,b,m,e_⟩ n k 0 Np)
   obtain⟨al,hal⟩:∃l,qN ⟨a,b,m,e_⟩ n k 0 Np=l:=⟨_,rfl⟩
   have hl:=(congrArg List.length hal).symm.trans mP
   rw[show Np.length=121 from rfl] at hl
   have HL:=aa.mk hl
   rw[hal,Nat.zero_add] at HS
   rw[hal] at BA
   clear hal hl
   obtain⟨y,hy⟩:∃y,wN ⟨a,b,m,e_⟩ k=y:=⟨_,rfl⟩
   have HY:=aa.mk hy
   rw[hy]
   clear hy
   by_cases hyn:y=n
   .have hyb:(y==n)=true:=by simpa using hyn
    obtain⟨lo,hlo⟩:∃lo:Nat,max 0 ((k:Int)-e_)=(lo:Int):=⟨(max 0 ((k:Int)-e_)).toNat,by omega⟩
    obtain⟨hi,hhi⟩:∃hi:Nat,min ((k:Int)+e_) 120=(hi:Int):=⟨(min ((k:Int)+e_) 120).toNat,by omega⟩
    have HLO:=aa.mk hlo
    have HHI:=aa.mk hhi
    have hlk:lo<=k+1:=by omega
    have air:hi<=120:=by omega
    have HSA:=aa.mk (show IQ ⟨a,b,m,e_⟩ n k al=tH (hi+1-lo) lo al by
     unfold IQ
     rw[if_pos (by rw[HY.out];exact hyn)]
     show tH ((min ((k:Int)+e_) 120+1-max 0 ((k:Int)-e_)).toNat) (max 0 ((k:Int)-e_)).toNat al=_
     rw[hlo,hhi,show((hi:Int)+1-(lo:Int)).toNat=hi+1-lo by omega,Int.toNat_natCast])
    clear hlo hhi hyn
    go_wp2_with fail
    all_goals
     clear hyb dx dw dn dQ mg UT
     go_loopw [6] (λv6 wr=>∃j:Nat,lo<=j/\j<=max lo (hi+1)/\v6= .int .i64 j/\aa (Below w.heap.size w wr)/\aa (aV wr w.heap.size [.int .i64 a,.int .i64 b,.int .i64 m,.int .i64 e_] 188)/\aa (aV wr (w.heap.size+1) (jA (tH (j-lo) lo al)) 358)) (λv6 _=>121-(intOf v6).toNat)
     case atStart=>exact⟨lo,Nat.le_refl _,by omega,by(have:=HLO.out;exact congrArg (Value.int .i64) (by omega)),HB,BX,⟨by rw[Nat.sub_self];exact BA.out⟩⟩
     case round=>
      clear HB BX BA
      obtain⟨j,hj0,hj1,rfl,HB,BX,BA⟩:=hrel
      have dx:=BX.out.cell 0
      have dw:=BX.out.cell 1
      have dn:=BX.out.cell 2
      have dQ:=BX.out.cell 3
      simp only[dZ,dY] at dx dw dn dQ
      have mg:=BX.out.lt
      have UT:=BA.out.lt
      go_wp2_with fail
      refine(xM wr.heap.size _ _ hi HHI.out _ (by simpa using (aV.new wr [.int .i64 ((k:Int)+e_),.int .i64 120] 3).cell 0) (by simpa using (aV.new wr [.int .i64 ((k:Int)+e_),.int .i64 120] 3).cell 1)).mono ?_
      rintro e w2 ⟨rfl,rfl⟩
      have HB2:=aa.mk (ae HB.out (.cells #[.int .i64 ((k:Int)+e_),.int .i64 120] 3))
      have Sj:=aa.mk (BX.out.alloc (.cells #[.int .i64 ((k:Int)+e_),.int .i64 120] 3))
      have WU:=aa.mk (BA.out.alloc (.cells #[.int .i64 ((k:Int)+e_),.int .i64 120] 3))
      clear HB BX BA dx dw dn dQ mg UT
      generalize wr.alloc (.cells #[.int .i64 ((k:Int)+e_),.int .i64 120] 3)=w2 at HB2 Sj WU ⊢
      by_cases hjh:j<=hi
      .have hji:(j:Int)<=(hi:Int):=by omega
       have aip:(j:Int)<121:=by omega
       have UT:=WU.out.lt
       have cA:=WU.out.cell j
       have hjl:j<(tH (j-lo) lo al).length:=by rw[qY,HL.out];omega
       rw[show(jA (tH (j-lo) lo al))[j]?=some (.bool ((tH (j-lo) lo al)[j])) by simp[jA,hjl]] at cA
       have fA:=WU.out.frozen j
       have BA3:=aa.mk (WU.out.setAt j (.bool true))
       rw[OA] at BA3
       have hsn:=Bz (j-lo) lo al
       rw[show lo+(j-lo)=j by omega,show j-lo+1=j+1-lo by omega] at hsn
       rw[<- hsn] at BA3
       have HB3:=aa.mk (HB2.out.setCell (p:=⟨w.heap.size+1,j,none⟩) (by simp only;omega) (.bool true))
       have BX3:=aa.mk (show aV (w2.setCell ⟨w.heap.size+1,j,none⟩ (.bool true)) _ _ _ from Sj.out.move (Below.heap_setCell _ ⟨w.heap.size+1,j,none⟩ _ _ (by simp only;omega)))
       clear hsn HB2 Sj WU
       generalize(tH (j-lo) lo al)[j]=bj at cA
       clear hjl
       go_wp2_with fail
       exact⟨⟨j+1,by omega,by omega,by go_num,HB3,BX3,BA3⟩,by simp[intOf];omega⟩
      .have hji:(hi:Int)<(j:Int):=by omega
       have BA3:=aa.mk (show aV w2 (w.heap.size+1) (jA (qN ⟨a,b,m,e_⟩ n (k+1) 0 Np)) 358 by
        rw[HS.out,HSA.out,show hi+1-lo=j-lo by omega]
        exact WU.out)
       go_wp2_with fail
       exact⟨⟨k+1,by omega,by go_num,HB2,Sj,BA3⟩,by simp[intOf];omega⟩
   .have hyb:(y==n)=false:=by simpa using hyn
    have HN:=aa.mk (show IQ ⟨a,b,m,e_⟩ n k al=al from if_neg (by rw[HY.out];exact hyn))
    clear hyn
    go_wp2_with fail
    exact⟨⟨k+1,by omega,by go_num,HB,BX,⟨by rw[HS.out,HN.out];exact BA.out⟩⟩,by simp[intOf];omega⟩
  .obtain rfl:k=126:=by omega
   clear dx dw dn dQ mg UT
   obtain⟨A,hA⟩:∃A,qN ⟨a,b,m,e_⟩ n 126 0 Np=A:=⟨_,rfl⟩
   have hl:A.length=121:=by rw[<- hA,mP];rfl
   have HA:=aa.mk (show oG ⟨a,b,m,e_⟩ n=A from hA)
   rw[hA] at BA
   clear hA
   have Xe:=(zero_of_info zz).2
   have HI:=aa.mk (show(Tryz.prog.info? 358).map (·.size)=some (jA A).toArray.size by rw[Xe];simp[jA,hl])
   clear Xe
   go_wp2_with ((first|refine wpList_load_row rfl 358 (.tmp 4) rfl (w.heap.size+1) rfl 358 (jA A).toArray (0,0) _ BA.out Tryz.underlying358 rfl HI.out ?_|refine wpList_store_row rfl 358 (.tmp 4) (.tmp 33) rfl (w.heap.size+1) (jA A).toArray rfl rfl 358 (jA A).toArray BA.out HI.out rfl (OB A) ?_))
   rw[setRow_self _ _ _ _ _ BA.out]
   refine bodyPost_ret (results_cell_row rfl _ _ (w.heap.size+1) 358 (jA A).toArray (0,0) _ rfl BA.out Tryz.underlying358 rfl HI.out) rfl ?_
   exact⟨by rw[HA.out],HB.out⟩
theorem Tg{l:List Rg}(lo hi:Int)(hl:l.length<=1000)(hb:∀r ∈ l,-1000000<=r.f1/\r.f1<=1000000):ja.f l lo hi=some (jN l lo hi):=by
 rcases List.eq_nil_or_concat l with rfl|⟨m,r,rfl⟩
 .unfold ja.f jN
  simp
 .rw[List.concat_eq_append] at hl hb ⊢
  have hr:=hb r (by simp)
  have hn:((m++[r]).length:Int)=(m.length:Int)+1:=by simp
  have hw:wrap64 ((m.length:Int)+1-1)=(m.length:Int):=by simp at hl;unfold wrap64;omega
  have hrd:bS (m++[r]) (m.length:Int)=r:=by
   show(m++[r]).getD (m.length:Int).toNat _=r
   rw[Int.toNat_natCast,List.getD_eq_getElem?_getD,List.getElem?_append_right (Nat.le_refl _),Nat.sub_self]
   rfl
  unfold ja.f jN
  rw[List.getLast?_concat]
  simp only[hn,hw,hrd]
  rw[if_pos (by omega),if_pos (by omega),if_pos (by omega),show wrap64 (r.f1+1)=r.f1+1 by unfold wrap64;omega]
  split
  .rw[Int.toNat_natCast,List.dropLast_concat]
   congr 1
   rw[List.set_append_right _ _ (Nat.le_refl _),Nat.sub_self,show mx r.f1 hi=max r.f1 hi from Nu _ _]
   rfl
  .rw[if_pos (by simp at hl;simp;omega)]
theorem vE(b:Bool):∀(bs:List Bool) (n:Nat) (l:List Rg),dE (bs++[b]) n l=if b then jN (dE bs n l) ((n+bs.length:Nat):Int) ((n+bs.length:Nat):Int) else dE bs n l
 |[],n,l=>by simp[dE]
 |c::bs,n,l=>by
  rw[List.cons_append,dE,vE b bs,List.length_cons,dE,show n+1+bs.length=n+(bs.length+1) by omega]
theorem Cy{bs:List Bool}{k:Nat}(hk:k<bs.length):dE (bs.take (k+1)) 0 []=if bs[k] then jN (dE (bs.take k) 0 []) (k:Int) (k:Int) else dE (bs.take k) 0 []:=by
 rw[List.take_succ_eq_append_getElem hk,vE,List.length_take,Nat.zero_add,Nat.min_eq_left (by omega)]
theorem uu{bs:List Bool}{k:Nat}(hk:k<=121):(dE (bs.take k) 0 []).length<=121/\∀r ∈ dE (bs.take k) 0 [],0<=r.f0/\r.f0<=r.f1/\r.f1<=120:=by
 have h:=oP (bs:=bs.take k) (n:=0) (l:=[])
 have hl:(bs.take k).length<=121:=by rw[List.length_take];omega
 have hc:=mH (bs:=bs.take k) (n:=0) (l:=[]) ⟨by simp,List.Pairwise.nil⟩ (by simp)
 have hi:=BJ (a:=0) (b:=120) (Int.le_refl 0) (bs:=bs.take k) (n:=0) (l:=[]) (by omega) (by simp)
 exact⟨by simp at h;omega,λr hr=>⟨(hi r hr).1,hc.1 r hr,(hi r hr).2⟩⟩
theorem K3{w:World}(w0:World){v:Value}{l:List Rg}(lo hi:Int)(hb:Below w0.heap.size w0 w)(hR:nQ.R 63 w w0.heap.size (λ_=>True) v l)(hl:l.length<=1000)(hv:∀r ∈ l,-1000000<=r.f1/\r.f1<=1000000):
  Calls Tryz.prog 80 #[v,.int .i64 lo,.int .i64 hi] w λe w'=>∃v',e= .returned v'/\nQ.R 63 w' w0.heap.size (λ_=>True) v' (jN l lo hi)/\Below w0.heap.size w0 w':=
 (ja.calls (λ_=>True) v l lo hi _ w0 w hb hR (Tg lo hi hl hv)).mono λ_ _ ⟨v',h1,h2,h3,_⟩=>⟨v',h1,Kd.bM h2 (λ_ _=>trivial),h3⟩
theorem RJ(bs:List Bool)(k:Nat)(hk:k<bs.length)(hk1:k<121)(w:World):(Instr.index 358 (.agg (jA bs).toArray) (.int .i64 (k:Int))).run Tryz.prog w= .ok (.bool bs[k]) w:=by
 have h:=Tryz.underlying358
 have e:(jA bs)[k]?=some (.bool bs[k]):=by simp[jA,hk]
 have hk2:k<(jA bs).length:=by simpa[jA] using hk
 simp[Instr.index,run_underlying h,asIntOf,go_sem,e]
 intro hge
 omega
set_option maxHeartbeats 4000000 in
theorem Cx(bs:List Bool)(w:World)(hl:bs.length=121):
  Calls Tryz.prog 228 #[.agg (jA bs).toArray] w λe w'=>∃v,e= .returned v/\nQ.R 63 w' w.heap.size (λ_=>True) v (dE bs 0 [])/\Below w.heap.size w w':=by
 have Xe:=(zero_of_info zz).2
 have HI:=aa.mk (show(Tryz.prog.info? 358).map (·.size)=some (jA bs).toArray.size by rw[Xe];simp[jA,hl])
 clear Xe
 have HX:=aa.mk hl
 have hix:=aa.mk (RJ bs)
 go_enter Tryz.func228,Tryz.ntmps228
 go_upto_region 1 with(fail)
 have HB:=aa.mk (ae (Below.refl w.heap.size w) (.cells (jA bs).toArray 358))
 have BA:=aa.mk (aV.new w (jA bs) 358)
 generalize w.alloc (.cells (jA bs).toArray 358)=w0 at HB BA ⊢
 go_wp2_with ((refine wpList_load_row rfl 358 (.tmp 1) rfl w.heap.size rfl 358 (jA bs).toArray (0,0) _ BA.out Tryz.underlying358 rfl HI.out ?_))
 clear BA
 go_loopw [2,6] (λv2 v6 wr=>∃k:Nat,k<=121/\v6= .int .i64 k/\aa (Below w.heap.size w wr)/\aa (nQ.R 63 wr w.heap.size (λ_=>True) v2 (dE (bs.take k) 0 []))) (λ_ v6 _=>121-(intOf v6).toNat)
 case atStart=>exact⟨0,Nat.zero_le _,rfl,HB,⟨Kd.iH _ _ _ _ _⟩⟩
 case round=>
  clear HB
  obtain⟨k,hk,rfl,HB,HR⟩:=hrel
  by_cases hk1:k<121
  .have hat:=hix.out k (by omega) hk1
   have HT:=aa.mk (Cy (bs:=bs) (k:=k) (by omega))
   have HO:=aa.mk (uu (bs:=bs) (k:=k) hk)
   obtain⟨b,hb⟩:∃b,bs[k]=b:=⟨_,rfl⟩
   rw[hb] at HT hat
   clear hb hl
   obtain⟨rs,hrs⟩:∃rs,dE (bs.take k) 0 []=rs:=⟨_,rfl⟩
   rw[hrs] at HR HT HO
   clear hrs
   cases b
   .go_wp2_with fail
    exact⟨⟨k+1,by omega,by go_num,HB,⟨by rw[HT.out];exact HR.out⟩⟩,by simp[intOf];omega⟩
   .go_wp2_with fail
    refine(K3 w (k:Int) (k:Int) HB.out HR.out (by have:=HO.out.1;omega) (λr hr=>by have h1:=HO.out.2 r hr;omega)).mono ?_
    rintro e w1 ⟨v',rfl,hR',hB'⟩
    have HB1:=aa.mk hB'
    have HR1:=aa.mk hR'
    clear hR' hB'
    go_wp2_with fail
    exact⟨⟨k+1,by omega,by go_num,HB1,⟨by rw[HT.out];exact HR1.out⟩⟩,by simp[intOf];omega⟩
  .obtain rfl:k=121:=by omega
   rw[List.take_of_length_le (by rw[HX.out];exact Nat.le_refl _)] at HR
   go_wp2_with fail
   go_ret
   exact⟨_,rfl,HR.out,HB.out⟩
end Go.Proofs.YtdekaocdmjndaaaGreat
