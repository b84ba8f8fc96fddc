import Derived.Test.YtkjoilgpmngndaaGreatQ7
set_option linter.all false
namespace Go.Proofs.YtkjoilgpmngndaaGreat.av
open Go.RowKit Go.Proofs.YtkjoilgpmngndaaGreatW.aA Go.Proofs.YtkjoilgpmngndaaGreatW.aJ Go.Proofs.YtkjoilgpmngndaaGreatW.dn
structure mo where
 f0:Int
 f1:Int
def z88:mo:=⟨(0:Int),(0:Int)⟩
def Ux:Kd mo:=Kd.Vd (Kd.pair (Kd.int .i64) (Kd.int .i64)) (fun x:mo=>(x.f0,x.f1))
theorem JU{w:World}{x:mo}{cs:List Value}(h:Ux.K w x cs):cs=[.int .i64 x.f0,.int .i64 x.f1]:=by
 obtain⟨_,_,rfl,rfl,rfl⟩:=h
 exact rfl
theorem ZA(w:World)(x:mo):Ux.K w x [.int .i64 x.f0,.int .i64 x.f1]:=⟨[.int .i64 x.f0],[.int .i64 x.f1],rfl,rfl,rfl⟩
def xV(xs:List mo)(i:Int):mo:=xs.getD i.toNat z88
theorem Tx{w:World}{A:Option Addr}{n:Nat}{xs:List mo}(h:Kd.C Ux w A n xs)(i:Int)(h0:0<=i)(h1:i<n):∃ad,A=some ad/\w.cell? (ad.add (i.toNat*2))=some (.int .i64 (xV xs i).f0)/\w.cell? ⟨(ad.add (i.toNat*2)).block,(ad.add (i.toNat*2)).off+1,none⟩=some (.int .i64 (xV xs i).f1):=by
 obtain⟨ad,c,e,_,hK,hc0⟩:=Kd.xG h z88 i h0 h1
 have hc:∀j u,c[j]?=some u->w.cell? (ad.add (i.toNat*2+j))=some u:=hc0
 obtain rfl:=JU hK
 exact⟨ad,e,hc 0 _ rfl,by rw[<- fG _ _ 1 (by omega)];exact hc 1 _ rfl⟩
structure dR where
 f0:Int
 f1:Int
 f2:mo
def z141:dR:=⟨(0:Int),(0:Int),z88⟩
def MO:Kd dR:=Kd.Vd (Kd.pair (Kd.int .i64) (Kd.pair (Kd.int .i64) Ux)) (fun x:dR=>(x.f0,x.f1,x.f2))
theorem P5{w:World}{x:dR}{cs:List Value}(h:MO.K w x cs):cs=[.int .i64 x.f0,.int .i64 x.f1,.int .i64 x.f2.f0,.int .i64 x.f2.f1]:=by
 obtain⟨_,_,rfl,rfl,⟨_,_,rfl,rfl,s2⟩⟩:=h
 obtain rfl:=JU s2
 exact rfl
def jr(xs:List dR)(i:Int):dR:=xs.getD i.toNat z141
theorem zB{w:World}{A:Option Addr}{n:Nat}{xs:List dR}(h:Kd.C MO w A n xs)(i:Int)(h0:0<=i)(h1:i<n):∃ad,A=some ad/\w.cell? (ad.add (i.toNat*4))=some (.int .i64 (jr xs i).f0)/\w.cell? ⟨(ad.add (i.toNat*4)).block,(ad.add (i.toNat*4)).off+1,none⟩=some (.int .i64 (jr xs i).f1)/\w.cell? ⟨(ad.add (i.toNat*4)).block,(ad.add (i.toNat*4)).off+2,none⟩=some (.int .i64 (jr xs i).f2.f0)/\w.cell? ⟨(ad.add (i.toNat*4)).block,(ad.add (i.toNat*4)).off+3,none⟩=some (.int .i64 (jr xs i).f2.f1):=by
 obtain⟨ad,c,e,_,hK,hc0⟩:=Kd.xG h z141 i h0 h1
 have hc:∀j u,c[j]?=some u->w.cell? (ad.add (i.toNat*4+j))=some u:=hc0
 obtain rfl:=P5 hK
 exact⟨ad,e,hc 0 _ rfl,by rw[<- fG _ _ 1 (by omega)];exact hc 1 _ rfl,by rw[<- fG _ _ 2 (by omega)];exact hc 2 _ rfl,by rw[<- fG _ _ 3 (by omega)];exact hc 3 _ rfl⟩
def gN.f(a0:Int)(a1:Int)(a2:Int):Option (Bool):=if a1<=a0 then(some (decide (a0<=a2))) else(some false)
set_option maxHeartbeats 8000000 in
set_option maxRecDepth 100000 in
theorem gN.calls(a0:Int)(a1:Int)(a2:Int)(r:Bool)(w:World)(h:gN.f a0 a1 a2=some r):
  Calls Tryz.prog 76 #[.int .i64 a0,.int .i64 a1,.int .i64 a2] w fun e w'=>e= .returned (.bool r)/\aU w w':=by
 have H:(if a1<=a0 then(some (decide (a0<=a2))) else(some false))=some r:=h
 clear h
 by_cases c4:a1<=a0
 .rw[if_pos c4] at H
  have lH:decide (a1<=a0)=true:=decide_eq_true c4
  clear c4
  obtain rfl:=Option.some.inj H
  go_enter Tryz.func76,Tryz.ntmps76
  go_wp2
  go_ret
  exact⟨by first|rfl|(simp;done)|(simp[*];done),by repeat(first|exact aU.refl _|apply aU.step)⟩
 .rw[if_neg c4] at H
  have lH:decide (a1<=a0)=false:=decide_eq_false c4
  clear c4
  obtain rfl:=Option.some.inj H
  go_enter Tryz.func76,Tryz.ntmps76
  go_wp2
  go_ret
  exact⟨by first|rfl|(simp;done)|(simp[*];done),by repeat(first|exact aU.refl _|apply aU.step)⟩
def ll.f(bA:List (mo))(jQ:List (dR))(a1:Int):Option (Bool):=(gN.f a1 0 (wrap64 ((bA.length:Int)-1))).bind fun t216=>(some t216)
set_option maxHeartbeats 8000000 in
set_option maxRecDepth 100000 in
theorem ll.calls(dC:Option Addr)(dB:Nat)(bA:List (mo))(BS:Option Addr)(Bh:Nat)(jQ:List (dR))(a1:Int)(r:Bool)(w:World)(yN:Kd.C Ux w dC bA.length bA)(yP:bA.length<=dB)(Kj:Kd.C MO w BS jQ.length jQ)(Kq:jQ.length<=Bh)(h:ll.f bA jQ a1=some r):
  Calls Tryz.prog 63 #[.agg #[.slice dC bA.length dB,.slice BS jQ.length Bh],.int .i64 a1] w fun e w'=>e= .returned (.bool r)/\Below w.heap.size w w':=by
 have huM:=Tryz.underlying78
 have KY:=aa.mk yN
 have YM:=aa.mk yP
 clear yN yP
 have YE:=aa.mk Kj
 have aft:=aa.mk Kq
 clear Kj Kq
 have HB:=aa.mk (Below.refl w.heap.size w)
 have H:((gN.f a1 0 (wrap64 ((bA.length:Int)-1))).bind fun t216=>(some t216))=some r:=h
 clear h
 replace H:=Option.bind_eq_some_iff.mp H
 obtain⟨t216,A30,H⟩:=H
 replace H:(some t216)=some r:=H
 have A3:=aa.mk A30
 clear A30
 obtain rfl:=Option.some.inj H
 go_enter Tryz.func63,Tryz.ntmps63
 go_wp2_with (first|((with_reducible refine bY (N:=2) rfl ?_);refine cZ ?hg (N:=2) ?hd (cs:=#[.slice dC bA.length dB,.slice BS jQ.length Bh]) (t:=78) ?hr ?_;(case hd=>rfl);(case hg=>rfl);(case hr=>first|(go_simp;done)|(go_simp;rfl));intro OG hg w4 dM hb;have iF:=aa.mk (bT (by repeat(first|(with_reducible first|exact HB.out|apply ae|apply ah|apply au)|exact HB.out)) hb);have iE:=aa.mk (dM);have jg:=aa.mk ((by rw[hg];exact(aT (by repeat(first|(with_reducible first|exact HB.out|apply ae|apply ah|apply au)|exact HB.out))):w.heap.size<=OG));have jH:=aa.mk ((by rw[hg];exact(aT (by repeat(first|(with_reducible first|exact HB.out|apply ae|apply ah|apply au)|exact HB.out))):w.heap.size<=OG));clear HB;have HB:=iF;have O5:=iE;have aoQ:=jg;have afB:=jH;clear iF iE jg jH;clear hb dM hg;have qJ:w4.cell? ⟨OG,0,none⟩=some (.slice dC bA.length dB):=(ak O5.out 0).trans rfl;have qI:w4.cell? ⟨OG,1,none⟩=some (.slice BS jQ.length Bh):=(ak O5.out 1).trans rfl;have qF:=ag O5.out 0;have qE:=ag O5.out 1)|((with_reducible refine bZ (f:=76) rfl ?_);refine iV (some 10) rfl rfl Tryz.func76 (by kernel_rfl) rfl #[.int .i64 a1,.int .i64 0,.int .i64 (wrap64 ((bA.length:Int)-1))] rfl (by(try simp only[List.map_toArray,List.map_cons,List.map_nil]);first|done|rfl|(simp only[List.length_drop,List.length_take];rfl)) ?_;(with_reducible refine(gN.calls a1 0 (wrap64 ((bA.length:Int)-1)) t216 _ A3.out).mono ?_);rintro e w' ⟨rfl,⟨nd,rfl⟩⟩;refine⟨_,rfl,?_⟩))
 go_ret
 exact⟨by first|rfl|(simp[aW,aV]<;>rfl)|(simp[*,aW,aV]<;>rfl),by repeat(first|(with_reducible first|exact HB.out|apply ae|apply ah|apply au|refine aH ?_ afB.out)|exact HB.out)⟩
def vB.f(a0:Int):Option (Bool):=(gN.f a0 0 10000).bind fun t221=>(some t221)
set_option maxHeartbeats 8000000 in
set_option maxRecDepth 100000 in
theorem vB.calls(a0:Int)(r:Bool)(w:World)(h:vB.f a0=some r):
  Calls Tryz.prog 74 #[.int .i64 a0] w fun e w'=>e= .returned (.bool r)/\aU w w':=by
 have H:((gN.f a0 0 10000).bind fun t221=>(some t221))=some r:=h
 clear h
 replace H:=Option.bind_eq_some_iff.mp H
 obtain⟨t221,CS,H⟩:=H
 replace H:(some t221)=some r:=H
 have A2:=aa.mk CS
 clear CS
 obtain rfl:=Option.some.inj H
 go_enter Tryz.func74,Tryz.ntmps74
 go_wp2_with (first|((with_reducible refine bZ (f:=76) rfl ?_);refine iV (some 4) rfl rfl Tryz.func76 (by kernel_rfl) rfl #[.int .i64 a0,.int .i64 0,.int .i64 10000] rfl (by(try simp only[List.map_toArray,List.map_cons,List.map_nil]);first|done|rfl|(simp only[List.length_drop,List.length_take];rfl)) ?_;(with_reducible refine(gN.calls a0 0 10000 t221 _ A2.out).mono ?_);rintro e w' ⟨rfl,⟨nd,rfl⟩⟩;refine⟨_,rfl,?_⟩))
 go_ret
 exact⟨by first|rfl|(simp;done)|(simp[*];done),by repeat(first|exact aU.refl _|apply aU.step)⟩
end Go.Proofs.YtkjoilgpmngndaaGreat.av
namespace Go.Proofs.YtkjoilgpmngndaaGreat.Wk
open Go.RowKit Go.Proofs.YtkjoilgpmngndaaGreat.av Go.Proofs.YtkjoilgpmngndaaGreatW.aA
def BG(g:Nat)(args:Array Value)(b:Bool)(w:World):Prop:=
 ∀(W:World),Below w.heap.size w W->Calls Tryz.prog g args W fun e w'=>e= .returned (.bool b)/\Below W.heap.size W w'
theorem BG.later{g:Nat}{args:Array Value}{b:Bool}{w W:World}(h:BG g args b w)(hb:Below w.heap.size w W):BG g args b W:=
 fun W' hb'=>h W' (hb.trans (hb'.mono hb.size))
def fi{α:Type}(p:α->Bool):List α->Nat->Int
 |[],_=> -1
 |x::xs,i=>if p x then(i:Int) else fi p xs (i+1)
theorem kS{α:Type}(p:α->Bool)(xs:List α)(i:Nat):decide (0<=fi p xs i)=xs.any p:=by
 induction xs generalizing i with
 |nil=>simp[fi]
 |cons x xs ih=>
  unfold fi
  by_cases h:p x=true
  .simp[h]
  .simp[h,ih]
theorem getD_drop{α:Type}(xs:List α)(k:Nat)(d:α)(h:k<xs.length):xs.drop k=xs.getD k d::xs.drop (k+1):=by
 rw[List.drop_eq_getElem_cons h]
 simp[List.getD,h]
theorem nH{α:Type}(p:α->Bool)(xs:List α)(k:Nat)(d:α)(h:k<xs.length):fi p (xs.drop k) k=if p (xs.getD k d) then(k:Int) else fi p (xs.drop (k+1)) (k+1):=by
 rw[getD_drop xs k d h]
 rfl
theorem bR{w a b:World}(h:Below w.heap.size w a)(k:Below a.heap.size a b):Below w.heap.size w b:=h.trans (k.mono h.size)
theorem bP{a b:Bool}(h:a=b):Ending.returned (.bool a)= .returned (.bool b):=by rw[h]
theorem fO{k:IntKind}{a b:Int}(h:a=b):Ending.returned (.int k a)= .returned (.int k b):=by rw[h]
theorem enters {g:Nat} {fn:Func} {c:Code} (hf:Tryz.prog.funcs[g]?=some fn) (hname:(fn.name== "runtime.NumGoroutine")=false) (hb:fn.body=some c):
  ∀args w,(callFunc g args).run Tryz.prog w= .ok (.enter g args) w:=by
 intro args w
 have h1:fn.name≠ "runtime.NumGoroutine" :=by simpa using hname
 simp[callFunc,hf,h1,hb,mark]
def aY(n lo hi:Int):Bool:=decide (lo<=n)&&decide (n<=hi)
theorem iq(n lo hi:Int)(w:World):
  Calls Tryz.prog 76 #[.int .i64 n,.int .i64 lo,.int .i64 hi] w fun e w'=>e= .returned (.bool (aY n lo hi))/\Below w.heap.size w w':=by
 refine(gN.calls n lo hi (aY n lo hi) w ?_).mono ?_
 .unfold gN.f aY
  by_cases h:lo<=n<;>simp[h]
 .rintro e w' ⟨h1,h2⟩
  exact⟨h1,h2.below⟩
def gW(lo hi a b:Int):Bool:=decide (a<=lo)&&(decide (lo<=hi)&&decide (hi<=b))
theorem nG(lo hi a b:Int)(w:World):
  Calls Tryz.prog 109 #[.agg #[.int .i64 lo,.int .i64 hi],.int .i64 a,.int .i64 b] w fun e w'=>e= .returned (.bool (gW lo hi a b))/\Below w.heap.size w w':=by
 refine eX.calls lo hi a b (gW lo hi a b) w ?_
 unfold eX.f gW
 by_cases h:a<=lo<;>by_cases h':lo<=hi<;>simp[h,h']
def DW(r:dR)(a b:Int):Bool:=r.f0==a&&r.f1==b||r.f0==b&&r.f1==a
def Ye(x:dR):Value:= .agg #[.int .i64 x.f0,.int .i64 x.f1,.int .i64 x.f2.f0,.int .i64 x.f2.f1]
set_option maxHeartbeats 400000 in
theorem JY(ra rb lo hi a b:Int)(w:World):
  Calls Tryz.prog 128 #[.agg #[.int .i64 ra,.int .i64 rb,.int .i64 lo,.int .i64 hi],.int .i64 a,.int .i64 b] w fun e w'=>e= .returned (.bool (ra==a&&rb==b||ra==b&&rb==a))/\Below w.heap.size w w':=by
 cases h1:ra==a<;>cases h2:rb==b<;>cases h3:ra==b<;>cases h4:rb==a
 all_goals
  go_enter Tryz.func128,Tryz.ntmps128
  go_wp2
  go_ret
  exact⟨by simp,(Below.refl _ _).alloc (Nat.le_refl _) _⟩
set_option maxHeartbeats 400000 in
theorem Jt(x:dR)(a b:Int)(ga gb:Nat)(w:World)(ha:w.cell? ⟨ga,0,none⟩=some (.int .i64 a))(hb:w.cell? ⟨gb,0,none⟩=some (.int .i64 b)):
  Calls Tryz.prog 127 #[Ye x,.pointer (some ⟨ga,0,none⟩),.pointer (some ⟨gb,0,none⟩)] w fun e w'=>e= .returned (.bool (DW x a b))/\Below w.heap.size w w':=by
 unfold Ye
 have hga:ga<w.heap.size:=World.block_lt_of_cell? w _ ha
 have hgb:gb<w.heap.size:=World.block_lt_of_cell? w _ hb
 go_enter Tryz.func127,Tryz.ntmps127
 go_wp2_with fail
 refine(JY _ _ _ _ _ _ _).mono ?_
 rintro e w' ⟨rfl,hb'⟩
 go_wp2
 go_ret
 exact⟨rfl,bR ((Below.refl _ _).alloc (Nat.le_refl _) _) hb'⟩
end Go.Proofs.YtkjoilgpmngndaaGreat.Wk
namespace Go.Proofs.YtkjoilgpmngndaaGreat.Wk
open Go.RowKit Go.Proofs.YtkjoilgpmngndaaGreat.av Go.Proofs.YtkjoilgpmngndaaGreatW.aA
def dG(xs:List mo)(k:Nat):mo:=xV xs (k:Int)
def bN(xs:List dR)(k:Nat):dR:=jr xs (k:Int)
def dE(xs:List Int)(k:Nat):Int:=rd xs (k:Int)
def nM(x:mo):Value:= .agg #[.int .i64 x.f0,.int .i64 x.f1]
def j3(g:Nat)(first cap:Array Value)(p:mo->Bool)(w:World):Prop:=
 ∀(W:World) (x:mo),Below w.heap.size w W->Calls Tryz.prog g (first.push (nM x)++cap) W fun e w'=>e= .returned (.bool (p x))/\Below W.heap.size W w'
theorem j3.later{g:Nat}{first cap:Array Value}{p:mo->Bool}{w W:World}(h:j3 g first cap p w)(hb:Below w.heap.size w W):j3 g first cap p W:=
 fun W' x hb'=>h W' x (hb.trans (hb'.mono hb.size))
set_option maxHeartbeats 1000000 in
theorem J7(g:Nat)(cap:Array Value)(hg:∀args w,(callFunc g args).run Tryz.prog w= .ok (.enter g args) w)(p:mo->Bool)(A:Option Addr)(c:Nat)(xs:List mo)(w:World)
  (hr:Kd.C Ux w A xs.length xs) (hlen:xs.length<=9223372036854775807) (hp:j3 g #[] cap p w):
  Calls Tryz.prog 133 #[.slice A xs.length c,.func (.func g) #[] cap] w fun e w'=>e= .returned (.int .i64 (fi p xs 0))/\Below w.heap.size w w':=by
 have HR:=aa.mk hr
 have HP:=aa.mk hp
 clear hr hp
 go_enter Tryz.func133,Tryz.ntmps133
 go_wp2
 go_loopw [8] (fun v wr=>∃k:Nat,k<=xs.length/\v= .int .i64 k/\aa (Below w.heap.size w wr)/\aa (fi p xs 0=fi p (xs.drop k) k)) (fun v _=>xs.length-(intOf v).toNat)
 case atStart=>exact⟨0,Nat.zero_le _,rfl,⟨Below.refl _ _⟩,⟨rfl⟩⟩
 case round=>
  obtain⟨k,hk,rfl,HB,HF⟩:=hrel
  by_cases hlt:k<xs.length
  .obtain⟨ad,e,h0,h1⟩:=Tx HR.out k (by omega) (by omega)
   cases e
   have hb:=HB.out
   replace h0:=(hb.cell (World.block_lt_of_cell? w _ h0)).trans h0
   replace h1:=(hb.cell (World.block_lt_of_cell? w _ h1)).trans h1
   simp only[Int.toNat_natCast] at h0 h1
   clear hb HR
   go_wp2_with fail
   have hc:=HP.out wr (dG xs k) HB.out
   simp only[nM,dG,List.push_toArray,List.nil_append] at hc
   have hfs:=aa.mk (nH p xs k z88 hlt)
   rw[show xs.getD k z88=dG xs k from by simp[dG,xV,Int.toNat_natCast]] at hfs
   have HX:aa (∃y,y=dG xs k):=⟨⟨_,rfl⟩⟩
   refine(hc).mono ?_
   rintro e w' ⟨rfl,hb'⟩
   have xN:=aa.mk (bR HB.out hb')
   clear hb' h0 h1 hc HB
   cases hpx:p (dG xs k)
   .simp only[dG] at hpx
    have oD:=aa.mk hpx
    clear hpx
    simp only[oD.out]
    go_wp2
    go_roundw
    case rel=>exact⟨k+1,by omega,by go_num,xN,⟨by rw[HF.out,hfs.out,if_neg (by simp[dG,oD.out])]⟩⟩
    case measure=>simp[intOf];omega
   .simp only[dG] at hpx
    have oD:=aa.mk hpx
    clear hpx
    simp only[oD.out]
    go_wp2
    go_ret
    exact⟨fO (by rw[HF.out,hfs.out,if_pos (by simp[dG,oD.out])]),xN.out⟩
  .have hk':k=xs.length:=by omega
   subst hk'
   go_wp2
   go_ret
   exact⟨fO (by rw[HF.out,List.drop_length];rfl),HB.out⟩
def Kw(x:dR):Value:= .agg #[.int .i64 x.f0,.int .i64 x.f1,.int .i64 x.f2.f0,.int .i64 x.f2.f1]
def sP(g:Nat)(first cap:Array Value)(p:dR->Bool)(w:World):Prop:=
 ∀(W:World) (x:dR),Below w.heap.size w W->Calls Tryz.prog g (first.push (Kw x)++cap) W fun e w'=>e= .returned (.bool (p x))/\Below W.heap.size W w'
theorem sP.later{g:Nat}{first cap:Array Value}{p:dR->Bool}{w W:World}(h:sP g first cap p w)(hb:Below w.heap.size w W):sP g first cap p W:=
 fun W' x hb'=>h W' x (hb.trans (hb'.mono hb.size))
set_option maxHeartbeats 1000000 in
theorem MV(g:Nat)(cap:Array Value)(hg:∀args w,(callFunc g args).run Tryz.prog w= .ok (.enter g args) w)(p:dR->Bool)(A:Option Addr)(c:Nat)(xs:List dR)(w:World)
  (hr:Kd.C MO w A xs.length xs) (hlen:xs.length<=9223372036854775807) (hp:sP g #[] cap p w):
  Calls Tryz.prog 126 #[.slice A xs.length c,.func (.func g) #[] cap] w fun e w'=>e= .returned (.int .i64 (fi p xs 0))/\Below w.heap.size w w':=by
 have HR:=aa.mk hr
 have HP:=aa.mk hp
 clear hr hp
 go_enter Tryz.func126,Tryz.ntmps126
 go_wp2
 go_loopw [8] (fun v wr=>∃k:Nat,k<=xs.length/\v= .int .i64 k/\aa (Below w.heap.size w wr)/\aa (fi p xs 0=fi p (xs.drop k) k)) (fun v _=>xs.length-(intOf v).toNat)
 case atStart=>exact⟨0,Nat.zero_le _,rfl,⟨Below.refl _ _⟩,⟨rfl⟩⟩
 case round=>
  obtain⟨k,hk,rfl,HB,HF⟩:=hrel
  by_cases hlt:k<xs.length
  .obtain⟨ad,e,h0,h1,h2,h3⟩:=zB HR.out k (by omega) (by omega)
   cases e
   have hb:=HB.out
   replace h0:=(hb.cell (World.block_lt_of_cell? w _ h0)).trans h0
   replace h1:=(hb.cell (World.block_lt_of_cell? w _ h1)).trans h1
   replace h2:=(hb.cell (World.block_lt_of_cell? w _ h2)).trans h2
   replace h3:=(hb.cell (World.block_lt_of_cell? w _ h3)).trans h3
   simp only[Int.toNat_natCast] at h0 h1 h2 h3
   clear hb HR
   go_wp2_with fail
   have hc:=HP.out wr (bN xs k) HB.out
   simp only[Kw,bN,List.push_toArray,List.nil_append] at hc
   have hfs:=aa.mk (nH p xs k z141 hlt)
   rw[show xs.getD k z141=bN xs k from by simp[bN,jr,Int.toNat_natCast]] at hfs
   have HX:aa (∃y,y=bN xs k):=⟨⟨_,rfl⟩⟩
   refine(hc).mono ?_
   rintro e w' ⟨rfl,hb'⟩
   have xN:=aa.mk (bR HB.out hb')
   clear hb' h0 h1 h2 h3 hc HB
   cases hpx:p (bN xs k)
   .simp only[bN] at hpx
    have oD:=aa.mk hpx
    clear hpx
    simp only[oD.out]
    go_wp2
    go_roundw
    case rel=>exact⟨k+1,by omega,by go_num,xN,⟨by rw[HF.out,hfs.out,if_neg (by simp[bN,oD.out])]⟩⟩
    case measure=>simp[intOf];omega
   .simp only[bN] at hpx
    have oD:=aa.mk hpx
    clear hpx
    simp only[oD.out]
    go_wp2
    go_ret
    exact⟨fO (by rw[HF.out,hfs.out,if_pos (by simp[bN,oD.out])]),xN.out⟩
  .have hk':k=xs.length:=by omega
   subst hk'
   go_wp2
   go_ret
   exact⟨fO (by rw[HF.out,List.drop_length];rfl),HB.out⟩
def jO(x:Int):Value:= .int .i64 x
def gQ(g:Nat)(first cap:Array Value)(p:Int->Bool)(w:World):Prop:=
 ∀(W:World) (x:Int),Below w.heap.size w W->Calls Tryz.prog g (first.push (jO x)++cap) W fun e w'=>e= .returned (.bool (p x))/\Below W.heap.size W w'
theorem gQ.later{g:Nat}{first cap:Array Value}{p:Int->Bool}{w W:World}(h:gQ g first cap p w)(hb:Below w.heap.size w W):gQ g first cap p W:=
 fun W' x hb'=>h W' x (hb.trans (hb'.mono hb.size))
set_option maxHeartbeats 1000000 in
theorem yg(g:Nat)(cap:Array Value)(hg:∀args w,(callFunc g args).run Tryz.prog w= .ok (.enter g args) w)(p:Int->Bool)(A:Option Addr)(c:Nat)(xs:List Int)(w:World)
  (hr:Kd.C (Kd.int .i64) w A xs.length xs) (hlen:xs.length<=9223372036854775807) (hp:gQ g #[] cap p w):
  Calls Tryz.prog 131 #[.slice A xs.length c,.func (.func g) #[] cap] w fun e w'=>e= .returned (.int .i64 (fi p xs 0))/\Below w.heap.size w w':=by
 have HR:=aa.mk hr
 have HP:=aa.mk hp
 clear hr hp
 go_enter Tryz.func131,Tryz.ntmps131
 go_wp2
 go_loopw [8] (fun v wr=>∃k:Nat,k<=xs.length/\v= .int .i64 k/\aa (Below w.heap.size w wr)/\aa (fi p xs 0=fi p (xs.drop k) k)) (fun v _=>xs.length-(intOf v).toNat)
 case atStart=>exact⟨0,Nat.zero_le _,rfl,⟨Below.refl _ _⟩,⟨rfl⟩⟩
 case round=>
  obtain⟨k,hk,rfl,HB,HF⟩:=hrel
  by_cases hlt:k<xs.length
  .obtain⟨ad,e,h0⟩:=Kd.dz HR.out k (by omega) (by omega)
   cases e
   have hb:=HB.out
   replace h0:=(hb.cell (World.block_lt_of_cell? w _ h0)).trans h0
   simp only[Int.toNat_natCast] at h0
   clear hb HR
   go_wp2_with fail
   have hc:=HP.out wr (dE xs k) HB.out
   simp only[jO,dE,List.push_toArray,List.nil_append] at hc
   have hfs:=aa.mk (nH p xs k 0 hlt)
   rw[show xs.getD k 0=dE xs k from by simp[dE,rd,Int.toNat_natCast]] at hfs
   have HX:aa (∃y,y=dE xs k):=⟨⟨_,rfl⟩⟩
   refine(hc).mono ?_
   rintro e w' ⟨rfl,hb'⟩
   have xN:=aa.mk (bR HB.out hb')
   clear hb' h0 hc HB
   cases hpx:p (dE xs k)
   .simp only[dE] at hpx
    have oD:=aa.mk hpx
    clear hpx
    simp only[oD.out]
    go_wp2
    go_roundw
    case rel=>exact⟨k+1,by omega,by go_num,xN,⟨by rw[HF.out,hfs.out,if_neg (by simp[dE,oD.out])]⟩⟩
    case measure=>simp[intOf];omega
   .simp only[dE] at hpx
    have oD:=aa.mk hpx
    clear hpx
    simp only[oD.out]
    go_wp2
    go_ret
    exact⟨fO (by rw[HF.out,hfs.out,if_pos (by simp[dE,oD.out])]),xN.out⟩
  .have hk':k=xs.length:=by omega
   subst hk'
   go_wp2
   go_ret
   exact⟨fO (by rw[HF.out,List.drop_length];rfl),HB.out⟩
theorem AZ(g:Nat)(cap:Array Value)(hg:∀args w,(callFunc g args).run Tryz.prog w= .ok (.enter g args) w)(p:mo->Bool)(A:Option Addr)(c:Nat)(xs:List mo)(w:World)
  (hr:Kd.C Ux w A xs.length xs) (hlen:xs.length<=9223372036854775807) (hp:j3 g #[] cap p w):
  Calls Tryz.prog 107 #[.slice A xs.length c,.func (.func g) #[] cap] w fun e w'=>e= .returned (.bool (xs.any p))/\Below w.heap.size w w':=by
 go_enter Tryz.func107,Tryz.ntmps107
 go_wp2_with fail
 refine(J7 g cap hg p A c xs w hr hlen hp).mono ?_
 rintro e w' ⟨rfl,hb⟩
 obtain⟨j,hj⟩:∃j,fi p xs 0=j:=⟨_,rfl⟩
 have hn:=aa.mk (kS p xs 0)
 rw[hj] at hn ⊢
 clear hj
 go_wp2
 go_ret
 exact⟨bP (by rw[<- hn.out]),hb⟩
theorem nI(g:Nat)(cap:Array Value)(hg:∀args w,(callFunc g args).run Tryz.prog w= .ok (.enter g args) w)(p:Int->Bool)(A:Option Addr)(c:Nat)(xs:List Int)(w:World)
  (hr:Kd.C (Kd.int .i64) w A xs.length xs) (hlen:xs.length<=9223372036854775807) (hp:gQ g #[] cap p w):
  Calls Tryz.prog 103 #[.slice A xs.length c,.func (.func g) #[] cap] w fun e w'=>e= .returned (.bool (xs.any p))/\Below w.heap.size w w':=by
 go_enter Tryz.func103,Tryz.ntmps103
 go_wp2_with fail
 refine(yg g cap hg p A c xs w hr hlen hp).mono ?_
 rintro e w' ⟨rfl,hb⟩
 obtain⟨j,hj⟩:∃j,fi p xs 0=j:=⟨_,rfl⟩
 have hn:=aa.mk (kS p xs 0)
 rw[hj] at hn ⊢
 clear hj
 go_wp2
 go_ret
 exact⟨bP (by rw[<- hn.out]),hb⟩
theorem Nv(g:Nat)(first cap:Array Value)(hg:∀args w,(callFunc g args).run Tryz.prog w= .ok (.enter g args) w)(p:mo->Bool)(x:mo)(gp:Nat)(w:World)
  (hc:w.cell? ⟨gp,0,none⟩=some (.func (.func g) first cap)) (hp:j3 g first cap p w):
  Calls Tryz.prog 108 ((#[]:Array Value).push (nM x)++#[.pointer (some ⟨gp,0,none⟩)]) w fun e w'=>e= .returned (.bool (!p x))/\Below w.heap.size w w':=by
 simp only[Array.empty_append,List.push_toArray,List.append_toArray,List.nil_append,List.cons_append,nM]
 have Ow:gp<w.heap.size:=World.block_lt_of_cell? w _ hc
 have HP:=aa.mk hp
 clear hp
 go_enter Tryz.func108,Tryz.ntmps108
 go_wp2_with fail
 have hc:=HP.out _ x ((Below.refl w.heap.size w).alloc (Nat.le_refl _) (.cells #[.int .i64 x.f0,.int .i64 x.f1] 88))
 simp only[nM] at hc
 refine hc.mono ?_
 rintro e w' ⟨rfl,hb⟩
 obtain⟨b,hb1⟩:∃b,p x=b:=⟨_,rfl⟩
 rw[hb1]
 go_wp2
 go_ret
 exact⟨bP (by rw[hb1]),bR ((Below.refl w.heap.size w).alloc (Nat.le_refl _) (.cells #[.int .i64 x.f0,.int .i64 x.f1] 88)) hb⟩
theorem QB(g:Nat)(first cap:Array Value)(hg:∀args w,(callFunc g args).run Tryz.prog w= .ok (.enter g args) w)(p:mo->Bool)(A:Option Addr)(c:Nat)(xs:List mo)(w:World)
  (hr:Kd.C Ux w A xs.length xs) (hlen:xs.length<=9223372036854775807) (hp:j3 g first cap p w):
  Calls Tryz.prog 70 #[.slice A xs.length c,.func (.func g) first cap] w fun e w'=>e= .returned (.bool (xs.all p))/\Below w.heap.size w w':=by
 go_enter Tryz.func70,Tryz.ntmps70
 have HR:=aa.mk hr
 have HP:=aa.mk hp
 clear hr hp
 go_wp2_with fail
 have hB:Below w.heap.size w (w.alloc (.cells #[.func (.func g) first cap] 164)):=(Below.refl _ _).alloc (Nat.le_refl _) _
 refine(AZ 108 #[.pointer (some ⟨w.heap.size,0,none⟩)] (enters Tryz.func108 (by kernel_rfl) rfl) (fun x=>!p x) A c xs _ (Kd.aK HR.out hB) hlen ?_).mono ?_
 .intro W x hW
  refine Nv g first cap hg p x w.heap.size W ?_ (HP.out.later (hB.trans (hW.mono hB.size)))
  rw[hW.cell (p:=⟨w.heap.size,0,none⟩) (by simp)]
  simp
 rintro e w' ⟨rfl,hb⟩
 have hn:=aa.mk (List.any_eq_not_all_not (l:=xs) (p:=fun x=>!p x))
 obtain⟨j,hj⟩:∃j,(xs.any fun x=>!p x)=j:=⟨_,rfl⟩
 rw[hj] at hn ⊢
 clear hj
 go_wp2
 go_ret
 exact⟨bP (by rw[hn.out];simp),bR hB hb⟩
theorem Bj(g:Nat)(first cap:Array Value)(hg:∀args w,(callFunc g args).run Tryz.prog w= .ok (.enter g args) w)(p:Int->Bool)(x:Int)(gp:Nat)(w:World)
  (hc:w.cell? ⟨gp,0,none⟩=some (.func (.func g) first cap)) (hp:gQ g first cap p w):
  Calls Tryz.prog 104 ((#[]:Array Value).push (jO x)++#[.pointer (some ⟨gp,0,none⟩)]) w fun e w'=>e= .returned (.bool (!p x))/\Below w.heap.size w w':=by
 simp only[Array.empty_append,List.push_toArray,List.append_toArray,List.nil_append,List.cons_append,jO]
 have Ow:gp<w.heap.size:=World.block_lt_of_cell? w _ hc
 have HP:=aa.mk hp
 clear hp
 go_enter Tryz.func104,Tryz.ntmps104
 go_wp2_with fail
 have hc:=HP.out _ x (Below.refl _ _)
 simp only[jO] at hc
 refine hc.mono ?_
 rintro e w' ⟨rfl,hb⟩
 obtain⟨b,hb1⟩:∃b,p x=b:=⟨_,rfl⟩
 rw[hb1]
 go_wp2
 go_ret
 exact⟨bP (by rw[hb1]),bR (Below.refl _ _) hb⟩
theorem Iw(g:Nat)(first cap:Array Value)(hg:∀args w,(callFunc g args).run Tryz.prog w= .ok (.enter g args) w)(p:Int->Bool)(A:Option Addr)(c:Nat)(xs:List Int)(w:World)
  (hr:Kd.C (Kd.int .i64) w A xs.length xs) (hlen:xs.length<=9223372036854775807) (hp:gQ g first cap p w):
  Calls Tryz.prog 67 #[.slice A xs.length c,.func (.func g) first cap] w fun e w'=>e= .returned (.bool (xs.all p))/\Below w.heap.size w w':=by
 go_enter Tryz.func67,Tryz.ntmps67
 have HR:=aa.mk hr
 have HP:=aa.mk hp
 clear hr hp
 go_wp2_with fail
 have hB:Below w.heap.size w (w.alloc (.cells #[.func (.func g) first cap] 118)):=(Below.refl _ _).alloc (Nat.le_refl _) _
 refine(nI 104 #[.pointer (some ⟨w.heap.size,0,none⟩)] (enters Tryz.func104 (by kernel_rfl) rfl) (fun x=>!p x) A c xs _ (Kd.aK HR.out hB) hlen ?_).mono ?_
 .intro W x hW
  refine Bj g first cap hg p x w.heap.size W ?_ (HP.out.later (hB.trans (hW.mono hB.size)))
  rw[hW.cell (p:=⟨w.heap.size,0,none⟩) (by simp)]
  simp
 rintro e w' ⟨rfl,hb⟩
 have hn:=aa.mk (List.any_eq_not_all_not (l:=xs) (p:=fun x=>!p x))
 obtain⟨j,hj⟩:∃j,(xs.any fun x=>!p x)=j:=⟨_,rfl⟩
 rw[hj] at hn ⊢
 clear hj
 go_wp2
 go_ret
 exact⟨bP (by rw[hn.out];simp),bR hB hb⟩
end Go.Proofs.YtkjoilgpmngndaaGreat.Wk
