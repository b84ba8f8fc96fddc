import Derived.DeepKeys3
import Derived.Maps.Keyed
import Derived.Test.YtdekaocdmjndaaaGreatQ14
set_option maxRecDepth 100000
set_option linter.all false
namespace Go.Proofs.YtdekaocdmjndaaaGreat
open Go.RowKit Go.Shelf ah YtdekaocdmjndaaaGreatW.aj YtdekaocdmjndaaaGreatW.aH
def Tj.T4:Bool×List (List Nat×List Nat):=(true,[([],[]),([],[]),([1],[1]),([2],[2]),([0,3],[0,3])])
def Tj.B4:List Nat:=[0,0,2,6,15]
theorem Tj.MC:eB .any (opsOf Tryz.f144 4)=Tj.T4:=by kernel_rfl
theorem Tj.Fj:bI Tj.T4.2 Tj.B4=true:=by kernel_rfl
structure aga(w0:World)(gw gr gk:Nat)(base row:Int)(Ar:Option Addr)(rl cr:Nat)(Af:Option Addr)(fl cf:Nat)(W:World):Prop where
 w:W.cell? ⟨gw,0,none⟩=some (.pointer (some ⟨gk,0,none⟩))
 k0:W.cell? ⟨gk,0,none⟩=some (.int .i64 base)
 k1:W.cell? ⟨gk,1,none⟩=some (.slice Ar rl cr)
 k2:W.cell? ⟨gk,2,none⟩=some (.slice Af fl cf)
 r:W.cell? ⟨gr,0,none⟩=some (.int .i64 row)
 b:Below w0.heap.size w0 W
theorem lu.below{β:Type}{lo hi:Nat}{I:β->World->Prop}(h:lu lo hi I){s:β}{W W':World}(hb:Below W.heap.size W W')(hs:I s W):I s W':=h s W W' none hs (jy hb none) (λr e=>by cases e)
set_option maxHeartbeats 40000000 in
theorem Fh{w0 w:World}{gw gr gk N:Nat}{base:Int}{row:Nat}{rows:List (List Int)}{Ar Af:Option Addr}{cr cf:Nat}{fx:List dh}{S:Nat->Prop}
  (hT:wE w0 Ar cr base rows Af cf fx) (hfx:∀f ∈ fx,0<=f.f1/\f.f1<(rows.getD 0 []).length) (hf:fx.length<=1000) (hrow:row<rows.length)
  (hE:uh S w (aga w0 gw gr gk base row Ar rows.length cr Af fx.length cf)) (hS:∀b,S b->b<w.heap.size+2) (hS0:∀b,S b->w0.heap.size<=b) (hN:(dF base (zl base (rows.getD row []) fx row) (rows.getD row []) []).length<=N):
  O8 Tryz.prog 144 #[.pointer (some ⟨gw,0,none⟩),.pointer (some ⟨gr,0,none⟩)] 4 (X3 (w.heap.size+6) (dF base (zl base (rows.getD row []) fx row) (rows.getD row []) [])) enc3 (λA B=>aY A.heap.size S A B)
   (λys=>ys.map (·.1)=dF base (zl base (rows.getD row []) fx row) (rows.getD row []) []) N w:=by
 intro l J W Mg hsz hJ hY h0
 have HT:=aa.mk hT
 have HE:=aa.mk (hE.below Mg)
 have HEw:=aa.mk hE
 have HBw:=aa.mk Mg
 have HY:=aa.mk hY
 have HJ:=aa.mk hJ
 have H0:=aa.mk h0
 have HN:=aa.mk hN
 have HFX:=aa.mk hfx
 have HS:=aa.mk hS
 have HS0:=aa.mk hS0
 have HSZ:=aa.mk hsz
 have hrn:=hT.n
 obtain⟨ad,Ac,c,e,hc1,hc2,hC⟩:=Fv hT.kr (row:Int) (by omega) (by omega)
 cases e
 have hrd:tO rows (row:Int)=rows.getD row []:=rfl
 rw[hrd] at hc1 hc2 hC
 have hml:=hT.l (rows.getD row []) (by rw[List.getD_eq_getElem?_getD,List.getElem?_eq_getElem hrow];exact List.getElem_mem hrow)
 have hcl:=hT.x (rows.getD row []) (by rw[List.getD_eq_getElem?_getD,List.getElem?_eq_getElem hrow];exact List.getElem_mem hrow)
 have PV:=hT.l4
 rw[<- hml] at PV hfx
 have hb0:=hT.b0
 have hb1:=hT.b1
 have hcf:=hT.hcf
 obtain⟨cells,hcells⟩:∃c,rows.getD row []=c:=⟨_,rfl⟩
 rw[hcells] at hc1 hc2 hC hcl PV hfx hN hY HY HN ⊢
 obtain⟨all,hall⟩:∃a,dF base (zl base cells fx row) cells []=a:=⟨_,rfl⟩
 rw[hall] at hN hY HY HN ⊢
 obtain⟨m,hm⟩:∃m,cells.length=m:=⟨_,rfl⟩
 rw[hm] at hc1 hc2 hC PV hfx
 have hbW:=HE.out.now.b
 have hcW:=(hbW.cell (p:=ad.add (row:Int).toNat) (World.block_lt_of_cell? _ _ hc1)).trans hc1
 have HC:=aa.mk hC
 have HML:=aa.mk hm
 have IG:=aa.mk hall
 have Pq:=aa.mk hcl
 have qO:=aa.mk hfx
 rw[Int.toNat_natCast] at hcW
 have hgk:=World.block_lt_of_cell? _ _ HE.out.now.k0
 have hgw:=World.block_lt_of_cell? _ _ HE.out.now.w
 have hgr:=World.block_lt_of_cell? _ _ HE.out.now.r
 have ak9:=World.block_lt_of_cell? _ _ hcW
 simp only at hgk hgw hgr
 have e1:=HE.out.now.w
 have e2:=HE.out.now.k1
 have e3:=HE.out.now.r
 have Yn:(row:Int)<(rows.length:Int):=by omega
 clear hT hE hY hJ h0 hN hfx hS hS0 hsz hc1 hC hrd hml hm hall hcl hcells hbW Mg
 simp only[List.append_toArray,List.cons_append,List.nil_append]
 go_enter Tryz.func144,Tryz.ntmps144
 go_wp2_with fail
 go_region
 go_wp2_with fail
 have hY0:=aV.new W [.func (.yield l) #[] #[]] 265
 have hY1:=aV.second W (.cells #[.func (.yield l) #[] #[]] 265) [.slice Ac m c] 30
 have hY2:=aV.second (W.alloc (.cells #[.func (.yield l) #[] #[]] 265)) (.cells #[.slice Ac m c] 30) [.func (.func 145) #[] #[.pointer (some ⟨W.heap.size+1,0,none⟩),.pointer (some ⟨gw,0,none⟩),.pointer (some ⟨gr,0,none⟩),.pointer (some ⟨W.heap.size,0,none⟩),.pointer (some ⟨W.heap.size+2,0,none⟩)]] 265
 have dK:=ae (ae (ae (Below.refl W.heap.size W) (.cells #[.func (.yield l) #[] #[]] 265)) (.cells #[.slice Ac m c] 30)) (.cells #[.func (.func 145) #[] #[.pointer (some ⟨W.heap.size+1,0,none⟩),.pointer (some ⟨gw,0,none⟩),.pointer (some ⟨gr,0,none⟩),.pointer (some ⟨W.heap.size,0,none⟩),.pointer (some ⟨W.heap.size+2,0,none⟩)]] 265)
 have hs3:(((W.alloc (.cells #[.func (.yield l) #[] #[]] 265)).alloc (.cells #[.slice Ac m c] 30)).alloc (.cells #[.func (.func 145) #[] #[.pointer (some ⟨W.heap.size+1,0,none⟩),.pointer (some ⟨gw,0,none⟩),.pointer (some ⟨gr,0,none⟩),.pointer (some ⟨W.heap.size,0,none⟩),.pointer (some ⟨W.heap.size+2,0,none⟩)]] 265)).heap.size=W.heap.size+3:=by simp
 have BY:=aa.mk ((hY0.alloc (.cells #[.slice Ac m c] 30)).alloc (.cells #[.func (.func 145) #[] #[.pointer (some ⟨W.heap.size+1,0,none⟩),.pointer (some ⟨gw,0,none⟩),.pointer (some ⟨gr,0,none⟩),.pointer (some ⟨W.heap.size,0,none⟩),.pointer (some ⟨W.heap.size+2,0,none⟩)]] 265))
 have BC:=aa.mk (hY1.alloc (.cells #[.func (.func 145) #[] #[.pointer (some ⟨W.heap.size+1,0,none⟩),.pointer (some ⟨gw,0,none⟩),.pointer (some ⟨gr,0,none⟩),.pointer (some ⟨W.heap.size,0,none⟩),.pointer (some ⟨W.heap.size+2,0,none⟩)]] 265))
 have BH:=aa.mk (show aV _ (W.heap.size+2) _ _ by simpa using hY2)
 have HB:=aa.mk dK
 have yK:=aa.mk hs3
 clear hY0 hY1 hY2 dK hs3 e1 e2 e3
 rw[show W.heap.size+1+1=W.heap.size+2 from rfl]
 rw[show W.heap.size+1+1=W.heap.size+2 from rfl] at BY BC BH HB yK
 generalize((W.alloc (.cells #[.func (.yield l) #[] #[]] 265)).alloc (.cells #[.slice Ac m c] 30)).alloc (.cells #[.func (.func 145) #[] #[.pointer (some ⟨W.heap.size+1,0,none⟩),.pointer (some ⟨gw,0,none⟩),.pointer (some ⟨gr,0,none⟩),.pointer (some ⟨W.heap.size,0,none⟩),.pointer (some ⟨W.heap.size+2,0,none⟩)]] 265)=w3 at BY BC BH HB yK ⊢
 have hmk:∀V:World,(Instr.makeSlice 30 (.int .i64 0) (.int .i64 (m:Int))).run Tryz.prog V= .ok (.slice (some ⟨V.heap.size,0,none⟩) 0 m) (V.alloc (.cells (madeCells #[.int .i64 0] m) 3)):=λV=>by
  obtain⟨i,hi,hi2⟩:=Option.map_eq_some_iff.1 sM
  simp only[Prod.mk.injEq] at hi2
  have:=run_make (P:=Tryz.prog) V 30 3 i (.int .i64 0) Tryz.underlying30 hi hi2.1 .i64 .i64 0 (m:Int) (by omega) (by omega) (by rw[hi2.2.2];omega) (by omega)
  rw[hi2.2.1,Int.toNat_natCast,Int.toNat_zero,Nat.mul_one] at this
  exact this
 refine fF (n:=5) (S:=λw'=>w'.cell? ⟨W.heap.size+1,0,none⟩=some (.slice Ac m c)/\w'.cell? ⟨W.heap.size+2,0,none⟩=some (.func (.func 145) #[] #[.pointer (some ⟨W.heap.size+1,0,none⟩),.pointer (some ⟨gw,0,none⟩),.pointer (some ⟨gr,0,none⟩),.pointer (some ⟨W.heap.size,0,none⟩),.pointer (some ⟨W.heap.size+2,0,none⟩)])) (ds:=[4]) #[O,O,O,O,O] (by kernel_rfl) rfl rfl ⟨BC.out.cell 0,BH.out.cell 0⟩ (λhHeld=>?_);refine bG Tj.MC Tj.Fj (λau cz=>?_)
 replace BY:=aa.mk (BY.out.move rfl:aV w3.drew _ _ _)
 replace BC:=aa.mk (BC.out.move rfl:aV w3.drew _ _ _)
 replace BH:=aa.mk (BH.out.move rfl:aV w3.drew _ _ _)
 replace HB:=aa.mk (aN HB.out)
 replace yK:=aa.mk (show w3.drew.heap.size=_ from yK.out)
 generalize w3.drew=wd at BY BC BH HB yK hHeld ⊢
 refine fJ 0 15 #[I,O,O,O,O] au cz hHeld (hy:=by(rintro w' ⟨s0,s1⟩;go_simp;with_reducible rfl)) (h:=?_)
 refine fJ 1 16 #[I,I,O,O,O] au cz hHeld (hy:=by(rintro w' ⟨s0,s1⟩;go_simp;with_reducible rfl)) (h:=?_)
 refine bq 2 17 #[I,I,I,O,O] au (h:=?_)
 refine gB (i:=3) (N:=some 18) #[I,I,I,I,O] rfl rfl (aM au.out (by kernel_rfl)) (by decide) (λK hK=>?_)
 refine bD (w1:=(wd.alloc (.cells (madeCells #[.int .i64 0] m) 3)).drew) (v:= .slice (some ⟨wd.heap.size,0,none⟩) 0 m) (by rfl) rfl (by have:=hmk wd;unfold execOp;go_simp) ?_
 refine hK.out _ _ ⟨(BC.out.alloc (.cells (madeCells #[.int .i64 0] m) 3)).cell 0,(BH.out.alloc (.cells (madeCells #[.int .i64 0] m) 3)).cell 0⟩ (λhHeld=>?_)
 clear hK K hmk
 have BL:=aa.mk (show LB (wd.alloc (.cells (madeCells #[.int .i64 0] m) 3)).drew wd.heap.size m [] from⟨(madeCells #[.int .i64 0] m).toList,by have:=aV.new wd (madeCells #[.int .i64 0] m).toList 3;rw[Array.toArray_toList] at this;exact this,by simp[size_madeCells],by simp,by simp,by omega⟩)
 replace BY:=aa.mk ((BY.out.alloc (.cells (madeCells #[.int .i64 0] m) 3)).move rfl:aV (wd.alloc (.cells (madeCells #[.int .i64 0] m) 3)).drew _ _ _)
 replace BC:=aa.mk ((BC.out.alloc (.cells (madeCells #[.int .i64 0] m) 3)).move rfl:aV (wd.alloc (.cells (madeCells #[.int .i64 0] m) 3)).drew _ _ _)
 replace BH:=aa.mk ((BH.out.alloc (.cells (madeCells #[.int .i64 0] m) 3)).move rfl:aV (wd.alloc (.cells (madeCells #[.int .i64 0] m) 3)).drew _ _ _)
 replace HB:=aa.mk (aN (ae HB.out (.cells (madeCells #[.int .i64 0] m) 3)))
 have yw:=aa.mk (show(wd.alloc (.cells (madeCells #[.int .i64 0] m) 3)).drew.heap.size=W.heap.size+4 by have:=yK.out;simp;omega)
 have hgl:=yK.out
 generalize(wd.alloc (.cells (madeCells #[.int .i64 0] m) 3)).drew=w4 at BY BC BH HB BL yw ⊢
 rw[hgl] at BL ⊢
 clear hgl yK
 refine j4 ?_
 refine fB (i:=4) (N:=some 19) #[I,I,I,I,I] rfl rfl (aM au.out (by kernel_rfl)) (by decide) (λK hK=>?_)
 refine Df Tryz.func145 (by kernel_rfl) rfl #[.slice (some ⟨W.heap.size+3,0,none⟩) 0 m] (by rfl) rfl rfl (by rfl) (by(try simp only[List.map_toArray,List.map_cons,List.map_nil]);rfl) ?_
 simp only[List.append_toArray,List.cons_append,List.nil_append]
 have hs4:=yw.out
 have hsz:=HSZ.out
 have hT:=HT.out
 refine(Dp (gk:=gk) (g:=l) (c:=c) (rl:=rows.length) (cr:=cr) (base:=base) (row:=(row:Int)) (fx:=fx) (vm:=undef) (Ac:=Ac) (Ar:=some ad) (Af:=Af) (cf:=cf) (cells:=cells) (N:=N) (S:=S) (J:=J) (all:=all) (B0:=w.heap.size+6) HJ.out ⟨by omega,by omega⟩ HML.out hc2 PV hb0 hb1 Pq.out qO.out hf hcf HY.out (λh=>by have:=HS.out _ h;omega) cells [] [] 0 [] w4 rfl rfl rfl (by simp) (by rw[IG.out];exact λx hx=>hx) (by rw[IG.out];simpa using HN.out) ⟨?_,BL.out,HJ.out.below HB.out H0.out,by omega,aY.refl _ _ _⟩).mono ?_
 .intro W2 hk
  have hE2:=HEw.out W2 ((aY.of_below (HBw.out.trans (HB.out.mono HBw.out.size)) (Nat.le_refl _)).trans (hk.mono (by have:=HBw.out.size;have:=HB.out.size;omega) (λk hk1 hT=>hT.elim id (λe=>absurd hk1 (by omega)))))
  have hn:∀b,w.heap.size+2<=b->b<W.heap.size+3->¬(S b\/b=W.heap.size+3):=λb h1 h2 h3=>h3.elim (λh=>by have:=HS.out b h;omega) (λh=>by omega)
  refine⟨?_,hE2.w,hE2.k0,hE2.k1,hE2.k2,hE2.r,?_,?_,Kd.aC HC.out hE2.b,Kd.aC hT.kf hE2.b⟩
  .exact(hk.cell (p:=⟨W.heap.size+1,0,none⟩) (by simp only;omega) (hn _ (by simp only;omega) (by simp only;omega))).trans (BC.out.cell 0)
  .exact(hk.cell (p:=⟨W.heap.size,0,none⟩) (by simp only;omega) (hn _ (by simp only;omega) (by simp only;omega))).trans (BY.out.cell 0)
  .exact(hk.cell (p:=⟨W.heap.size+2,0,none⟩) (by simp only;omega) (hn _ (by simp only;omega) (by simp only;omega))).trans (BH.out.cell 0)
 rintro e_ w_ ⟨rfl,ys,yg,iD⟩
 rw[IG.out] at yg
 have Xm:=aa.mk yg
 refine⟨_,rfl,hK.out _ _ ?_⟩
 clear hK K yg
 refine j4 ?_
 refine fM (bP au.out (by kernel_rfl)) ?_
 go_end0
 exact⟨⟨_,rfl⟩,ys,Xm.out,iD.j⟩
open Go.RowKit Go.Shelf ah YtdekaocdmjndaaaGreatW.aj YtdekaocdmjndaaaGreatW.aH Go.Instr
def fU(k:Nat)(s:Nat->Int):Value:= .agg #[.int .i64 (k:Int),.int .i64 (s 0),.int .i64 (s 1),.int .i64 (s 2),.int .i64 (s 3)]
def kT(x:Int×Int×List Int)(v:Value):Value:= .agg #[.int .i64 x.1,.int .i64 x.2.1,v]
def uO(s:Nat->Int):Prop:=(∀i,0<=s i/\s i<=100000)/\∀i,4<=i->s i=0
theorem yZ:Maps.Keyed Tryz.prog 165:= .of_law (deep_law (m:=3) (by decide) (by kernel_rfl) (by kernel_rfl) (by kernel_rfl))
theorem IZ(d:Nat)(n:Int)(h:(Lit.int .i64 n).wf=true):Tryz.prog.keyLits (d+1) 3 [.int .i64 n]=some [.int .i64 n]:=by
 unfold Program.keyLits
 rw[Tryz.underlying3]
 simp[h]
theorem NA(d:Nat)(a b c e:Int)(ha:(Lit.int .i64 a).wf=true)(hb:(Lit.int .i64 b).wf=true)(hc:(Lit.int .i64 c).wf=true)(he:(Lit.int .i64 e).wf=true):Tryz.prog.keyLits (d+2) 163 [.int .i64 a,.int .i64 b,.int .i64 c,.int .i64 e]=some [.int .i64 a,.int .i64 b,.int .i64 c,.int .i64 e]:=by
 unfold Program.keyLits
 rw[Tryz.underlying163]
 have h1:Tryz.prog.cellsOf 163=4:=by kernel_rfl
 have h2:Tryz.prog.cellsOf 3=1:=by kernel_rfl
 simp[h1,h2,List.range,List.range.loop,IZ d,ha,hb,hc,he]
theorem vk(k:Nat)(s:Nat->Int)(hk:k<=10)(hs:uO s):∃l,keyOf Tryz.prog 165 (fU k s)=some l:=by
 have hw:∀n:Int,0<=n->n<=100000->(Lit.int .i64 n).wf=true:=λn h0 h1=>by
  simp[Lit.wf,IntKind.min,IntKind.max,IntKind.bits,IntKind.signed]
  omega
 have h0:=hs.1 0
 have h1:=hs.1 1
 have h2:=hs.1 2
 have h3:=hs.1 3
 obtain⟨d,hd⟩:∃d,Tryz.prog.types.size+1=d+3:=⟨Tryz.prog.types.size-2,by decide +kernel⟩
 have h5:Tryz.prog.cellsOf 165=5:=by kernel_rfl
 have h4:Tryz.prog.cellsOf 163=4:=by kernel_rfl
 have hI:Tryz.prog.cellsOf 3=1:=by kernel_rfl
 have hkt:Tryz.prog.keyType 165=true:=by kernel_rfl
 have hf:Value.formed Tryz.prog 165 (fU k s)=true:=by
  unfold Value.formed fU
  simp only
  rw[Tryz.underlying165]
  simp[h5]
 have hl:Tryz.prog.keyLits (d+3) 165 [.int .i64 (k:Int),.int .i64 (s 0),.int .i64 (s 1),.int .i64 (s 2),.int .i64 (s 3)]=some [.int .i64 (k:Int),.int .i64 (s 0),.int .i64 (s 1),.int .i64 (s 2),.int .i64 (s 3)]:=by
  unfold Program.keyLits
  rw[Tryz.underlying165]
  have k1:=IZ (d+1) (k:Int) (hw _ (by omega) (by omega))
  have k2:=NA d (s 0) (s 1) (s 2) (s 3) (hw _ h0.1 h0.2) (hw _ h1.1 h1.2) (hw _ h2.1 h2.2) (hw _ h3.1 h3.2)
  simp[h5,h4,hI,k1,k2]
 unfold keyOf
 rw[hd,Tryz.underlying165,hkt,hf]
 simp only[Bool.and_self,if_true]
 unfold fU
 simp only[Value.cells]
 rw[hl]
 exact⟨_,rfl⟩
theorem MI{k j:Nat}{s t:Nat->Int}(hs:uO s)(ht:uO t)(h:fU k s=fU j t):k=j/\s=t:=by
 unfold fU at h
 simp only[Value.agg.injEq,Array.mk.injEq,List.cons.injEq,Value.int.injEq,true_and,and_true,Int.natCast_inj] at h
 refine⟨h.1,funext λi=>?_⟩
 rcases(show i=0\/i=1\/i=2\/i=3\/4<=i by omega) with rfl|rfl|rfl|rfl|h4
 .exact h.2.1
 .exact h.2.2.1
 .exact h.2.2.2.1
 .exact h.2.2.2.2
 .rw[hs.2 i h4,ht.2 i h4]
def jE(w:World)(mb:Nat)(F:Nat->(Nat->Int)->Int×Int×List Int)(Ok:Nat->Prop):Prop:=
 ∃es clock,w.heap[mb]?=some (.map es clock)/\(∀e ∈ es.toList,∃(k:Nat) (s:Nat->Int) (v:Value),k<=10/\uO s/\e.key=fU k s/\e.val=kT (F k s) v/\(Kd.int .i64).R 3 w 0 Ok v (F k s).2.2)/\(es.toList.map (·.key)).Nodup
theorem Ew:∀{es:List MapEntry} {e f:MapEntry},(es.map (·.key)).Nodup->e ∈ es->f ∈ es->e.key=f.key->e=f
 |[],_,_,_,h,_,_=>by cases h
 |x::es,e,f,hn,he,hf,hk=>by
  rw[List.map_cons,List.nodup_cons] at hn
  rcases List.mem_cons.1 he with h1|h1
  .rcases List.mem_cons.1 hf with h2|h2
   .rw[h1,h2]
   .exact absurd (List.mem_map (l:=es).2 ⟨f,h2,by rw[<- hk,h1]⟩) hn.1
  .rcases List.mem_cons.1 hf with h2|h2
   .exact absurd (List.mem_map (l:=es).2 ⟨e,h1,by rw[hk,h2]⟩) hn.1
   .exact Ew hn.2 h1 h2 hk
theorem jE.lt{w:World}{mb:Nat}{F:Nat->(Nat->Int)->Int×Int×List Int}{Ok:Nat->Prop}(h:jE w mb F Ok):mb<w.heap.size:=by
 obtain⟨es,clock,h0,h1,hnd⟩:=h
 exact(Array.getElem?_eq_some_iff.1 h0).1
theorem jE.step{w w':World}{mb:Nat}{F:Nat->(Nat->Int)->Int×Int×List Int}{Ok Bq:Nat->Prop}(h:jE w mb F Ok)(e:w'.heap[mb]?=w.heap[mb]?)(hO:∀k,Ok k->k<w.heap.size->w'.heap[k]?=w.heap[k]?)(hi:∀k,Ok k->Bq k):jE w' mb F Bq:=by
 obtain⟨es,clock,h0,h1,hnd⟩:=h
 refine⟨es,clock,e.trans h0,λe he=>?_,hnd⟩
 obtain⟨k,s,v,a,b,c,d,r⟩:=h1 e he
 exact⟨k,s,v,a,b,c,d,Kd.bM (Kd.gz r hO) hi⟩
theorem jE.below{w w':World}{mb:Nat}{F:Nat->(Nat->Int)->Int×Int×List Int}{Ok:Nat->Prop}(h:jE w mb F Ok)(hb:Below w.heap.size w w'):jE w' mb F Ok:=h.step (hb.block _ h.lt) (λk _ hk=>hb.block k hk) (λ_ h=>h)
theorem jE.new{w:World}{mb:Nat}{F:Nat->(Nat->Int)->Int×Int×List Int}{Ok:Nat->Prop}(h:w.heap[mb]?=some (.map #[] 0)):jE w mb F Ok:=⟨_,_,h,λe he=>by simp at he,by simp⟩
theorem MJ:Tryz.prog.underlying 272=some (.map 165 167):=by kernel_rfl
theorem XT(w:World):(zeroValue 167).run Tryz.prog w= .ok (kT (0,0,[]) (.slice none 0 0)) w:=Tryz.zeroValue167 w
theorem jE.lookup{w:World}{mb:Nat}{F:Nat->(Nat->Int)->Int×Int×List Int}{Ok:Nat->Prop}(h:jE w mb F Ok){k:Nat}{s:Nat->Int}(hk:k<=10)(hs:uO s):
  ∃x A n c b,(b=true->x=F k s/\(Kd.int .i64).R 3 w 0 Ok (.slice A n c) x.2.2)/\∀w':World,w'.heap[mb]?=w.heap[mb]? ->
   (Instr.lookup 272 (.map (some mb)) (fU k s) true).run Tryz.prog w'= .ok (.tuple #[kT x (.slice A n c),.bool b]) w':=by
 obtain⟨es,clock,h0,h1,hnd⟩:=h
 obtain⟨l,hl⟩:=vk k s hk hs
 have hks:∀e ∈ es.toList,∃l,keyOf Tryz.prog 165 e.key=some l:=λe he=>by
  obtain⟨j,t,v,hj,ht,h2,_⟩:=h1 e he
  rw[h2]
  exact vk j t hj ht
 by_cases hex:∃e ∈ es.toList,e.key=fU k s
 .obtain⟨e0,he0,hk0⟩:=hex
  obtain⟨j,t,v,hj,ht,h2,h3,hR⟩:=h1 e0 he0
  rw[h2] at hk0
  obtain⟨rfl,rfl⟩:=MI ht hs hk0
  obtain⟨A,c,rfl⟩:=Kd.di hR
  refine⟨F j t,A,_,c,true,λ_=>⟨rfl,hR⟩,λw' hw'=>?_⟩
  rw[h0] at hw'
  have hg:(getObj mb).run Tryz.prog w'= .ok (.map es clock) w':=by simp[getObj,Sem.run,hw']
  unfold Instr.lookup
  simp only[Sem.run_bind,run_underlying MJ,Result.andThen_ok,hg,yZ.check w' es.isEmpty hl,Sem.run_pure]
  rcases yZ.find w' hl es.toList hks with⟨hf,hn⟩|⟨i,e,hf,hi,he⟩
  .exact absurd h2 (hn e0 he0)
  .rw[hf]
   obtain rfl:=Ew hnd (List.mem_of_getElem? hi) he0 (he.trans h2.symm)
   simp only[Result.andThen_ok,Sem.run_bind,Sem.run_pure,if_true,h3]
 .refine⟨(0,0,[]),none,0,0,false,λe=>by(cases e),λw' hw'=>?_⟩
  rw[h0] at hw'
  have hg:(getObj mb).run Tryz.prog w'= .ok (.map es clock) w':=by simp[getObj,Sem.run,hw']
  unfold Instr.lookup
  simp only[Sem.run_bind,run_underlying MJ,Result.andThen_ok,hg,yZ.check w' es.isEmpty hl,Sem.run_pure]
  rcases yZ.find w' hl es.toList hks with⟨hf,hn⟩|⟨i,e,hf,hi,he⟩
  .rw[hf]
   simp only[Result.andThen_ok,Sem.run_bind,XT,Sem.run_pure,if_true]
  .exact absurd ⟨e,List.mem_of_getElem? hi,he⟩ hex
theorem jE.update{w:World}{mb:Nat}{F:Nat->(Nat->Int)->Int×Int×List Int}{Ok:Nat->Prop}(h:jE w mb F Ok)(SX:∀b,Ok b->b≠mb){k:Nat}{s:Nat->Int}(hk:k<=10)(hs:uO s){v:Value}(hR:(Kd.int .i64).R 3 w 0 Ok v (F k s).2.2):
  ∃o,(Instr.mapUpdate 272 (.map (some mb)) (fU k s) (kT (F k s) v)).run Tryz.prog w= .ok () (w.putObj mb o)/\jE (w.putObj mb o) mb F Ok:=by
 have hlt:=h.lt
 obtain⟨es,clock,h0,h1,hnd⟩:=h
 obtain⟨l,hl⟩:=vk k s hk hs
 have hks:∀e ∈ es.toList,∃l,keyOf Tryz.prog 165 e.key=some l:=λe he=>by
  obtain⟨j,t,v,hj,ht,h2,_⟩:=h1 e he
  rw[h2]
  exact vk j t hj ht
 have hg:(getObj mb).run Tryz.prog w= .ok (.map es clock) w:=by simp[getObj,Sem.run,h0]
 have hset:∀o,(setObj mb o).run Tryz.prog w= .ok () (w.putObj mb o):=λo=>by simp[setObj,Sem.run,World.putObj,h0]
 have hmv:∀o b,Ok b->b<w.heap.size->(w.putObj mb o).heap[b]?=w.heap[b]?:=λo b hb _=>World.putObj_heap_other (SX b hb)
 unfold Instr.mapUpdate
 simp only[Sem.run_bind,run_underlying MJ,Result.andThen_ok,hg,yZ.check w false hl,Sem.run_pure]
 rcases yZ.find w hl es.toList hks with⟨hf,hn⟩|⟨j,e,hf,hj,he⟩
 .rw[hf]
  refine⟨.map (es.push {key:=fU k s,val:=kT (F k s) v,born:=clock}) (clock+1),?_,?_⟩
  .simp only[Result.andThen_ok,hset]
  .refine⟨_,_,World.putObj_heap_same hlt,λe he=>?_,?_⟩
   .rw[Array.toList_push,List.mem_append,List.mem_singleton] at he
    rcases he with he|rfl
    .obtain⟨j,t,u,hj,ht,h2,h3,hr⟩:=h1 e he
     exact⟨j,t,u,hj,ht,h2,h3,Kd.gz hr (hmv _)⟩
    .exact⟨k,s,v,hk,hs,rfl,rfl,Kd.gz hR (hmv _)⟩
   .rw[Array.toList_push,List.map_append,List.nodup_append]
    refine⟨hnd,by simp,λa ha b hb=>?_⟩
    obtain⟨e,he,rfl⟩:=List.mem_map.1 ha
    simp only[List.map_cons,List.map_nil,List.mem_singleton] at hb
    subst hb
    exact hn e he
 .rw[hf]
  have hj':es[j]?=some e:=by rw[<- Array.getElem?_toList];exact hj
  refine⟨.map (es.modify j λe=>{e with key:=fU k s,val:=kT (F k s) v}) clock,?_,?_⟩
  .simp only[Result.andThen_ok,Sem.run_bind,hj',Option.map_some,Option.getD_some,he,yZ.stays w hl,hset]
  .refine⟨_,_,World.putObj_heap_same hlt,λe' he'=>?_,?_⟩
   .obtain⟨i,hi⟩:=List.getElem?_of_mem he'
    rw[Array.getElem?_toList,Array.getElem?_modify] at hi
    by_cases e2:j=i
    .subst e2
     rw[if_pos rfl,hj'] at hi
     obtain rfl:=Option.some.inj hi
     exact⟨k,s,v,hk,hs,rfl,rfl,Kd.gz hR (hmv _)⟩
    .rw[if_neg e2] at hi
     obtain⟨j,t,u,hj,ht,h2,h3,hr⟩:=h1 e' (by rw[<- Array.getElem?_toList] at hi;exact List.mem_of_getElem? hi)
     exact⟨j,t,u,hj,ht,h2,h3,Kd.gz hr (hmv _)⟩
   .have hmap:((es.modify j λe=>{e with key:=fU k s,val:=kT (F k s) v}).toList.map (·.key))=es.toList.map (·.key):=by
     apply List.ext_getElem?
     intro i
     rw[List.getElem?_map,List.getElem?_map,Array.getElem?_toList,Array.getElem?_toList,Array.getElem?_modify]
     by_cases e2:j=i
     .subst e2
      rw[if_pos rfl,hj']
      simp[he]
     .rw[if_neg e2]
    rw[hmap]
    exact hnd
def nL(a b:Int):Int:=max (a-b) (b-a)
def nJ(row l:List Int):Nat->Int
 |0=>0
 |k+1=>nJ row l k+nL (l.getD k 0) (row.getD k 0)
def tV(row l:List Int):Int:=nJ row l l.length
theorem qC(row l:List Int):∀k:Nat,(∀c,c<k->nL (l.getD c 0) (row.getD c 0)<=100)->0<=nJ row l k/\nJ row l k<=100*k
 |0,_=>by simp[nJ]
 |k+1,h=>by
  have h1:=qC row l k (λc hc=>h c (by omega))
  have h2:=h k (by omega)
  have h3:0<=nL (l.getD k 0) (row.getD k 0):=by unfold nL;omega
  rw[nJ]
  push_cast
  omega
theorem xI{base:Int}(hb:2<=base){ok:List Int->Bool}:∀{rest pre l:List Int},l ∈ dF base ok rest pre->ok l=true/\∃t,l=pre++t/\t.length=rest.length/\∀c,c<rest.length->rest.getD c 0-base<t.getD c 0/\t.getD c 0<rest.getD c 0+base/\(0<=rest.getD c 0->0<=t.getD c 0)
 |[],pre,l,h=>by
  unfold dF at h
  split at h
  .rename_i ho
   rw[List.mem_singleton] at h
   exact⟨by rw[h];exact ho,[],by simp[h],rfl,λc hc=>absurd hc (by simp)⟩
  .cases h
 |n::rest,pre,l,h=>by
  have key:∀y,(n-base<y/\y<n+base/\(0<=n->0<=y))->l ∈ dF base ok rest (pre++[y])->ok l=true/\∃t,l=pre++t/\t.length=(n::rest).length/\∀c,c<(n::rest).length->(n::rest).getD c 0-base<t.getD c 0/\t.getD c 0<(n::rest).getD c 0+base/\(0<=(n::rest).getD c 0->0<=t.getD c 0):=λy hy hm=>by
   obtain⟨ho,t,h1,h2,h3⟩:=xI hb hm
   refine⟨ho,y::t,by rw[h1];simp,by simp[h2],λc hc=>?_⟩
   cases c with
   |zero=>simpa using hy
   |succ c=>simpa using h3 c (by simpa using hc)
  have hl:=mO (n:=n) hb
  have hh:=wC (n:=n) hb
  have hl0:0<=n->0<=iR base n:=λhn=>by
   unfold iR
   have h1:=Int.mul_ediv_add_emod n base
   have h2:=Int.mul_nonneg (show 0<=base by omega) (Int.ediv_nonneg hn (show 0<=base by omega))
   omega
  unfold dF at h
  rcases List.mem_append.1 h with h|h
  .exact key _ ⟨hl.1,by omega,hl0⟩ h
  .split at h
   .cases h
   .exact key _ ⟨by omega,hh.2,λ_=>by omega⟩ h
theorem ow(base:Int)(ok:List Int->Bool):∀(rest pre:List Int),(dF base ok rest pre).length<=2^rest.length
 |[],pre=>by
  unfold dF
  split<;>simp
 |n::rest,pre=>by
  have h1:=ow base ok rest (pre++[iR base n])
  have h2:=ow base ok rest (pre++[lJ base n])
  unfold dF
  rw[List.length_append,List.length_cons,Nat.pow_succ]
  split
  .simp
   omega
  .omega
abbrev DK:Type:=Int×Int×List Int
def lX(F:(Nat->Int)->DK)(row:List Int)(s:Nat->Int)(acc:DK)(l:List Int):DK:=
 if(F (ou s l)).1=0 then acc else(acc.1+(F (ou s l)).1,if acc.1=0\/(F (ou s l)).2.1+tV row l<acc.2.1 then((F (ou s l)).2.1+tV row l,l) else acc.2)
def fT(base:Int)(rows:List (List Int))(fx:List dh):Nat->(Nat->Int)->DK
 |0,s=>(if qD base rows s then 1 else 0,0,[])
 |left+1,s=>(dF base (zl base (rows.getD (rows.length-(left+1)) []) fx ((rows.length-(left+1):Nat):Int)) (rows.getD (rows.length-(left+1)) []) []).foldl (lX (fT base rows fx left) (rows.getD (rows.length-(left+1)) []) s) (0,0,[])
theorem Bl(gk:Nat)(row:Int)(w:World):
  Calls Tryz.prog 66 #[.pointer (some ⟨gk,0,none⟩),.int .i64 row] w λe w'=>e= .returned (.func (.func 144) #[] #[.pointer (some ⟨w.heap.size,0,none⟩),.pointer (some ⟨w.heap.size+1,0,none⟩)])/\w'=(w.alloc (.cells #[.pointer (some ⟨gk,0,none⟩)] 159)).alloc (.cells #[.int .i64 row] 3):=by
 go_enter Tryz.func66,Tryz.ntmps66
 go_wp2_with fail
 go_ret
 exact⟨rfl,rfl⟩
theorem Wm(a b:Int)(w:World)(ha:0<=a/\a<=1000000)(hb:0<=b/\b<=1000000):Calls Tryz.prog 158 #[.int .i64 a,.int .i64 b] w λe w'=>e= .returned (.int .i64 (nL a b))/\Below w.heap.size w w':=
 qf.calls a b (nL a b) w (by
  unfold qf.f nL mx
  rw[show wrap64 (a-b)=a-b by unfold wrap64;omega,show wrap64 (b-a)=b-a by unfold wrap64;omega]
  congr 1
  omega)
set_option maxHeartbeats 4000000 in
theorem Hq{A:Option Addr}{cl:Nat}{Ar:Option Addr}{cr gk:Nat}(rows:List (List Int))(row:Nat)(l:List Int)(w:World)(hl:(Kd.int .i64).C w A l.length l)(hr:(Kd.slice 3 (Kd.int .i64)).C w Ar rows.length rows)(hk:w.cell? ⟨gk,1,none⟩=some (.slice Ar rows.length cr))(hrow:row<rows.length)(hn:rows.length<=1000)
  (hlen:l.length=(rows.getD row []).length) (h4:l.length<=1000) (hlb:∀c,c<l.length->0<=l.getD c 0/\l.getD c 0<=1000000) (hrb:∀c,c<l.length->0<=(rows.getD row []).getD c 0/\(rows.getD row []).getD c 0<=1000000) (haw:∀c,c<l.length->nL (l.getD c 0) ((rows.getD row []).getD c 0)<=100):
  Calls Tryz.prog 142 #[.pointer (some ⟨gk,0,none⟩),.int .i64 (row:Int),.slice A l.length cl] w λe w'=>e= .returned (.int .i64 (tV (rows.getD row []) l))/\Below w.heap.size w w':=by
 have HL:=aa.mk hl
 obtain⟨ad,Ac,c,e,hc1,hc2,hC⟩:=Fv hr (row:Int) (by omega) (by omega)
 cases e
 have hrd:tO rows (row:Int)=rows.getD row []:=rfl
 rw[hrd] at hc1 hc2 hC
 obtain⟨cells,hcells⟩:∃c,rows.getD row []=c:=⟨_,rfl⟩
 rw[hcells] at hc1 hc2 hC hlen hrb haw ⊢
 rw[<- hlen] at hc1 hc2 hC
 rw[Int.toNat_natCast] at hc1
 have HC:=aa.mk hC
 have HLB:=aa.mk hlb
 have HRB:=aa.mk hrb
 have HAW:=aa.mk haw
 have HK:=aa.mk hk
 have wL:=aa.mk hc1
 have Yn:(row:Int)<(rows.length:Int):=by omega
 clear hl hr hC hlb hrb haw hk hc1 hrd hcells hlen
 go_enter Tryz.func142,Tryz.ntmps142
 go_wp2_with fail
 go_loopw [6,11] (λv6 v11 wr=>∃k:Nat,k<=l.length/\v6= .int .i64 (nJ cells l k)/\v11= .int .i64 k/\aa (Below w.heap.size w wr)) (λv6 v11 _=>l.length-(intOf v11).toNat)
 case atStart=>exact⟨0,Nat.zero_le _,rfl,rfl,⟨Below.refl _ _⟩⟩
 case round=>
  obtain⟨k,hk,rfl,rfl,HB⟩:=hrel
  by_cases hkl:k<l.length
  .obtain⟨al,e,hx⟩:=Kd.gu (Kd.aC HL.out HB.out) (k:Int) (by omega) (by omega)
   cases e
   obtain⟨ac,e,hy⟩:=Kd.gu (Kd.aC HC.out HB.out) (k:Int) (by omega) (by omega)
   cases e
   have hk1:=(HB.out.cell (p:=⟨gk,1,none⟩) (World.block_lt_of_cell? _ _ HK.out)).trans HK.out
   have hh1:=(HB.out.cell (p:=ad.add row) (World.block_lt_of_cell? _ _ wL.out)).trans wL.out
   have hst:nJ cells l (k+1)=nJ cells l k+nL (l.getD k 0) (cells.getD k 0):=rfl
   have hb1:=HLB.out k hkl
   have hb2:=HRB.out k hkl
   have hb3:=qC cells l k (λc hc=>HAW.out c (by omega))
   have hb4:=HAW.out k hkl
   have hb5:0<=nL (l.getD k 0) (cells.getD k 0):=by unfold nL;omega
   rw[Int.toNat_natCast] at hx hy
   rw[show rd l (k:Int)=l.getD k 0 from rfl] at hx
   rw[show rd cells (k:Int)=cells.getD k 0 from rfl] at hy
   obtain⟨x,hxe⟩:∃x,l.getD k 0=x:=⟨_,rfl⟩
   obtain⟨y,hye⟩:∃y,cells.getD k 0=y:=⟨_,rfl⟩
   obtain⟨s,hse⟩:∃s,nJ cells l k=s:=⟨_,rfl⟩
   rw[hxe,hye] at hst hb4 hb5
   rw[hxe] at hx hb1
   rw[hye] at hy hb2
   rw[hse] at hst hb3 ⊢
   obtain⟨z,hze⟩:∃z,nL x y=z:=⟨_,rfl⟩
   have agX:=aa.mk (λw=>hze▸Wm x y w hb1 hb2:∀w,Calls Tryz.prog 158 #[.int .i64 x,.int .i64 y] w λe w'=>e= .returned (.int .i64 z)/\Below w.heap.size w w')
   rw[hze] at hst hb4 hb5
   have akU:(k:Int)<(l.length:Int):=by omega
   have HST:=aa.mk hst
   clear hxe hye hse hze hst
   go_wp2_with fail
   refine(agX.out _).mono ?_
   rintro e w4 ⟨rfl,hb⟩
   have pY:=aa.mk (HB.out.trans (hb.mono HB.out.size))
   clear hb
   have hs:wrap64 (s+z)=s+z:=by unfold wrap64;omega
   go_wp2_with fail
   exact⟨⟨k+1,by omega,by rw[HST.out],by go_num,pY⟩,by simp[intOf];omega⟩
  .obtain rfl:k=l.length:=by omega
   go_wp2_with fail
   go_ret
   exact⟨rfl,HB.out⟩
end Go.Proofs.YtdekaocdmjndaaaGreat
