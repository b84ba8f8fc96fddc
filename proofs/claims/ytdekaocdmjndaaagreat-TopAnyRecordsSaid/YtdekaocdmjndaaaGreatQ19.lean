import Derived.Test.YtdekaocdmjndaaaGreatQ18
set_option maxRecDepth 100000
set_option linter.all false
namespace Go.Proofs.YtdekaocdmjndaaaGreat
open Go.RowKit Go.Shelf ah YtdekaocdmjndaaaGreatW.aj YtdekaocdmjndaaaGreatW.aH Ag
attribute [local go_sem] Oper.semAt_some
def Td.T1:Bool×List (List Nat×List Nat):=(true,[([],[]),([0],[0]),([],[]),([2],[2]),([1,3],[1,3]),([4],[4]),([],[]),([6],[6]),([5,7],[5,7]),([8,8],[8]),([9,9,0,1,2,3,4,5,6,7,8,9],[9])])
def Td.B1:List Nat:=[0,1,0,4,15,31,0,64,255,511,1023]
theorem Td.MG:eB .any (opsOf Tryz.f226 1)=Td.T1:=by kernel_rfl
theorem Td.Fp:bI Td.T1.2 Td.B1=true:=by kernel_rfl
theorem DR(lo hi:Int)(Ar Ac:Option Addr)(n cr m cc:Nat)(a b c:Int)(w:World):
  Calls Tryz.prog 161 #[.agg #[.int .i64 lo,.int .i64 hi,.slice Ar n cr,.slice Ac m cc],.agg #[.int .i64 a,.int .i64 b,.int .i64 c]] w λe w'=>e= .returned (.func (.func 226) #[] #[.pointer (some ⟨w.heap.size,0,none⟩),.pointer (some ⟨w.heap.size+1,0,none⟩)])/\w'=(w.alloc (.cells #[.int .i64 lo,.int .i64 hi,.slice Ar n cr,.slice Ac m cc] 67)).alloc (.cells #[.int .i64 a,.int .i64 b,.int .i64 c] 191):=by
 go_enter Tryz.func161,Tryz.ntmps161
 go_wp2_with fail
 go_ret
 exact⟨rfl,rfl⟩
def Oz(x:Rg):Array Value:=#[.agg #[.int .i64 x.f0,.int .i64 x.f1]]
set_option maxHeartbeats 4000000 in
theorem JP{w:World}{gp gr cr cc:Nat}{Ar Ac:Option Addr}{rules:List Ru}{recs:List Re}(lo hi:Int)(x:Re)(hp:aV w gp [.int .i64 lo,.int .i64 hi,.slice Ar rules.length cr,.slice Ac recs.length cc] 67)(hr:aV w gr [.int .i64 x.f0,.int .i64 x.f1,.int .i64 x.f2] 191)
  (h:Ao w Ar cr rules Ac cc recs) (hx0:0<=x.f1) (hx1:x.f1<rules.length) (hv:∀r ∈ rules,lD r=true):
  Wp Tryz.prog 226 #[.pointer (some ⟨gp,0,none⟩),.pointer (some ⟨gr,0,none⟩)] (λ_=>False) (λy=>y ∈ dE (oG (rules.getD x.f1.toNat ⟨0,0,0,0⟩) x.f2) 0 []) Oz (λxs=>xs=(dE (oG (rules.getD x.f1.toNat ⟨0,0,0,0⟩) x.f2) 0 []).reverse) (dE (oG (rules.getD x.f1.toNat ⟨0,0,0,0⟩) x.f2) 0 []).length w:=by
 intro L J W Mg hst hown hY
 have HP:=aa.mk (hp.below Mg)
 have HR:=aa.mk (hr.below Mg)
 have H:=aa.mk (h.below Mg)
 have HST:=aa.mk hst
 have HO:=aa.mk hown
 have HY:=aa.mk hY
 obtain⟨ad,e,hq0,hq1,hq2,hq3⟩:=Jn H.out.kr x.f1 hx0 hx1
 cases e
 have hrd:qj rules x.f1=rules.getD x.f1.toNat ⟨0,0,0,0⟩:=rfl
 rw[hrd] at hq0 hq1 hq2 hq3
 have hvx:=hv (rules.getD x.f1.toNat ⟨0,0,0,0⟩) (by
  rw[List.getD_eq_getElem?_getD,List.getElem?_eq_getElem (by omega)]
  exact List.getElem_mem _)
 obtain⟨ru,SE⟩:∃r,rules.getD x.f1.toNat ⟨0,0,0,0⟩=r:=⟨_,rfl⟩
 rw[SE] at hq0 hq1 hq2 hq3 hvx HY ⊢
 have HAG:=aa.mk (λ(V:World)=>Ib ru x.f2 V hvx)
 have hbl:=qF ru x.f2
 obtain⟨bits,SQ⟩:∃b,oG ru x.f2=b:=⟨_,rfl⟩
 rw[SQ] at HAG HY hbl ⊢
 have HRA:=aa.mk (λ(V:World)=>Cx bits V hbl)
 have hrl:=(uu (bs:=bits) (k:=121) (Nat.le_refl _)).1
 rw[List.take_of_length_le (by omega)] at hrl
 obtain⟨rs,hrs⟩:∃r,dE bits 0 []=r:=⟨_,rfl⟩
 rw[hrs] at HRA HY hrl ⊢
 obtain⟨x0,x1,x2⟩:=x
 obtain⟨r0,r1,r2,r3⟩:=ru
 simp only at hq0 hq1 hq2 hq3 hx0 hx1 HAG HR
 have HL:=aa.mk hrl
 clear hp hr h hst hown hY hvx hv hrd SE SQ hrs hbl Mg hrl
 simp only[List.append_toArray,List.cons_append,List.nil_append]
 refine(callsIn_wide (n:=9)).1 (bV Tryz.func226 rfl trivial ?_ rfl)
 simp only[Tryz.ntmps226,List.size_toArray,List.length_cons,List.length_nil,Nat.reduceAdd,Nat.reduceSub,Array.replicate_succ,Array.replicate_zero,List.push_toArray,List.append_toArray,List.nil_append,List.cons_append]
 refine wpIn_wide.2 ?_
 go_upto_region 1 with(fail)
 have HB:=aa.mk (ae (Below.refl W.heap.size W) (.cells #[.func (.yield L) #[] #[]] 209))
 have BY:=aa.mk (aV.new W [.func (.yield L) #[] #[]] 209)
 generalize W.alloc (.cells #[.func (.yield L) #[] #[]] 209)=w0 at HB BY ⊢
 have hp1:=(HB.out.cell (p:=⟨gp,2,none⟩) HP.out.lt).trans (HP.out.cell 2)
 have hr1:=(HB.out.cell (p:=⟨gr,1,none⟩) HR.out.lt).trans (HR.out.cell 1)
 have hr2:=(HB.out.cell (p:=⟨gr,2,none⟩) HR.out.lt).trans (HR.out.cell 2)
 simp only[dZ,dY] at hp1 hr1 hr2
 replace hq0:=(HB.out.cell (World.block_lt_of_cell? _ _ hq0)).trans hq0
 replace hq1:=(HB.out.cell (World.block_lt_of_cell? _ _ hq1)).trans hq1
 replace hq2:=(HB.out.cell (World.block_lt_of_cell? _ _ hq2)).trans hq2
 replace hq3:=(HB.out.cell (World.block_lt_of_cell? _ _ hq3)).trans hq3
 refine fF (n:=11) (S:=λw'=>w'.cell? ⟨gp,2,none⟩=some (.slice (some ad) rules.length cr)/\w'.cell? ⟨gr,1,none⟩=some (.int .i64 x1)/\w'.cell? ⟨gr,2,none⟩=some (.int .i64 x2)/\w'.cell? (ad.add (x1.toNat*4))=some (.int .i64 r0)/\w'.cell? ⟨(ad.add (x1.toNat*4)).block,(ad.add (x1.toNat*4)).off+1,none⟩=some (.int .i64 r1)/\w'.cell? ⟨(ad.add (x1.toNat*4)).block,(ad.add (x1.toNat*4)).off+2,none⟩=some (.int .i64 r2)/\w'.cell? ⟨(ad.add (x1.toNat*4)).block,(ad.add (x1.toNat*4)).off+3,none⟩=some (.int .i64 r3)) (ds:=[8,9]) #[O,O,O,O,O,O,O,O,O,O,O] (by kernel_rfl) rfl rfl ⟨hp1,hr1,hr2,hq0,hq1,hq2,hq3⟩ (λhHeld=>?_);refine bG Td.MG Td.Fp (λau cz=>?_)
 replace HB:=aa.mk (aN HB.out)
 replace BY:=aa.mk (BY.out.move rfl:aV w0.drew _ _ _)
 clear hp1 hr1 hr2 hq0 hq1 hq2 hq3
 generalize w0.drew=wd at HB BY hHeld ⊢
 refine bq 0 7 #[I,O,O,O,O,O,O,O,O,O,O] au (h:=?_)
 refine fJ 1 8 #[I,I,O,O,O,O,O,O,O,O,O] au cz hHeld (hy:=by(rintro w' ⟨s0,s1,s2,s3,s4,s5,s6⟩;go_simp;with_reducible rfl)) (h:=?_)
 refine bq 2 9 #[I,I,I,O,O,O,O,O,O,O,O] au (h:=?_)
 refine fJ 3 10 #[I,I,I,I,O,O,O,O,O,O,O] au cz hHeld (hy:=by(rintro w' ⟨s0,s1,s2,s3,s4,s5,s6⟩;go_simp;with_reducible rfl)) (h:=?_)
 refine bq 4 11 #[I,I,I,I,I,O,O,O,O,O,O] au (h:=?_)
 refine fJ 5 12 #[I,I,I,I,I,I,O,O,O,O,O] au cz hHeld (hy:=by(rintro w' ⟨s0,s1,s2,s3,s4,s5,s6⟩;go_simp;with_reducible rfl)) (h:=?_)
 refine bq 6 13 #[I,I,I,I,I,I,I,O,O,O,O] au (h:=?_)
 refine fJ 7 14 #[I,I,I,I,I,I,I,I,O,O,O] au cz hHeld (hy:=by(rintro w' ⟨s0,s1,s2,s3,s4,s5,s6⟩;go_simp;with_reducible rfl)) (h:=?_)
 refine fB (i:=8) (N:=some 15) #[I,I,I,I,I,I,I,I,I,O,O] rfl rfl (aM au.out (by kernel_rfl)) (by decide) (λK hK=>?_)
 refine bT Tryz.func227 (by kernel_rfl) rfl #[.agg #[.int .i64 r0,.int .i64 r1,.int .i64 r2,.int .i64 r3],.int .i64 x2] (by rfl) rfl rfl (by(try simp only[List.map_toArray,List.map_cons,List.map_nil]);rfl) ?_
 refine(HAG.out _).mono ?_
 rintro e_ w_ ⟨rfl,dK⟩
 refine⟨_,rfl,hK.out _ _ ?_⟩
 clear hK K
 replace HB:=aa.mk (HB.out.trans (dK.mono HB.out.size))
 replace BY:=aa.mk (BY.out.below dK)
 clear dK
 generalize w_=wd at HB BY hHeld ⊢
 refine j4 ?_
 refine fB (i:=9) (N:=some 16) #[I,I,I,I,I,I,I,I,I,I,O] rfl rfl (aM au.out (by kernel_rfl)) (by decide) (λK hK=>?_)
 refine bT Tryz.func228 (by kernel_rfl) rfl #[.agg (jA bits).toArray] (by rfl) rfl rfl (by(try simp only[List.map_toArray,List.map_cons,List.map_nil]);rfl) ?_
 refine(HRA.out _).mono ?_
 rintro e_ w_ ⟨v,rfl,hR_,dK⟩
 refine⟨_,rfl,hK.out _ _ ?_⟩
 clear hK K
 have HV:=aa.mk (Kd.dG hR_ HB.out.size)
 have HG:=aa.mk (λk (hk:v.ownBlock=some k)=>(show W.heap.size+1<=k from by have h1:=(Kd.bL hR_).1 k hk;have h2:=BY.out.lt;omega))
 replace HB:=aa.mk (HB.out.trans (dK.mono HB.out.size))
 replace BY:=aa.mk (BY.out.below dK)
 clear dK hR_
 refine j4 ?_
 refine bq 10 4 #[I,I,I,I,I,I,I,I,I,I,I] au (h:=?_)
 refine fM (bP au.out (by kernel_rfl)) ?_
 obtain⟨A,c,rfl,hc,hC⟩:=Kd.dB HV.out
 have HA:=aa.mk (λ(a:Addr) (ha:A=some a)=>(show W.heap.size+1<=a.block/\a.block<w_.heap.size from by subst ha;exact⟨HG.out a.block rfl,((Kd.bL HV.out).1 a.block rfl).2.2.1⟩))
 have HC:=aa.mk hC
 clear hC HG HV
 go_wp2_with (with_reducible refine wpIn_wide.2 ?_)
 refine(zQ A rs.length c w_).mono ?_
 rintro e w9 ⟨rfl,rfl⟩
 have BG:=aa.mk (aV.new w_ [.slice A rs.length c] 69)
 have HC9:=aa.mk (Kd.aC HC.out (ae (Below.refl w_.heap.size w_) (.cells #[.slice A rs.length c] 69)))
 have Ml:=aa.mk (ae HB.out (.cells #[.slice A rs.length c] 69))
 have BY9:=aa.mk (BY.out.alloc (.cells #[.slice A rs.length c] 69))
 have hgs:w_.heap.size+1=(w_.alloc (.cells #[.slice A rs.length c] 69)).heap.size:=by simp
 have hgl:W.heap.size<w_.heap.size:=BY.out.lt
 clear HC HB BY
 generalize w_.alloc (.cells #[.slice A rs.length c] 69)=w9 at BG HC9 Ml BY9 hgs ⊢
 generalize w_.heap.size=gs at BG HA hgs hgl ⊢
 go_wp2_with (with_reducible refine wpIn_wide.2 ?_)
 refine(wpIn_wide (n:=9)).1 ?_
 refine Cz (n:=9) (T0:=bkT gs A) (by decide) rfl (enters Tryz.func160 (by kernel_rfl) rfl) (Fs rs (BG.out.cell 0) HC9.out (by have:=HL.out;omega)) ?hT0 (λx=>rfl)
  (λt x=>(t.setIfInBounds 19 (.int .i64 x.1)).setIfInBounds 20 (.agg #[.int .i64 x.2.f0,.int .i64 x.2.f1])) (λt x b=>((t.setIfInBounds 19 (.int .i64 x.1)).setIfInBounds 20 (.agg #[.int .i64 x.2.f0,.int .i64 x.2.f1])).setIfInBounds 6 (.pointer (some ⟨b,0,none⟩))) (λx=> .cells #[.int .i64 x.2.f0,.int .i64 x.2.f1] 63) (λx=>rfl) (λt x=>by simp[Je])
  (λm pre V=>J m (pre.map (·.2)) V/\aV V W.heap.size [.func (.yield L) #[] #[]] 209) ?hI ?h0 ?assign ?body ?done
 case hT0=>
  rintro b (rfl|⟨a,ha,rfl⟩)
  .omega
  .have:=(HA.out a ha).2
   omega
 case hI=>
  rintro m s A1 B1 row ⟨h1,h2⟩ hg hr
  exact⟨HO.out m _ A1 B1 row h1 hg (λr e=>by have:=hr r e;have:=Ml.out.size;omega),h2.move (hg.block _ h2.lt (λe=>by have:=hr _ e.symm;omega))⟩
 case h0=>
  intro W1 hb
  exact⟨HST.out W1 (Ml.out.trans (hb.mono Ml.out.size)),BY9.out.below hb⟩
 case assign=>
  intro l x V K hK
  simp only[sb0,sb1,bR] at hK ⊢
  gi_wp2_with fail
  exact hK
 case body=>
  rintro l m pre ⟨xi,x⟩ b V ⟨hJ,hBY⟩ hx hlen hm hb hb1 hb2
  obtain⟨x0,x1⟩:=x
  obtain⟨fn,tmps,assign,body,hy,hRR⟩:=YieldAt.any (m':=6) (HY.out m _ ⟨x0,x1⟩ V (by have:=Ml.out.size;omega) hJ hx (by rw[List.length_map];exact hlen))
  dsimp only[Oz] at hy
  have hy0:=hBY.cell 0
  have hbb:aV V b [.int .i64 x0,.int .i64 x1] 63:=hb
  have Da:=hbb.cell 0
  have C9:=hbb.cell 1
  simp only[dZ,dY] at hy0 Da C9
  have hly:=hBY.lt
  simp only[sb0,sb1,bR]
  gi_wp2_with fail
  refine RoundIn.mono (show RoundIn (Fence.wide.inRound l) 6 Tryz.prog L fn tmps assign body V _ from hRR) ?_
  rintro e W3 ⟨rfl,hJ3,hk3⟩
  have HJ3:=aa.mk hJ3
  have TL:=aa.mk hk3
  have HBY:=aa.mk hBY
  clear hJ3 hk3 hbb hb hBY hy0 Da C9 hJ
  gi_wp2_with fail
  have Mh:=Ml.out.size
  refine⟨⟨TL.out.ko,λb' hb'=>TL.out.blk b' (.inr ?_)⟩,?_,HBY.out.move (TL.out.blk _ (.inr ⟨Nat.le_refl _,by omega⟩))⟩
  .rcases hb' with(rfl|⟨a,ha,rfl⟩)|hb'
   .omega
   .have:=HA.out a ha
    omega
   .omega
  .rw[List.map_append]
   exact HJ3.out
 case done=>
  rintro D m xs V hD hm hxs ⟨hJ,_⟩ yh
  refine⟨by simp,.inl ⟨D,_,rfl,run_takeDeferred yh,?_⟩⟩
  refine⟨_,results_none rfl _ _ _,⟨_,rfl⟩,m,_,hxs,HO.out m _ _ _ (some D) hJ (grownBy_putObj' _ _ _) (λr e=>by cases e;have:=Ml.out.size;omega)⟩
end Go.Proofs.YtdekaocdmjndaaaGreat
namespace Go.Proofs.YtdekaocdmjndaaaGreat
open Go.RowKit Go.Shelf ah YtdekaocdmjndaaaGreatW.aj YtdekaocdmjndaaaGreatW.aH Ag
attribute [local go_sem] Oper.semAt_some
def Tf.T9:Bool×List (List Nat×List Nat):=(true,[([],[]),([],[]),([1],[1]),([2],[2]),([3],[3]),([],[]),([5],[5]),([4,6],[4,6]),([0,0,1,2,3,4,5,6,7],[0]),([8,0,1,2,3,4,5,6,7],[8]),([9,7,7,0,1,2,3,4,5,6,7],[7,9])])
def Tf.B9:List Nat:=[0,0,2,6,14,0,32,126,255,511,1023]
theorem Tf.Cr:eB .any (opsOf Tryz.f82 9)=Tf.T9:=by kernel_rfl
theorem Tf.uf:bI Tf.T9.2 Tf.B9=true:=by kernel_rfl
theorem QG:(Tryz.prog.info? 69).map (λi=>(i.zero,i.size,i.bytes))=some (some (.slice none 0 0),1,24):=by kernel_rfl
theorem Jc{W:World}(w0:World){v:Value}{l:List Rg}{m:Nat}(lo hi:Int)(hb:Below w0.heap.size w0 W)(hR:nQ.R 63 W w0.heap.size (λk=>m<=k) v l)(hm:m<=W.heap.size)(hl:l.length<=1000)(hv:∀r ∈ l,-1000000<=r.f1/\r.f1<=1000000):
  Calls Tryz.prog 80 #[v,.int .i64 lo,.int .i64 hi] W λe w'=>∃v',e= .returned v'/\nQ.R 63 w' w0.heap.size (λk=>m<=k) v' (jN l lo hi)/\Below w0.heap.size w0 w'/\Pj (λb=>b<m) 0 m W w':=by
 have ht:=Kd.bM (ok':=λk=>some k=v.ownBlock/\m<=k) (Kd.wG rfl hR) (λk hk=>⟨hk,hR.1 k hk.symm⟩)
 refine(ja.calls (λk=>some k=v.ownBlock/\m<=k) v l lo hi _ w0 W hb ht (Tg lo hi hl hv)).mono ?_
 rintro e w' ⟨v',h1,h2,h3,h4⟩
 refine⟨v',h1,Kd.bM h2 (λk hk=>hk.elim (λh=>h.2) (λh=>Nat.le_trans hm h)),h3,⟨⟨h4.1,λk o hk ho=>?_⟩,λb hb=>h4.2 b (by omega) (λh=>by omega)⟩⟩
 refine(h4.2 k (Array.getElem?_eq_some_iff.1 hk).1 (λh=>?_)).trans hk
 obtain⟨_,_,_,q,_,cells,hc⟩:=(Kd.bL hR).1 k h.1.symm
 rw[hk] at hc
 cases hc
 cases ho
abbrev Xd:Kd (List Rg):=Kd.slice 63 nQ
structure nO(w:World)(lo hi:Int)(Ar Ac:Option Addr)(nr cr nc cc gf:Nat)(v:Value)(al:List (List Rg))(wr:World):Prop where
 b:Below w.heap.size w wr
 bx:aV wr w.heap.size [.int .i64 lo,.int .i64 hi,.slice Ar nr cr,.slice Ac nc cc] 67
 bf:aV wr gf [.int .i64 lo,.int .i64 hi,.slice Ar nr cr,.slice Ac nc cc,v] 203
 ra:Xd.R 69 wr w.heap.size (λ_=>True) v al
 gf0:w.heap.size<gf
theorem nO.below{w:World}{lo hi:Int}{Ar Ac:Option Addr}{nr cr nc cc gf:Nat}{v:Value}{al:List (List Rg)}{wr W:World}(h:nO w lo hi Ar Ac nr cr nc cc gf v al wr)(hb:Below wr.heap.size wr W):nO w lo hi Ar Ac nr cr nc cc gf v al W:=
 ⟨h.b.trans (hb.mono h.b.size),h.bx.below hb,h.bf.below hb,Kd.dm h.ra hb,h.gf0⟩
theorem nO.put{w:World}{lo hi:Int}{Ar Ac:Option Addr}{nr cr nc cc gf:Nat}{v:Value}{al:List (List Rg)}{W:World}(h:nO w lo hi Ar Ac nr cr nc cc gf v al W){D:Nat}(hlo:w.heap.size<=D)(hD:W.heap[D]?=some (.deferred (some []))):nO w lo hi Ar Ac nr cr nc cc gf v al (W.putObj D (.deferred none)):=by
 have hne:∀{g:Nat} {cs:List Value} {t:TypeId},aV W g cs t->g≠D:=λhb e=>by
  subst e
  have h':W.heap[_]?=some (Obj.cells _ _ (0,0)):=hb
  rw[hD] at h'
  cases h'
 refine⟨h.b.grown (grownBy_putObj' W D _) h.b.size (λk e=>by cases e;exact hlo),h.bx.move (cO _ _ (hne h.bx)),h.bf.move (cO _ _ (hne h.bf)),?_,h.gf0⟩
 refine Kd.bM (Kd.gz (Kd.bL h.ra) (λk hk _=>cO _ _ (λe=>?_))) (λ_ _=>trivial)
 obtain⟨_,_,_,q,_,cells,hc⟩:=hk
 rw[e,hD] at hc
 cases hc
structure Tz(rules:List Ru)(recs:List Re):Prop where
 v:∀r ∈ rules,lD r=true
 x:∀x ∈ recs,(-50000<=x.f0/\x.f0<=50000)/\0<=x.f1/\x.f1<rules.length
 n:rules.length<=4
 m:recs.length<=8
theorem M4{lo hi:Int}{rules:List Ru}{recs:List Re}(h:fe.fault ⟨⟨lo,hi⟩,rules,recs⟩=0):Tz rules recs:=by
 unfold fe.fault at h
 split at h
 .cases h
 .rename_i h0
  simp only at h0
  split at h
  .rename_i h1
   simp only[Bool.and_eq_true,List.all_eq_true] at h1
   refine⟨h1.1.2,λx hx=>?_,by omega,by omega⟩
   have:=h1.2 x hx
   unfold Ef oW at this
   simp only[Bool.and_eq_true,decide_eq_true_eq] at this
   omega
  .cases h
def ag5(wr:World)(gr gl:Nat)(x0 x1 x2:Int)(rs:List Rg)(m:Nat)(pre:List Rg)(V:World):Prop:=
 m<=V.heap.size/\(∀y ∈ pre,y ∈ rs)/\Below wr.heap.size wr V/\aV V gr [.int .i64 x0,.int .i64 x1,.int .i64 x2] 191/\∃v,aV V gl [v] 69/\nQ.R 63 V wr.heap.size (λk=>m<=k) v (jC x0 pre [])
theorem Qw{α:Type}{Rr:α->List Value->Prop}{W:World}{g:Nat}{x:α}{u:Value}(h:W.cell? ⟨g,0,none⟩=some u)(hR:Rr x [u]):fO Rr 1 W (some ⟨g,0,none⟩) 1 [x]:=by
 refine⟨rfl,by omega,λ_=>⟨_,rfl,λj p hj=>?_⟩⟩
 obtain rfl:j=0:=by
  rcases Nat.eq_zero_or_pos j with e|e
  .exact e
  .rw[List.getElem?_eq_none (by simp only[List.length_cons,List.length_nil];omega)] at hj
   cases hj
 obtain rfl:x=p:=by simpa using hj
 refine⟨[u],rfl,hR,λi v hv=>?_⟩
 obtain rfl:i=0:=by
  rcases Nat.eq_zero_or_pos i with e|e
  .exact e
  .rw[List.getElem?_eq_none (by simp only[List.length_cons,List.length_nil];omega)] at hv
   cases hv
 obtain rfl:u=v:=by simpa using hv
 simpa[Addr.add_zero'] using h
theorem xR(day:Int)(a:Rg):∀(az l:List Rg),jC day (az++[a]) l=jN (jC day az l) (day-365*a.f1-364) (day-365*a.f0)
 |[],l=>rfl
 |b::az,l=>by
  rw[List.cons_append,jC,xR day a az,jC]
theorem Ov{l:List Rg}{lo hi:Int}(h:∀r ∈ l,r.f0<=r.f1)(h1:lo<=hi):∀r ∈ jN l lo hi,r.f0<=r.f1:=by
 rcases List.eq_nil_or_concat l with rfl|⟨m,r,rfl⟩
 .simp[jN,h1]
 .rw[List.concat_eq_append] at h ⊢
  unfold jN
  rw[List.getLast?_concat]
  dsimp only
  have hr:=h r (by simp)
  split
  .rw[List.dropLast_concat]
   intro x hx
   rcases List.mem_append.1 hx with h3|h3
   .exact h x (List.mem_append_left _ h3)
   .obtain rfl:=List.mem_singleton.1 h3
    dsimp only
    omega
  .intro x hx
   rcases List.mem_append.1 hx with h3|h3
   .exact h x h3
   .obtain rfl:=List.mem_singleton.1 h3
    exact h1
theorem Ch{day:Int}:∀{az l:List Rg},(∀r ∈ az,r.f0<=r.f1)->(∀r ∈ l,r.f0<=r.f1)->∀r ∈ jC day az l,r.f0<=r.f1
 |[],_,_,h=>h
 |x::az,l,hx,h=>by
  unfold jC
  have h1:=hx x List.mem_cons_self
  exact Ch (λr hr=>hx r (List.mem_cons_of_mem _ hr)) (Ov h (by omega))
set_option maxHeartbeats 40000000 in
theorem zG{Ar Ac:Option Addr}{cr cc:Nat}{rules:List Ru}{recs:List Re}(lo hi:Int)(w:World)(h:Ao w Ar cr rules Ac cc recs)(hok:Tz rules recs):
  Calls Tryz.prog 82 #[.agg #[.int .i64 lo,.int .i64 hi,.slice Ar rules.length cr,.slice Ac recs.length cc]] w λe w'=>∃gf v,e= .returned (.pointer (some ⟨gf,0,none⟩))/\nO w lo hi Ar Ac rules.length cr recs.length cc gf v (recs.map (ni rules)) w':=by
 have H:=aa.mk h
 have HK:=aa.mk hok
 have FV:=hok.m
 clear h hok
 refine(callsIn_wide (n:=9)).1 (bV Tryz.func82 rfl trivial ?_ rfl)
 simp only[Tryz.ntmps82,List.size_toArray,List.length_cons,List.length_nil,Nat.reduceAdd,Nat.reduceSub,Array.replicate_succ,Array.replicate_zero,List.push_toArray,List.append_toArray,List.nil_append,List.cons_append]
 refine wpIn_wide.2 ?_
 go_wp2_with (with_reducible refine wpIn_wide.2 ?_)
 have HF:=aa.mk (show nO w lo hi Ar Ac rules.length cr recs.length cc (w.heap.size+1) (.slice none 0 0) [] ((w.alloc (.cells #[.int .i64 lo,.int .i64 hi,.slice Ar rules.length cr,.slice Ac recs.length cc] 67)).alloc (.cells #[.int .i64 lo,.int .i64 hi,.slice Ar rules.length cr,.slice Ac recs.length cc,.slice none 0 0] 203)) from
  ⟨ae (ae (Below.refl _ _) _) _,(aV.new w [.int .i64 lo,.int .i64 hi,.slice Ar rules.length cr,.slice Ac recs.length cc] 67).alloc _,aV.second w (.cells #[.int .i64 lo,.int .i64 hi,.slice Ar rules.length cr,.slice Ac recs.length cc] 67) [.int .i64 lo,.int .i64 hi,.slice Ar rules.length cr,.slice Ac recs.length cc,.slice none 0 0] 203,Kd.iH _ _ _ _ _,by omega⟩)
 have hs0:w.heap.size+2<=((w.alloc (.cells #[.int .i64 lo,.int .i64 hi,.slice Ar rules.length cr,.slice Ac recs.length cc] 67)).alloc (.cells #[.int .i64 lo,.int .i64 hi,.slice Ar rules.length cr,.slice Ac recs.length cc,.slice none 0 0] 203)).heap.size:=by simp
 generalize(w.alloc (.cells #[.int .i64 lo,.int .i64 hi,.slice Ar rules.length cr,.slice Ac recs.length cc] 67)).alloc (.cells #[.int .i64 lo,.int .i64 hi,.slice Ar rules.length cr,.slice Ac recs.length cc,.slice none 0 0] 203)=w0 at HF hs0 ⊢
 go_wp2_with (with_reducible refine wpIn_wide.2 ?_)
 have HF0:=HF
 clear HF
 refine wp_loop (λa' wr=>∃(ds:List Deferred) (k:Nat) (v:Value),k<=recs.length/\aa (nO w lo hi Ar Ac rules.length cr recs.length cc (w.heap.size+1) v ((recs.take k).map (ni rules)) wr)/\aa (Marks w.heap.size wr ds)/\a'={tmps:=#[.agg #[.int .i64 lo,.int .i64 hi,.slice Ar rules.length cr,.slice Ac recs.length cc],.pointer (some ⟨w.heap.size,0,none⟩),.pointer none,.pointer (some ⟨w.heap.size+1,0,none⟩),a'.tmps.getD 4 undef,a'.tmps.getD 5 undef,a'.tmps.getD 6 undef,a'.tmps.getD 7 undef,.agg #[.int .i64 lo,.int .i64 hi,.slice Ar rules.length cr,.slice Ac recs.length cc],.agg #[.int .i64 lo,.int .i64 hi,.slice Ar rules.length cr,.slice Ac recs.length cc,.slice none 0 0],.pointer (some ⟨w.heap.size+1,0,none⟩),.pointer (some ⟨w.heap.size,3,none⟩),.slice Ac recs.length cc,.int .i64 (recs.length:Int),.int .i64 (k:Int),a'.tmps.getD 15 undef,a'.tmps.getD 16 undef,a'.tmps.getD 17 undef,a'.tmps.getD 18 undef,a'.tmps.getD 19 undef,a'.tmps.getD 20 undef,a'.tmps.getD 21 undef,a'.tmps.getD 22 undef,a'.tmps.getD 23 undef,a'.tmps.getD 24 undef,a'.tmps.getD 25 undef,a'.tmps.getD 26 undef,a'.tmps.getD 27 undef,a'.tmps.getD 28 undef,a'.tmps.getD 29 undef,a'.tmps.getD 30 undef,a'.tmps.getD 31 undef,a'.tmps.getD 32 undef,a'.tmps.getD 33 undef,a'.tmps.getD 34 undef,a'.tmps.getD 35 undef,a'.tmps.getD 36 undef,a'.tmps.getD 37 undef,a'.tmps.getD 38 undef,a'.tmps.getD 39 undef,a'.tmps.getD 40 undef,a'.tmps.getD 41 undef,a'.tmps.getD 42 undef,a'.tmps.getD 43 undef,a'.tmps.getD 44 undef,a'.tmps.getD 45 undef,a'.tmps.getD 46 undef,a'.tmps.getD 47 undef,a'.tmps.getD 48 undef],defers:=ds}) (λa' _=>recs.length-(intOf (a'.tmps.getD 14 undef)).toNat) ?start ?round
 case start=>exact⟨[],0,_,Nat.zero_le _,HF0,⟨trivial⟩,rfl⟩
 case round=>
  clear HF0 hs0
  rintro a' wr ⟨ds,k,v,hk,HF,HM,hfr⟩
  obtain⟨u,hu⟩:∃u:Nat->Value,a'={tmps:=#[.agg #[.int .i64 lo,.int .i64 hi,.slice Ar rules.length cr,.slice Ac recs.length cc],.pointer (some ⟨w.heap.size,0,none⟩),.pointer none,.pointer (some ⟨w.heap.size+1,0,none⟩),(u 4),(u 5),(u 6),(u 7),.agg #[.int .i64 lo,.int .i64 hi,.slice Ar rules.length cr,.slice Ac recs.length cc],.agg #[.int .i64 lo,.int .i64 hi,.slice Ar rules.length cr,.slice Ac recs.length cc,.slice none 0 0],.pointer (some ⟨w.heap.size+1,0,none⟩),.pointer (some ⟨w.heap.size,3,none⟩),.slice Ac recs.length cc,.int .i64 (recs.length:Int),.int .i64 (k:Int),(u 15),(u 16),(u 17),(u 18),(u 19),(u 20),(u 21),(u 22),(u 23),(u 24),(u 25),(u 26),(u 27),(u 28),(u 29),(u 30),(u 31),(u 32),(u 33),(u 34),(u 35),(u 36),(u 37),(u 38),(u 39),(u 40),(u 41),(u 42),(u 43),(u 44),(u 45),(u 46),(u 47),(u 48)],defers:=ds}:=⟨λi=>a'.tmps.getD i undef,hfr⟩
  clear hfr
  subst hu
  dsimp only
  by_cases hkl:k<recs.length
  .obtain⟨ad,e,hq0,hq1,hq2⟩:=Jm (Kd.aC H.out.kc HF.out.b) (k:Int) (by omega) (by omega)
   cases e
   have hrd:qi recs (k:Int)=recs[k]:=by simp[qi,List.getD,hkl]
   have hxk:=HK.out.x recs[k] (List.getElem_mem hkl)
   have hst:(recs.take (k+1)).map (ni rules)=(recs.take k).map (ni rules)++[ni rules recs[k]]:=by
    rw[List.take_succ_eq_append_getElem hkl,List.map_append]
    rfl
   rw[hrd] at hq0 hq1 hq2
   obtain⟨x,hx⟩:∃x,recs[k]=x:=⟨_,rfl⟩
   rw[hx] at hq0 hq1 hq2 hxk hst
   have HST:=aa.mk hst
   clear hx hrd hst
   obtain⟨al,hal⟩:∃l,(recs.take k).map (ni rules)=l:=⟨_,rfl⟩
   have hall:al.length<=8:=by rw[<- hal];simp;omega
   rw[hal] at HF HST
   clear hal
   obtain⟨x0,x1,x2⟩:=x
   simp only at hq0 hq1 hq2 hxk
   simp only[Int.toNat_natCast] at hq0 hq1 hq2
   have hb0:=HF.out.bx.cell 0
   have hb1:=HF.out.bx.cell 1
   have hb2:=HF.out.bx.cell 2
   have hb3:=HF.out.bx.cell 3
   simp only[dZ,dY] at hb0 hb1 hb2 hb3
   have hlb:=HF.out.bx.lt
   go_wp2_with (with_reducible refine wpIn_wide.2 ?_)
   refine(DR lo hi Ar (some ad) rules.length cr recs.length cc x0 x1 x2 _).mono ?_
   rintro e w9 ⟨rfl,rfl⟩
   have hq:=ae (ae (ae (ae (Below.refl wr.heap.size wr) (.cells #[.int .i64 x0,.int .i64 x1,.int .i64 x2] 191)) (.cells #[.slice none 0 0] 69)) (.cells #[.int .i64 lo,.int .i64 hi,.slice Ar rules.length cr,.slice (some ad) recs.length cc] 67)) (.cells #[.int .i64 x0,.int .i64 x1,.int .i64 x2] 191)
   have BR:=aa.mk ((((aV.new wr [.int .i64 x0,.int .i64 x1,.int .i64 x2] 191).alloc (.cells #[.slice none 0 0] 69)).alloc (.cells #[.int .i64 lo,.int .i64 hi,.slice Ar rules.length cr,.slice (some ad) recs.length cc] 67)).alloc (.cells #[.int .i64 x0,.int .i64 x1,.int .i64 x2] 191))
   have BL:=aa.mk (((aV.second wr (.cells #[.int .i64 x0,.int .i64 x1,.int .i64 x2] 191) [.slice none 0 0] 69).alloc (.cells #[.int .i64 lo,.int .i64 hi,.slice Ar rules.length cr,.slice (some ad) recs.length cc] 67)).alloc (.cells #[.int .i64 x0,.int .i64 x1,.int .i64 x2] 191))
   have BP2:=aa.mk ((aV.new ((wr.alloc (.cells #[.int .i64 x0,.int .i64 x1,.int .i64 x2] 191)).alloc (.cells #[.slice none 0 0] 69)) [.int .i64 lo,.int .i64 hi,.slice Ar rules.length cr,.slice (some ad) recs.length cc] 67).alloc (.cells #[.int .i64 x0,.int .i64 x1,.int .i64 x2] 191))
   have Ma:=aa.mk (aV.second ((wr.alloc (.cells #[.int .i64 x0,.int .i64 x1,.int .i64 x2] 191)).alloc (.cells #[.slice none 0 0] 69)) (.cells #[.int .i64 lo,.int .i64 hi,.slice Ar rules.length cr,.slice (some ad) recs.length cc] 67) [.int .i64 x0,.int .i64 x1,.int .i64 x2] 191)
   have hsa:((wr.alloc (.cells #[.int .i64 x0,.int .i64 x1,.int .i64 x2] 191)).alloc (.cells #[.slice none 0 0] 69)).heap.size=wr.heap.size+2:=by simp
   have Mh:((((wr.alloc (.cells #[.int .i64 x0,.int .i64 x1,.int .i64 x2] 191)).alloc (.cells #[.slice none 0 0] 69)).alloc (.cells #[.int .i64 lo,.int .i64 hi,.slice Ar rules.length cr,.slice (some ad) recs.length cc] 67)).alloc (.cells #[.int .i64 x0,.int .i64 x1,.int .i64 x2] 191)).heap.size=wr.heap.size+4:=by simp
   rw[hsa] at BP2 Ma ⊢
   have HW:=aa.mk hq
   have FI:=aa.mk Mh
   have KM:=HF.out.b.size
   clear hq hsa Mh hb0 hb1 hb2 hb3 hq0 hq1 hq2 hlb
   generalize(((wr.alloc (.cells #[.int .i64 x0,.int .i64 x1,.int .i64 x2] 191)).alloc (.cells #[.slice none 0 0] 69)).alloc (.cells #[.int .i64 lo,.int .i64 hi,.slice Ar rules.length cr,.slice (some ad) recs.length cc] 67)).alloc (.cells #[.int .i64 x0,.int .i64 x1,.int .i64 x2] 191)=w9 at HW FI BR BL BP2 Ma ⊢
   obtain⟨gr,hgr⟩:∃g,wr.heap.size=g:=⟨_,rfl⟩
   rw[hgr] at BR BL BP2 Ma FI KM ⊢
   have HGR:=aa.mk hgr
   have hseq:=JP lo hi ⟨x0,x1,x2⟩ BP2.out Ma.out (H.out.below (HF.out.b.trans (HW.out.mono HF.out.b.size))) hxk.2.1 hxk.2.2 HK.out.v
   have hrec:ni rules ⟨x0,x1,x2⟩=jC x0 (dE (oG (rules.getD x1.toNat ⟨0,0,0,0⟩) x2) 0 []).reverse []:=rfl
   have hro:=uu (bs:=oG (rules.getD x1.toNat ⟨0,0,0,0⟩) x2) (k:=121) (Nat.le_refl _)
   rw[List.take_of_length_le (by rw[qF];exact Nat.le_refl _)] at hro
   simp only at hseq
   obtain⟨rs,hrs⟩:∃r,dE (oG (rules.getD x1.toNat ⟨0,0,0,0⟩) x2) 0 []=r:=⟨_,rfl⟩
   rw[hrs] at hseq hrec hro
   have HRC:=aa.mk hrec
   have Xq:=aa.mk hro
   clear hrs hrec hro BP2 Ma hgr
   go_wp2_with (with_reducible refine wpIn_wide.2 ?_)
   refine(wpIn_wide (n:=9)).1 ?_
   refine Cz (n:=9) (T0:=λ_=>False) (by decide) rfl (enters Tryz.func226 (by kernel_rfl) rfl) hseq (λb h=>h.elim) (λx=>rfl)
    (λt x=>t.setIfInBounds 21 (.agg #[.int .i64 x.f0,.int .i64 x.f1])) (λt x b=>(t.setIfInBounds 21 (.agg #[.int .i64 x.f0,.int .i64 x.f1])).setIfInBounds 7 (.pointer (some ⟨b,0,none⟩))) (λx=> .cells #[.int .i64 x.f0,.int .i64 x.f1] 63) (λx=>rfl) (λt x=>by simp[Oz])
    (ag5 wr gr (gr+1) x0 x1 x2 rs) ?hI ?h0 ?assign ?body ?done
   case hI=>
    rintro m s A1 B1 row ⟨h1,h2,h3,h4,vl,h5,h6⟩ hg hr
    have Mh:=FI.out
    have hgr:=HGR.out
    exact⟨Nat.le_trans h1 hg.size,h2,h3.grown hg h3.size (λr e=>by have:=hr r e;omega),h4.move (hg.block _ h4.lt (λe=>by have:=hr _ e.symm;omega)),vl,h5.move (hg.block _ h5.lt (λe=>by have:=hr _ e.symm;omega)),Kd.qH h6 hg (λb hb e=>by have:=hr b e.symm;omega)⟩
   case h0=>
    intro W1 hb
    exact⟨Nat.le_refl _,by simp,HW.out.trans (hb.mono HW.out.size),BR.out.below hb,_,BL.out.below hb,Kd.iH _ _ _ _ _⟩
   case assign=>
    intro l x V K hK
    simp only[sb0,sb1,bR] at hK ⊢
    gi_wp2_with fail
    exact hK
   case body=>
    rintro l m pre ⟨y0,y1⟩ b V ⟨h1,h2,h3,h4,vl,h5,h6⟩ hx hlen hm hb hb1 hb2
    have PZ:=aa.mk hm
    have hpb:=λy hy=>Xq.out.2 y (h2 y hy)
    have hy_:=Xq.out.2 ⟨y0,y1⟩ hx
    simp only at hy_
    have hal:=o5 (day:=x0) (az:=pre) (l:=[])
    have hin:=Ci (day:=x0) (a:= -200000) (b:=200000) (az:=pre) (l:=[]) (λr hr=>by have:=hpb r hr;omega) (by simp)
    have hle:=Ch (day:=x0) (az:=pre) (l:=[]) (λr hr=>(hpb r hr).2.1) (by simp)
    have hlr:=Xq.out.1
    have LP:=aa.mk (xR x0 ⟨y0,y1⟩ pre [])
    have RZ:=aa.mk (show ∀y ∈ pre++[(⟨y0,y1⟩:Rg)],y ∈ rs from λy hy=>(List.mem_append.1 hy).elim (h2 y) (λh=>by rw[List.mem_singleton.1 h];exact hx))
    obtain⟨ls,hls⟩:∃l,jC x0 pre []=l:=⟨_,rfl⟩
    rw[hls] at h6 hal hin hle LP
    obtain⟨Av,cv,rfl⟩:=Kd.di h6
    have H3:=aa.mk h3
    have H4:=aa.mk h4
    have H5:=aa.mk h5
    have H6:=aa.mk h6
    have WL:=aa.mk (show ls.length<=1000/\∀r ∈ ls,-1000000<=r.f1/\r.f1<=1000000 from⟨by simp at hal;omega,λr hr=>by have:=hin r hr;have:=hle r hr;omega⟩)
    have hbb:aV V b [.int .i64 y0,.int .i64 y1] 63:=hb
    have Da:=hbb.cell 0
    have C9:=hbb.cell 1
    have hd0:=h4.cell 0
    have hv0:=h5.cell 0
    have I6:=h5.frozen 0
    simp only[dZ,dY] at Da C9 hd0 hv0
    have hl4:=h4.lt
    have hl5:=h5.lt
    have hdd:=hxk.1
    obtain⟨nl,hnl⟩:∃n,ls.length=n:=⟨_,rfl⟩
    rw[hnl] at hv0 H5 H6
    clear hb hbb h2 h3 h4 h5 h6 hls hal hin hle hpb hx hlen hnl hm hb1 hlr
    simp only[sb0,sb1,bR]
    gi_wp2_with fail
    refine⟨trivial,CallsIn.mono (show CallsIn (Fence.wide.inRound l) 6 Tryz.prog _ _ _ _ from callsIn_wide.2 (Jc wr (x0-365*y1-364) (x0-365*y0) H3.out H6.out h1 WL.out.1 WL.out.2)) ?_⟩
    rintro e w5 ⟨v',rfl,hR',hB',hK'⟩
    obtain⟨Aw,cw,rfl⟩:=Kd.di hR'
    have YC:=(hK'.blk (gr+1) (.inl (by have:=FI.out;have:=PZ.out;omega)))
    have Ps:=aa.mk (H5.out.move YC)
    have H45:=aa.mk (H4.out.move (hK'.blk gr (.inl (by have:=FI.out;have:=PZ.out;omega))))
    have HR5:=aa.mk hR'
    have wM:=aa.mk hB'
    have Xu:=aa.mk hK'
    have I6:=Ps.out.frozen 0
    have hv0:=Ps.out.cell 0
    simp only[dZ,dY] at hv0
    have hl5:=Ps.out.lt
    clear hR' hB' hK' YC Da C9 hd0 hl4 H3 H4 H5 H6
    gi_wp2_with fail
    have hmm:=PZ.out
    have Mh:=FI.out
    have hgr:=HGR.out
    have Mi:=Xu.out
    refine⟨⟨Mi.ko.trans (KeepsOthers.setCell _ _ _),λb' hb'=>?_⟩,?_,RZ.out,wM.out.setCell (p:=⟨gr+1,0,none⟩) (by simp only;omega) _,H45.out.move (Below.heap_setCell _ _ _ _ (by simp only;omega)),_,Ps.out.setAt 0 _,?_⟩
    .rcases hb' with hb'|hb'
     .exact hb'.elim
     .exact(Below.heap_setCell _ _ _ _ (by simp only;omega)).trans (Mi.blk b' (.inl hb'.2))
    .have:=Mi.ko.size
     simp[World.setCell]
     omega
    .rw[LP.out]
     exact Kd.gP (p:=⟨gr+1,0,none⟩) HR5.out (λk hk=>by simp only;omega) _
   case done=>
    rintro D m xs V hD hm hxs ⟨h1,h2,h3,h4,vl,h5,h6⟩ yh
    subst hD
    rw[hxs,<- HRC.out] at h6
    obtain⟨ys,hys⟩:∃l,ni rules ⟨x0,x1,x2⟩=l:=⟨_,rfl⟩
    rw[hys] at h6
    rw[hys] at HST
    have hgr:=HGR.out
    have hvk:=λb hb=>((Kd.bL HF.out.ra).1 b hb).2.2.1
    have HVK:=aa.mk hvk
    have FM:=aa.mk (Marks.cons (lo:=w.heap.size) (a:=wr) (b:=V) HM.out (λD' hd'=>(h3.block D' (Array.getElem?_eq_some_iff.1 hd').1).trans hd') (D:=w9.heap.size) (by have:=FI.out;omega) HF.out.b.size yh)
    have qO:=aa.mk (HF.out.below h3)
    have H5:=aa.mk h5
    have H6:=aa.mk (Kd.dG (Kd.bM (Kd.bL h6) (λb hb=>(hb.2.1:wr.heap.size<=b))) HF.out.b.size)
    have Xf:=qO.out.bf.cell 4
    have hl0:=h5.cell 0
    have hlf:=qO.out.bf.lt
    have hll:=h5.lt
    simp only[dZ,dY] at Xf hl0
    clear h2 h3 h4 h5 h6 hys hxs yh hseq HF HM hm hvk h1
    obtain⟨Av,nv,cv,rfl⟩:∃A n c,vl= .slice A n c:=by
     obtain⟨a_,b_,e_⟩:=Kd.di H6.out
     exact⟨_,_,_,e_⟩
    dsimp only
    go_wp2_with (with_reducible refine wpIn_wide.2 ?_)
    refine fF (n:=11) (S:=λw'=>w'.cell? ⟨w.heap.size+1,4,none⟩=some v/\w'.cell? ⟨gr+1,0,none⟩=some (.slice Av nv cv)) (ds:=[7,10]) #[O,O,O,O,O,O,O,O,O,O,O] (by kernel_rfl) rfl rfl ⟨Xf,hl0⟩ (λhHeld=>?_);refine bG Tf.Cr Tf.uf (λau cz=>?_)
    replace qO:=aa.mk (qO.out.below (aN (Below.refl _ V)))
    replace FM:=aa.mk FM.out.drew
    replace H6:=aa.mk (Kd.dm H6.out (aN (Below.refl _ V)))
    clear Xf hl0 hlf hll H5
    generalize V.drew=wd at qO FM H6 hHeld ⊢
    refine bq 0 37 #[I,O,O,O,O,O,O,O,O,O,O] au (h:=?_)
    refine bq 1 38 #[I,I,O,O,O,O,O,O,O,O,O] au (h:=?_)
    refine bq 2 39 #[I,I,I,O,O,O,O,O,O,O,O] au (h:=?_)
    refine bq 3 40 #[I,I,I,I,O,O,O,O,O,O,O] au (h:=?_)
    refine fJ 4 41 #[I,I,I,I,I,O,O,O,O,O,O] au cz hHeld (hy:=by(rintro w' ⟨s0,s1⟩;go_simp;with_reducible rfl)) (h:=?_)
    refine fJ 5 42 #[I,I,I,I,I,I,O,O,O,O,O] au cz hHeld (hy:=by(rintro w' ⟨s0,s1⟩;go_simp;with_reducible rfl)) (h:=?_)
    refine gB (i:=6) (N:=some 43) #[I,I,I,I,I,I,I,O,O,O,O] rfl rfl (aM au.out (by kernel_rfl)) (by decide) (λK hK=>?_)
    refine bD (w1:=?_) (v:=?_) (by rfl) rfl ?_ ?_
    rotate_left 2
    .go_simp
     constructor<;>rfl
    refine hK.out _ _ ⟨((ae (Below.refl _ wd) (.cells #[.slice Av nv cv] 69)).cell (World.block_lt_of_cell? _ _ hHeld.1)).trans hHeld.1,((ae (Below.refl _ wd) (.cells #[.slice Av nv cv] 69)).cell (World.block_lt_of_cell? _ _ hHeld.2)).trans hHeld.2⟩ (λhHeld=>?_)
    clear hK K
    have B9:=aa.mk (aV.new wd [.slice Av nv cv] 69)
    replace qO:=aa.mk (qO.out.below (ae (Below.refl _ wd) (.cells #[.slice Av nv cv] 69)))
    replace FM:=aa.mk (FM.out.alloc (.cells #[.slice Av nv cv] 69))
    replace H6:=aa.mk (Kd.dm H6.out (ae (Below.refl _ wd) (.cells #[.slice Av nv cv] 69)))
    generalize hgm:wd.heap.size=gm at B9 ⊢
    clear hgm
    generalize wd.alloc (.cells #[.slice Av nv cv] 69)=we at B9 qO FM H6 hHeld ⊢
    refine j4 ?_
    refine fB (i:=7) (N:=some 44) #[I,I,I,I,I,I,I,I,O,O,O] rfl rfl (aM au.out (by kernel_rfl)) (by decide) (λK hK=>?_)
    refine Kd.gX Xd (w0:=w) w.heap.size (by rfl) (.tmp 41) (.tmp 43) 201 69 (.slice none 0 0) 24 rfl Tryz.underlying201 QG rfl (by decide) (by decide) v al [ys] (some ⟨gm,0,none⟩) 1 1 (λ_=>True) (λb=>wr.heap.size<=b) rfl rfl qO.out.ra (Qw (Rr:=λx cs=>Xd.M we w.heap.size (λb=>wr.heap.size<=b) x cs) (B9.out.cell 0) ⟨_,rfl,H6.out⟩) (λx cs h=>h) (λb hb=>⟨trivial,λe=>by have:=HVK.out b e.symm;omega⟩) (λ_ _=>trivial) qO.out.b qO.out.b.size (by omega) ?_
    intro vn wn hon hbn hgn iP
    obtain⟨zs,hzs⟩:∃l,al++[ys]=l:=⟨_,rfl⟩
    rw[hzs] at hon HST
    obtain⟨An,cn,rfl⟩:=Kd.di hon
    obtain⟨nz,hnz⟩:∃n,zs.length=n:=⟨_,rfl⟩
    rw[hnz] at hon ⊢
    clear hzs hnz
    have hne1:∀(g:Nat) (cs:List Value) (t:TypeId),aV we g cs t->t≠69->aV wn g cs t:=λg cs t hb ht=>hb.move (hgn.block g hb.lt (λe=>(Kd.FD qO.out.ra (show we.heap[g]?=some (.cells _ t (0,0)) from hb) (λe=>ht e.symm)) e))
    have XA:=aa.mk (hne1 _ _ _ qO.out.bf (by decide))
    have BXn:=aa.mk (hne1 _ _ _ qO.out.bx (by decide))
    have HMn:=aa.mk (Marks.move (λD hd=>(hgn.block D (Array.getElem?_eq_some_iff.1 hd).1 (λe=>by obtain⟨_,_,_,q,_,cells,hc⟩:=(Kd.bL qO.out.ra).1 D e.symm;rw[hd] at hc;cases hc)).trans hd) FM.out:Marks w.heap.size wn _)
    have FJ:=aa.mk hon
    have JG:=aa.mk hbn
    have Xf:=XA.out.cell 4
    have hff:=XA.out.frozen 4
    simp only[dZ,dY] at Xf
    have hlf:=XA.out.lt
    refine hK.out _ _ ?_
    clear hK K hon hbn hgn iP hne1 B9 H6 qO FM
    refine j4 ?_
    refine bq 8 45 #[I,I,I,I,I,I,I,I,I,O,O] au (h:=?_)
    refine bq 9 46 #[I,I,I,I,I,I,I,I,I,I,O] au (h:=?_)
    refine fB (i:=10) (N:=none) #[I,I,I,I,I,I,I,I,I,I,I] rfl rfl (aM au.out (by kernel_rfl)) (by decide) (λK hK=>?_)
    have iD:=Xf
    have lG:=hff
    refine kg (w1:=?_) (by rfl) rfl ?_ ?_
    rotate_left
    .go_simp
     rfl
    refine hK.out _ _ ?_
    clear hK K iD lG
    have HF4:=aa.mk (show nO w lo hi Ar (some ad) rules.length cr recs.length cc (w.heap.size+1) (.slice An nz cn) zs (wn.setCell ⟨w.heap.size+1,4,none⟩ (.slice An nz cn)) from⟨JG.out.setCell (p:=⟨w.heap.size+1,4,none⟩) (by simp only;omega) _,BXn.out.move (Below.heap_setCell _ _ _ _ (by simp only;omega)),XA.out.setAt 4 _,Kd.Ty FJ.out XA.out (by decide) 4 _,by omega⟩)
    have TI:=aa.mk (HMn.out.setCell ⟨w.heap.size+1,4,none⟩ (.slice An nz cn))
    clear JG BXn XA FJ HMn
    generalize wn.setCell ⟨w.heap.size+1,4,none⟩ (.slice An nz cn)=wz at HF4 TI ⊢
    refine fM (bP au.out (by kernel_rfl)) ?_
    go_wp2_with (with_reducible refine wpIn_wide.2 ?_)
    exact⟨⟨_,k+1,_,by omega,⟨by rw[HST.out];exact HF4.out⟩,TI,rfl⟩,by simp[intOf];omega⟩
  .obtain rfl:k=recs.length:=by omega
   rw[List.take_length] at HF
   go_wp2_with (with_reducible refine wpIn_wide.2 ?_)
   refine Marks.leaves (lo:=w.heap.size) (Inv:=λW=>nO w lo hi Ar Ac rules.length cr recs.length cc (w.heap.size+1) v (recs.map (ni rules)) W) ?_ (λW hi=>?_) ds wr HM.out HF.out
   .rintro W D hlo hD h
    exact h.put hlo hD
   .exact⟨_,results_tmp rfl _ _ _,_,_,rfl,hi⟩
end Go.Proofs.YtdekaocdmjndaaaGreat
