import Derived.Test.YtdekaocdmjndaaaGreatQ22
set_option linter.all false
namespace Go.Proofs.YtdekaocdmjndaaaGreat
open Go.RowKit Go.Shelf ah YtdekaocdmjndaaaGreatW.aj YtdekaocdmjndaaaGreatW.aH Ag
attribute [local go_sem] Oper.semAt_some
def EY.T8:Bool×List (List Nat×List Nat):=(true,[([],[]),([0],[0]),([1],[1]),([2],[2]),([],[]),([3,4],[3,4]),([5],[5])])
def EY.B8:List Nat:=[0,1,3,7,0,31,63]
theorem EY.Ut:eB .any (opsOf Tryz.f23 8)=EY.T8:=by kernel_rfl
theorem EY.Jk:bI EY.T8.2 EY.B8=true:=by kernel_rfl
def EY.ZY:Bool×List (List Nat×List Nat):=(true,[([],[]),([],[]),([],[]),([2],[2]),([],[]),([3,4],[3,4]),([5],[5]),([1,6],[1,6]),([7],[7]),([],[]),([],[]),([10],[10]),([9,11],[9,11]),([12],[12]),([0,8,13,6],[0,8,13]),([14,14,0,1,2,3,4,5,6,7,8,9,10,11,12,13,14],[14])])
def EY.IJ:List Nat:=[0,0,0,4,0,28,60,126,254,0,0,1024,3584,7680,16383,32767]
theorem EY.Sv:eB .any (opsOf Tryz.f23 14)=EY.ZY:=by kernel_rfl
theorem EY.OQ:bI EY.ZY.2 EY.IJ=true:=by kernel_rfl
theorem En(day:Int)(a:Rg):∀(az l:List Rg),DI day (az++[a]) l=if a.f0<=day then jN (DI day az l) ((day-min a.f1 day)/365) ((day-a.f0)/365) else DI day az l
 |[],l=>rfl
 |b::az,l=>by
  rw[List.cons_append,DI,En day a az,DI]
theorem Jh{a b:Int}(h0:0<=a)(h1:a<=b)(h2:b<=100000):0<=a/365/\a/365<=b/365/\b/365<=1000:=by omega
theorem Nh{day:Int}(hd: -50000<=day/\day<=50000):∀{az l:List Rg},(∀r ∈ az,-50000<=r.f0/\r.f0<=r.f1/\r.f1<=50000)->(∀r ∈ l,(0<=r.f0/\r.f1<=1000)/\r.f0<=r.f1)->∀r ∈ DI day az l,(0<=r.f0/\r.f1<=1000)/\r.f0<=r.f1
 |[],_,_,h=>h
 |x::az,l,hx,h=>by
  unfold DI
  have h1:=hx x List.mem_cons_self
  refine Nh hd (λr hr=>hx r (List.mem_cons_of_mem _ hr)) ?_
  split
  .have h2:=Jh (a:=day-min x.f1 day) (b:=day-x.f0) (by omega) (by omega) (by omega)
   have h3:=Ho (lo:=(day-min x.f1 day)/365) (hi:=(day-x.f0)/365) (λr hr=>(h r hr).1) h2.1 h2.2.2
   have h4:=Ov (lo:=(day-min x.f1 day)/365) (hi:=(day-x.f0)/365) (λr hr=>(h r hr).2) h2.2.1
   exact λr hr=>⟨h3 r hr,h4 r hr⟩
  .exact h
theorem Lp{lo hi:Int}{rules:List Ru}{recs:List Re}{l:List Rg}(h:fe.bU ⟨⟨lo,hi⟩,rules,recs⟩=(l,0)):∀r ∈ l,-50000<=r.f0/\r.f0<=r.f1/\r.f1<=50000:=by
 unfold fe.bU at h
 split at h
 .rename_i h0
  have hb:=fe.yG h0
  have hc:=fe.pO ⟨⟨lo,hi⟩,rules,recs⟩
  obtain rfl:nI ⟨lo,hi⟩ (fe.al ⟨⟨lo,hi⟩,rules,recs⟩) []=l:=congrArg Prod.fst h
  have aeW:=oF (out:=[]) hb hc
  have hm:=λd=>sS (out:=[]) (d:=d) hb hc
  have hbb: -50000<=lo/\hi<=50000:=by
   unfold fe.fault at h0
   split at h0
   .cases h0
   .split at h0
    .rename_i h1
     simp only[Bool.and_eq_true,decide_eq_true_eq,oW] at h1
     omega
    .cases h0
  intro r hr
  have h1:=aeW.1 r hr
  have h2:=((hm r.f0).1 ⟨r,hr,Int.le_refl _,h1⟩).1
  have h3:=((hm r.f1).1 ⟨r,hr,h1,Int.le_refl _⟩).1
  simp only at h2 h3
  omega
 .rename_i h0
  exact absurd (congrArg Prod.snd h) h0
def afU(w:World)(gd g8:Nat)(day:Int)(l:List Rg)(m:Nat)(pre:List (Int×Rg))(V:World):Prop:=
 m<=V.heap.size/\(∀y ∈ pre,y.2 ∈ l)/\Below w.heap.size w V/\aV V gd [.int .i64 day] 3/\∃v,aV V g8 [v] 69/\nQ.R 63 V w.heap.size (λk=>m<=k) v (DI day (pre.map (·.2)) [])
structure OSt(w:World)(gd g8:Nat)(day:Int)(m:Nat)(vl:Value)(ls:List Rg)(V0 V:World):Prop where
 hm:m<=V.heap.size
 b:Below w.heap.size w V
 d:aV V gd [.int .i64 day] 3
 o:aV V g8 [vl] 69
 r:nQ.R 63 V w.heap.size (λk=>m<=k) vl ls
 k:Below V0.heap.size V0 V
theorem OSt.below{w:World}{gd g8:Nat}{day:Int}{m:Nat}{vl:Value}{ls:List Rg}{V0 V V':World}(h:OSt w gd g8 day m vl ls V0 V)(hb:Below V.heap.size V V'):OSt w gd g8 day m vl ls V0 V':=
 ⟨Nat.le_trans h.hm hb.size,h.b.trans (hb.mono h.b.size),h.d.below hb,h.o.below hb,Kd.dm h.r hb,h.k.trans (hb.mono h.k.size)⟩
set_option maxRecDepth 100000 in
set_option maxHeartbeats 40000000 in
theorem FE{Ar Ac:Option Addr}{cr cc:Nat}{rules:List Ru}{recs:List Re}(lo hi day:Int)(w:World)(h:Ao w Ar cr rules Ac cc recs):
  Calls Tryz.prog 23 #[.agg #[.int .i64 lo,.int .i64 hi,.slice Ar rules.length cr,.slice Ac recs.length cc],.int .i64 day] w (Ij w (fe.on ⟨⟨lo,hi⟩,rules,recs⟩ day)):=by
 have H:=aa.mk h
 clear h
 have hln:=qE ⟨⟨lo,hi⟩,rules,recs⟩
 obtain⟨⟨l,f⟩,hx⟩:∃x,fe.bU ⟨⟨lo,hi⟩,rules,recs⟩=x:=⟨_,rfl⟩
 have HX:=aa.mk (λW=>rQ (Ar:=Ar) (Ac:=Ac) (cr:=cr) (cc:=cc) lo hi l f hx W)
 have HXX:=aa.mk hx
 have HP:=aa.mk (show fe.on ⟨⟨lo,hi⟩,rules,recs⟩ day=if f≠0 then([],f) else if oW day (-50000) 50000=false then([],2) else match l with
 |[]=>([],9)
 |r::_=>if day<r.f0 then([],7) else(DI day l.reverse [],0) from by unfold fe.on;rw[hx];cases l<;>rfl)
 rw[hx] at hln
 replace hln:l.length<=1000:=hln
 obtain⟨y,hy⟩:∃y,fe.on ⟨⟨lo,hi⟩,rules,recs⟩ day=y:=⟨_,rfl⟩
 rw[hy] at HP ⊢
 clear hx hy
 refine(callsIn_wide (n:=9)).1 (bV Tryz.func23 rfl trivial ?_ rfl)
 simp only[Tryz.ntmps23,List.size_toArray,List.length_cons,List.length_nil,Nat.reduceAdd,Nat.reduceSub,Array.replicate_succ,Array.replicate_zero,List.push_toArray,List.append_toArray,List.nil_append,List.cons_append]
 refine wpIn_wide.2 ?_
 go_upto_region 1 with(fail)
 have HB:=aa.mk (ae (ae (Below.refl w.heap.size w) (.cells #[.int .i64 lo,.int .i64 hi,.slice Ar rules.length cr,.slice Ac recs.length cc] 67)) (.cells #[.int .i64 day] 3))
 have BX:=aa.mk ((aV.new w [.int .i64 lo,.int .i64 hi,.slice Ar rules.length cr,.slice Ac recs.length cc] 67).alloc (.cells #[.int .i64 day] 3))
 have BD:=aa.mk (aV.second w (.cells #[.int .i64 lo,.int .i64 hi,.slice Ar rules.length cr,.slice Ac recs.length cc] 67) [.int .i64 day] 3)
 generalize(w.alloc (.cells #[.int .i64 lo,.int .i64 hi,.slice Ar rules.length cr,.slice Ac recs.length cc] 67)).alloc (.cells #[.int .i64 day] 3)=w0 at HB BX BD ⊢
 have dx:=BX.out.cell 0
 have dw:=BX.out.cell 1
 have dn:=BX.out.cell 2
 have dQ:=BX.out.cell 3
 simp only[dZ,dY] at dx dw dn dQ
 have mg:=BX.out.lt
 go_wp2_with (with_reducible refine wpIn_wide.2 ?_)
 refine(HX.out w0 (H.out.below HB.out)).mono ?_
 rintro e w1 ⟨v,rfl,hR,dK⟩
 have HR:=aa.mk (Kd.dG hR HB.out.size)
 replace BD:=aa.mk (BD.out.below dK)
 clear dx dw dn dQ mg
 replace HB:=aa.mk (HB.out.trans (dK.mono HB.out.size))
 replace BX:=aa.mk (BX.out.below dK)
 clear dK
 clear hR
 obtain⟨A,c,rfl,hc,hC⟩:=Kd.dB HR.out
 have HC:=aa.mk hC
 clear hC
 have hd0:=BD.out.cell 0
 simp only[List.getElem?_cons_zero] at hd0
 have hld:=BD.out.lt
 by_cases hf:f=0
 .subst hf
  rw[if_neg (by simp)] at HP
  obtain⟨b1,hb1⟩:∃o,oW day (-50000) 50000=o:=⟨_,rfl⟩
  have wL:=aa.mk (yD day b1 hb1)
  have HD1:=aa.mk hb1
  rw[hb1] at HP
  clear hb1
  simp only
  go_wp2_with (with_reducible refine wpIn_wide.2 ?_)
  refine(wL.out _).mono ?_
  rintro e w2 ⟨rfl,dK⟩
  replace HB:=aa.mk (HB.out.trans (dK.mono HB.out.size))
  replace BD:=aa.mk (BD.out.below dK)
  replace HC:=aa.mk (Kd.aC HC.out dK)
  replace HR:=aa.mk (Kd.dm HR.out dK)
  clear dK hd0 hld
  cases b1
  .rw[if_pos rfl] at HP
   go_wp2_with (with_reducible refine wpIn_wide.2 ?_)
   exact⟨_,results_tmp2 rfl _ _ _,HP.out▸⟨_,rfl,Kd.iH _ _ _ _ _,HB.out⟩⟩
  rw[if_neg (by simp)] at HP
  have hdd: -50000<=day/\day<=50000:=by
   have:=HD1.out
   unfold oW at this
   simpa using this
  have hd0:=BD.out.cell 0
  simp only[List.getElem?_cons_zero] at hd0
  have hld:=BD.out.lt
  cases l with
  |nil=>
   simp only[List.length_nil] at HR ⊢
   go_wp2_with (with_reducible refine wpIn_wide.2 ?_)
   exact⟨_,results_tmp2 rfl _ _ _,HP.out▸⟨_,rfl,Kd.iH _ _ _ _ _,HB.out⟩⟩
  |cons r l=>
   have WL:=aa.mk (Lp HXX.out)
   obtain⟨ad,e,hq0,hq1⟩:=kW HC.out 0 (by omega) (by simp)
   cases e
   rw[show bS (r::l) 0=r from rfl] at hq0
   simp only[show((0:Int)).toNat=0 from rfl,Nat.zero_mul,Addr.add_zero'] at hq0
   replace HP:=aa.mk (show y=if day<r.f0 then([],7) else(DI day (r::l).reverse [],0) from HP.out)
   have hrr:=WL.out r List.mem_cons_self
   obtain⟨r0,r1⟩:=r
   simp only at hq0 hrr
   have hlb:(((⟨r0,r1⟩::l:List Rg).length:Int)==0)=false:=by simp;omega
   have hlp:(0:Int)<((⟨r0,r1⟩::l:List Rg).length:Int):=by simp
   obtain⟨n,hn⟩:∃n,(⟨r0,r1⟩::l:List Rg).length=n:=⟨_,rfl⟩
   have HNN:=aa.mk hn
   rw[hn] at hlb hlp HR HC hc hln ⊢
   have hnn:0<n:=by omega
   clear hn hq1
   go_wp2_with (with_reducible refine wpIn_wide.2 ?_)
   refine fF (n:=7) (S:=λw'=>w'.cell? ad=some (.int .i64 r0)/\w'.cell? ⟨w.heap.size+1,0,none⟩=some (.int .i64 day)) (ds:=[]) #[O,O,O,O,O,O,O] (by kernel_rfl) rfl rfl ⟨hq0,hd0⟩ (λhHeld=>?_);refine bG EY.Ut EY.Jk (λau cz=>?_)
   replace HB:=aa.mk (aN HB.out)
   replace BD:=aa.mk (BD.out.move rfl:aV w2.drew _ _ _)
   replace HC:=aa.mk (Kd.aC HC.out (aN (Below.refl _ w2)))
   replace HR:=aa.mk (Kd.dm HR.out (aN (Below.refl _ w2)))
   clear hq0 hd0 hld
   generalize w2.drew=wd at HB BD HC HR hHeld ⊢
   refine bq 0 29 #[I,O,O,O,O,O,O] au (h:=?_)
   refine bq 1 30 #[I,I,O,O,O,O,O] au (h:=?_)
   refine bq 2 31 #[I,I,I,O,O,O,O] au (h:=?_)
   refine fJ 3 32 #[I,I,I,I,O,O,O] au cz hHeld (hy:=by(rintro w' ⟨s0,s1⟩;go_simp;with_reducible rfl)) (h:=?_)
   refine fJ 4 33 #[I,I,I,I,I,O,O] au cz hHeld (hy:=by(rintro w' ⟨s0,s1⟩;go_simp;with_reducible rfl)) (h:=?_)
   refine bq 5 34 #[I,I,I,I,I,I,O] au (h:=?_)
   refine bq 6 28 #[I,I,I,I,I,I,I] au (h:=?_)
   refine fM (bP au.out (by kernel_rfl)) ?_
   clear hHeld au cz
   by_cases hlt:day<r0
   .rw[show(if day<(⟨r0,r1⟩:Rg).f0 then(([],7):List Rg×Int) else(DI day ((⟨r0,r1⟩:Rg)::l).reverse [],0))=([],7) from if_pos hlt] at HP
    go_wp2_with (with_reducible refine wpIn_wide.2 ?_)
    exact⟨_,results_tmp2 rfl _ _ _,HP.out▸⟨_,rfl,Kd.iH _ _ _ _ _,HB.out⟩⟩
   rw[show(if day<(⟨r0,r1⟩:Rg).f0 then(([],7):List Rg×Int) else(DI day ((⟨r0,r1⟩:Rg)::l).reverse [],0))=(DI day ((⟨r0,r1⟩:Rg)::l).reverse [],0) from if_neg hlt] at HP
   replace hlt:=Int.not_lt.1 hlt
   obtain⟨xs,hxs⟩:∃xs,(⟨r0,r1⟩::l:List Rg)=xs:=⟨_,rfl⟩
   rw[hxs] at WL HC HR HP HNN
   clear hxs hrr
   go_wp2_with (with_reducible refine wpIn_wide.2 ?_)
   have hnx:=HNN.out
   subst hnx
   refine(zQ (some ad) xs.length c _).mono ?_
   rintro e w9 ⟨rfl,rfl⟩
   have hab:=(Kd.bL HR.out).1 ad.block rfl
   have BO:=aa.mk ((aV.new wd [.slice none 0 0] 69).alloc (.cells #[.slice (some ad) xs.length c] 69))
   have BG:=aa.mk (aV.second wd (.cells #[.slice none 0 0] 69) [.slice (some ad) xs.length c] 69)
   have Ml:=aa.mk (ae (ae HB.out (.cells #[.slice none 0 0] 69)) (.cells #[.slice (some ad) xs.length c] 69))
   have BD9:=aa.mk ((BD.out.alloc (.cells #[.slice none 0 0] 69)).alloc (.cells #[.slice (some ad) xs.length c] 69))
   have HC9:=aa.mk (Kd.aC HC.out (ae (ae (Below.refl wd.heap.size wd) (.cells #[.slice none 0 0] 69)) (.cells #[.slice (some ad) xs.length c] 69)))
   have Mh:((wd.alloc (.cells #[.slice none 0 0] 69)).alloc (.cells #[.slice (some ad) xs.length c] 69)).heap.size=wd.heap.size+2:=by simp
   have HAB:=aa.mk (show w.heap.size<=ad.block/\ad.block<wd.heap.size from⟨hab.2.1,hab.2.2.1⟩)
   have FI:=aa.mk Mh
   have hgd:=BD.out.lt
   have hsz:(wd.alloc (.cells #[.slice none 0 0] 69)).heap.size=wd.heap.size+1:=by simp
   rw[hsz]
   clear HB BD HC HR hab Mh hsz
   generalize(wd.alloc (.cells #[.slice none 0 0] 69)).alloc (.cells #[.slice (some ad) xs.length c] 69)=w9 at BO BG Ml BD9 HC9 FI ⊢
   obtain⟨g8,hg8⟩:∃g,wd.heap.size=g:=⟨_,rfl⟩
   rw[hg8] at BO BG FI HAB hgd ⊢
   have hseq:=Fs xs (BG.out.cell 0) HC9.out (by omega)
   clear hg8
   go_wp2_with (with_reducible refine wpIn_wide.2 ?_)
   refine(wpIn_wide (n:=9)).1 ?_
   refine Cz (n:=9) (T0:=bkT (g8+1) (some ad)) (by decide) rfl (enters Tryz.func160 (by kernel_rfl) rfl) hseq ?hT0 (λx=>rfl)
    (λt x=>(t.setIfInBounds 37 (.int .i64 x.1)).setIfInBounds 38 (.agg #[.int .i64 x.2.f0,.int .i64 x.2.f1])) (λt x b=>((t.setIfInBounds 37 (.int .i64 x.1)).setIfInBounds 38 (.agg #[.int .i64 x.2.f0,.int .i64 x.2.f1])).setIfInBounds 10 (.pointer (some ⟨b,0,none⟩))) (λx=> .cells #[.int .i64 x.2.f0,.int .i64 x.2.f1] 63) (λx=>rfl) (λt x=>by simp[Je])
    (afU w (w.heap.size+1) g8 day xs) ?hI ?h0 ?assign ?body ?done
   case hT0=>
    have Mh:=FI.out
    have hab:=HAB.out
    rintro b (rfl|⟨a,ha,rfl⟩)
    .omega
    .cases ha
     omega
   case hI=>
    rintro m s A1 B1 row ⟨h1,h2,h3,h4,vl,h5,h6⟩ hg hr
    have Mh:=FI.out
    exact⟨Nat.le_trans h1 hg.size,h2,h3.grown hg h3.size (λr e=>by have:=hr r e;omega),h4.move (hg.block _ h4.lt (λe=>by have:=hr _ e.symm;omega)),vl,h5.move (hg.block _ h5.lt (λe=>by have:=hr _ e.symm;omega)),Kd.qH h6 hg (λb hb e=>by have:=hr b e.symm;omega)⟩
   case h0=>
    intro W1 hb
    exact⟨Nat.le_refl _,by simp,Ml.out.trans (hb.mono Ml.out.size),BD9.out.below hb,_,BO.out.below hb,Kd.iH _ _ _ _ _⟩
   case assign=>
    intro l x V K hK
    simp only[sb0,sb1,bR] at hK ⊢
    gi_wp2_with fail
    exact hK
   case body=>
    rintro l' m pre ⟨xi,y0,y1⟩ b V ⟨h1,h2,h3,h4,vl,h5,h6⟩ hx hlen hm hb hb1 hb2
    have PZ:=aa.mk hm
    have hpre:∀z ∈ pre.map (·.2),-50000<=z.f0/\z.f0<=z.f1/\z.f1<=50000:=λz hz=>by
     obtain⟨q,hq,rfl⟩:=List.mem_map.1 hz
     exact WL.out _ (h2 q hq)
    have hy_:=WL.out ⟨y0,y1⟩ hx
    simp only at hy_
    have hok:=Nh (day:=day) hdd (az:=pre.map (·.2)) (l:=[]) hpre (by simp)
    have hol:=zk (day:=day) (az:=pre.map (·.2)) (l:=[])
    have LP:=aa.mk (En day ⟨y0,y1⟩ (pre.map (·.2)) [])
    have RZ:=aa.mk (show ∀y ∈ pre++[((xi,⟨y0,y1⟩):Int×Rg)],y.2 ∈ xs from λy hy=>(List.mem_append.1 hy).elim (h2 y) (λh=>by rw[List.mem_singleton.1 h];exact hx))
    have aaB:=aa.mk (show(pre++[((xi,⟨y0,y1⟩):Int×Rg)]).map (·.2)=pre.map (·.2)++[(⟨y0,y1⟩:Rg)] from by rw[List.map_append];rfl)
    rw[List.length_map] at hol
    obtain⟨ls,hls⟩:∃l,DI day (pre.map (·.2)) []=l:=⟨_,rfl⟩
    rw[hls] at h6 hok hol LP
    obtain⟨Av,cv,rfl⟩:=Kd.di h6
    have TM:=aa.mk (show ls.length<=1000/\∀r ∈ ls,-1000000<=r.f1/\r.f1<=1000000 from⟨by simp at hol;omega,λr hr=>by have:=hok r hr;omega⟩)
    have hbb:aV V b [.int .i64 y0,.int .i64 y1] 63:=hb
    have Da:=hbb.cell 0
    have C9:=hbb.cell 1
    have hd0:=h4.cell 0
    have hv0:=h5.cell 0
    simp only[dZ,dY] at Da C9 hd0 hv0
    have hl4:=h4.lt
    have hl5:=h5.lt
    obtain⟨nl,hnl⟩:∃n,ls.length=n:=⟨_,rfl⟩
    have HV:=aa.mk (show OSt w (w.heap.size+1) g8 day m (.slice Av ls.length cv) ls V V from⟨h1,h3,h4,h5,h6,Below.refl _ _⟩)
    have Mh:=FI.out
    rw[hnl] at hv0 HV
    clear hb hbb h1 h2 h3 h4 h5 h6 hls hok hol hx hlen hnl hm hb1 hpre
    simp only[sb0,sb1,bR]
    by_cases hyd:y0<=day
    .rw[if_pos hyd] at LP
     gi_wp2_with fail
     have hmn:y0<=min y1 day:=by omega
     have hmd:min y1 day<=day:=by omega
     obtain⟨z,hz⟩:∃z,min y1 day=z:=⟨_,rfl⟩
     have HZ:=aa.mk hz
     rw[hz] at hmn hmd LP
     have hq1:Int.tdiv (day-z) 365=(day-z)/365:=Int.tdiv_eq_ediv_of_nonneg (by omega)
     have hq2:Int.tdiv (day-y0) 365=(day-y0)/365:=Int.tdiv_eq_ediv_of_nonneg (by omega)
     clear hz
     have hdv:=Jh (a:=day-z) (b:=day-y0) (by omega) (by omega) (by omega)
     have hw1:IntKind.i64.wrap (day-z)=day-z:=by rw[cB];unfold wrap64;omega
     have hw2:IntKind.i64.wrap (day-y0)=day-y0:=by rw[cB];unfold wrap64;omega
     have hw3:IntKind.i64.wrap ((day-z)/365)=(day-z)/365:=by rw[cB];unfold wrap64;omega
     have hw4:IntKind.i64.wrap ((day-y0)/365)=(day-y0)/365:=by rw[cB];unfold wrap64;omega
     clear hdv
     refine mE (by rintro⟨_,_,h⟩;exact h) (by kernel_rfl) (n:=16) (S:=λw'=>w'.cell? ⟨g8,0,none⟩=some (.slice Av nl cv)/\w'.cell? ⟨w.heap.size+1,0,none⟩=some (.int .i64 day)/\w'.cell? ⟨b,0,none⟩=some (.int .i64 y0)/\w'.cell? ⟨b,1,none⟩=some (.int .i64 y1)) (ds:=[14,15]) #[O,O,O,O,O,O,O,O,O,O,O,O,O,O,O,O] (by kernel_rfl) rfl rfl ⟨hv0,hd0,Da,C9⟩ (λhHeld=>?_);refine bG EY.Sv EY.OQ (λau cz=>?_)
     have HVM:=aa.mk HV.out.hm
     replace HV:=aa.mk (HV.out.below (aN (Below.refl _ V)))
     clear hv0 hd0 Da C9 hl4 hl5
     generalize V.drew=wd at HV hHeld ⊢
     refine fJ 0 43 #[I,O,O,O,O,O,O,O,O,O,O,O,O,O,O,O] au cz hHeld (hy:=by(rintro w' ⟨s0,s1,s2,s3⟩;go_simp;with_reducible rfl)) (h:=?_)
     refine fJ 1 44 #[I,I,O,O,O,O,O,O,O,O,O,O,O,O,O,O] au cz hHeld (hy:=by(rintro w' ⟨s0,s1,s2,s3⟩;go_simp;with_reducible rfl)) (h:=?_)
     refine bq 2 45 #[I,I,I,O,O,O,O,O,O,O,O,O,O,O,O,O] au (h:=?_)
     refine fJ 3 46 #[I,I,I,I,O,O,O,O,O,O,O,O,O,O,O,O] au cz hHeld (hy:=by(rintro w' ⟨s0,s1,s2,s3⟩;go_simp;with_reducible rfl)) (h:=?_)
     refine fJ 4 47 #[I,I,I,I,I,O,O,O,O,O,O,O,O,O,O,O] au cz hHeld (hy:=by(rintro w' ⟨s0,s1,s2,s3⟩;go_simp;with_reducible rfl)) (h:=?_)
     refine fJ 9 52 #[I,I,I,I,I,O,O,O,O,I,O,O,O,O,O,O] au cz hHeld (hy:=by(rintro w' ⟨s0,s1,s2,s3⟩;go_simp;with_reducible rfl)) (h:=?_)
     refine bq 10 53 #[I,I,I,I,I,O,O,O,O,I,I,O,O,O,O,O] au (h:=?_)
     refine fJ 11 54 #[I,I,I,I,I,O,O,O,O,I,I,I,O,O,O,O] au cz hHeld (hy:=by(rintro w' ⟨s0,s1,s2,s3⟩;go_simp;with_reducible rfl)) (h:=?_)
     refine bq 12 55 #[I,I,I,I,I,O,O,O,O,I,I,I,I,O,O,O] au (h:=?_)
     refine bq 13 56 #[I,I,I,I,I,O,O,O,O,I,I,I,I,I,O,O] au (h:=?_)
     refine gB (i:=5) (N:=some 48) #[I,I,I,I,I,I,O,O,O,I,I,I,I,I,O,O] rfl rfl (aM au.out (by kernel_rfl)) (by decide) (λK hK=>?_)
     refine bD (w1:=?_) (v:=?_) (by rfl) rfl ?_ ?_
     rotate_left 2
     .go_simp
      constructor<;>rfl
     refine hK.out _ _ ⟨((ae (Below.refl _ wd) (.cells #[.int .i64 y1,.int .i64 day] 3)).cell (World.block_lt_of_cell? _ _ hHeld.1)).trans hHeld.1,((ae (Below.refl _ wd) (.cells #[.int .i64 y1,.int .i64 day] 3)).cell (World.block_lt_of_cell? _ _ hHeld.2.1)).trans hHeld.2.1,((ae (Below.refl _ wd) (.cells #[.int .i64 y1,.int .i64 day] 3)).cell (World.block_lt_of_cell? _ _ hHeld.2.2.1)).trans hHeld.2.2.1,((ae (Below.refl _ wd) (.cells #[.int .i64 y1,.int .i64 day] 3)).cell (World.block_lt_of_cell? _ _ hHeld.2.2.2)).trans hHeld.2.2.2⟩ (λhHeld=>?_)
     clear hK K
     have Bm:=aa.mk (aV.new wd [.int .i64 y1,.int .i64 day] 3)
     replace HV:=aa.mk (HV.out.below (ae (Below.refl _ wd) (.cells #[.int .i64 y1,.int .i64 day] 3)))
     generalize hgm:wd.heap.size=gm at Bm ⊢
     clear hgm
     generalize wd.alloc (.cells #[.int .i64 y1,.int .i64 day] 3)=we at Bm HV hHeld ⊢
     refine j4 ?_
     refine gB (i:=6) (N:=some 49) #[I,I,I,I,I,I,I,O,O,I,I,I,I,I,O,O] rfl rfl (aM au.out (by kernel_rfl)) (by decide) (λK hK=>?_)
     refine bT Tryz.func81 (by kernel_rfl) rfl #[.slice (some ⟨gm,0,none⟩) 2 2] (by rfl) rfl rfl (by(try simp only[List.map_toArray,List.map_cons,List.map_nil]);rfl) ?_
     refine(xM gm y1 day z HZ.out we (by simpa using Bm.out.cell 0) (by simpa using Bm.out.cell 1)).mono ?_
     rintro e_ w_ ⟨rfl,rfl⟩
     refine⟨_,rfl,hK.out _ _ (hHeld) (λhHeld=>?_)⟩
     clear hK K
     clear Bm
     generalize w_=we at HV hHeld ⊢
     refine j4 ?_
     refine bq 7 50 #[I,I,I,I,I,I,I,I,O,I,I,I,I,I,O,O] au (h:=?_)
     refine bq 8 51 #[I,I,I,I,I,I,I,I,I,I,I,I,I,I,O,O] au (h:=?_)
     refine fB (i:=14) (N:=some 57) #[I,I,I,I,I,I,I,I,I,I,I,I,I,I,I,O] rfl rfl (aM au.out (by kernel_rfl)) (by decide) (λK hK=>?_)
     refine bT Tryz.func80 (by kernel_rfl) rfl #[.slice Av nl cv,.int .i64 ((day-z)/365),.int .i64 ((day-y0)/365)] (by rfl) rfl rfl (by(try simp only[List.map_toArray,List.map_cons,List.map_nil]);rfl) ?_
     refine(Jc w ((day-z)/365) ((day-y0)/365) HV.out.b HV.out.r HV.out.hm TM.out.1 TM.out.2).mono ?_
     rintro e_ w_ ⟨v',rfl,hR',hB',hK'⟩
     refine⟨_,rfl,hK.out _ _ ?_⟩
     clear hK K
     clear hw1 hw2 hw3 hw4 hq1 hq2
     obtain⟨Aw,cw,rfl⟩:=Kd.di hR'
     obtain⟨nz,hnz⟩:∃n,(jN ls ((day-z)/365) ((day-y0)/365)).length=n:=⟨_,rfl⟩
     rw[hnz] at hR' ⊢
     have hmm:=PZ.out
     have Ps:=aa.mk (HV.out.o.move (hK'.blk g8 (.inl (by omega))))
     have HD5:=aa.mk (HV.out.d.move (hK'.blk (w.heap.size+1) (.inl (by omega))))
     have HR5:=aa.mk hR'
     have wM:=aa.mk hB'
     have Xu:=aa.mk (⟨(Nz HV.out.k).trans hK'.ko,λb' hb'=>(hK'.blk b' hb').trans (HV.out.k.block b' (by rcases hb' with h|h<;>have:=HVM.out<;>omega))⟩:Pj (λb=>b<m) 0 m V w_)
     have hv0:=Ps.out.cell 0
     have I6:=Ps.out.frozen 0
     simp only[List.getElem?_cons_zero] at hv0
     have hl5:=Ps.out.lt
     clear hR' hB' hK' hnz HV
     generalize w_=wf at Ps HD5 HR5 wM Xu hv0 I6 hl5 ⊢
     refine j4 ?_
     refine fB (i:=15) (N:=none) #[I,I,I,I,I,I,I,I,I,I,I,I,I,I,I,I] rfl rfl (aM au.out (by kernel_rfl)) (by decide) (λK hK=>?_)
     have iD:=hv0
     have lG:=I6
     refine kg (w1:=?_) (by rfl) rfl ?_ ?_
     rotate_left
     .go_simp
      rfl
     refine hK.out _ _ ?_
     clear hK K iD lG
     have P7:=aa.mk (wM.out.setCell (p:=⟨g8,0,none⟩) (by simp only;omega) (.slice Aw nz cw))
     have HD6:=aa.mk (show aV (wf.setCell ⟨g8,0,none⟩ (.slice Aw nz cw)) _ _ _ from HD5.out.move (Below.heap_setCell _ _ _ _ (by simp only;omega)))
     have H56:=aa.mk (show aV (wf.setCell ⟨g8,0,none⟩ (.slice Aw nz cw)) _ _ _ from Ps.out.setAt 0 (.slice Aw nz cw))
     have HR6:=aa.mk (Kd.gP (p:=⟨g8,0,none⟩) HR5.out (λk hk=>by simp only;have:=PZ.out;omega) (.slice Aw nz cw))
     have HK6:=aa.mk (show KeepsOthers V (wf.setCell ⟨g8,0,none⟩ (.slice Aw nz cw))/\∀b,b<m->b≠g8->(wf.setCell ⟨g8,0,none⟩ (.slice Aw nz cw)).heap[b]?=V.heap[b]? from⟨Xu.out.ko.trans (KeepsOthers.setCell _ _ _),λb hb hne=>(Below.heap_setCell _ _ _ _ (by simpa using hne)).trans (Xu.out.blk b (.inl hb))⟩)
     clear wM HD5 Ps HR5 Xu hl5
     generalize wf.setCell ⟨g8,0,none⟩ (.slice Aw nz cw)=wz at P7 HD6 H56 HR6 HK6 ⊢
     refine fM (bP au.out (by kernel_rfl)) ?_
     gi_wp2_with fail
     have hmm:=PZ.out
     have Mh:=FI.out
     have hab:=HAB.out
     have hvm:=HVM.out
     refine⟨⟨HK6.out.1,λb' hb'=>HK6.out.2 b' ?_ ?_⟩,Nat.le_trans hvm HK6.out.1.size,RZ.out,P7.out,HD6.out,_,H56.out,by rw[aaB.out,LP.out];exact HR6.out⟩
     .rcases hb' with(rfl|⟨a,ha,rfl⟩)|hb'
      .omega
      .cases ha
       omega
      .omega
     .rcases hb' with(rfl|⟨a,ha,rfl⟩)|hb'
      .omega
      .cases ha
       omega
      .omega
    .rw[if_neg hyd] at LP
     replace hyd:=Int.not_le.1 hyd
     gi_wp2_with fail
     exact⟨Pj.refl _ _ _ _,HV.out.hm,RZ.out,HV.out.b,HV.out.d,_,HV.out.o,by rw[aaB.out,LP.out];exact HV.out.r⟩
   case done=>
    rintro D m xs' V hD hm hxs ⟨h1,h2,h3,h4,vl,h5,h6⟩ yh
    rw[hxs] at h6
    obtain⟨Av,nv,cv,rfl⟩:∃A n c,vl= .slice A n c:=by
     obtain⟨a_,b_,e_⟩:=Kd.di h6
     exact⟨_,_,_,e_⟩
    have H3:=aa.mk h3
    have H6:=aa.mk h6
    have TN:=aa.mk yh
    have hv0:=h5.cell 0
    simp only[List.getElem?_cons_zero] at hv0
    have hl5:=h5.lt
    have hDw:w.heap.size<=D:=by have:=Ml.out.size;omega
    clear h1 h2 h3 h4 h5 h6 yh hxs hm
    dsimp only
    go_wp2_with (with_reducible refine wpIn_wide.2 ?_)
    refine⟨by simp,.inl ⟨D,_,rfl,run_takeDeferred TN.out,?_⟩⟩
    refine⟨_,results_tmp2 rfl _ _ _,HP.out▸⟨_,rfl,?_,H3.out.grown (grownBy_putObj' V D _) H3.out.size (λk e=>by cases e;exact hDw)⟩⟩
    refine Kd.bM (Kd.gz (Kd.bL H6.out) (λk hk _=>cO _ _ (λe=>?_))) (λ_ _=>trivial)
    obtain⟨_,_,_,q,_,cells,hc⟩:=hk
    rw[e,TN.out] at hc
    cases hc
 .rw[if_pos hf] at HP
  have Q7:(f==0)=false:=by simpa using hf
  clear hf
  simp only
  go_wp2_with (with_reducible refine wpIn_wide.2 ?_)
  exact⟨_,results_tmp2 rfl _ _ _,HP.out▸⟨_,rfl,Kd.iH _ _ _ _ _,HB.out⟩⟩
end Go.Proofs.YtdekaocdmjndaaaGreat
namespace Go.Proofs.YtdekaocdmjndaaaGreat
open Go.RowKit Go.Shelf ah YtdekaocdmjndaaaGreatW.aj YtdekaocdmjndaaaGreatW.aH
theorem q8{W:World}{base:Nat}{ok:Nat->Prop}{v:Value}{l:List Int}(h:(Kd.int .i64).R 3 W base ok v l):W.ownsRow base 3 1 v l.length (l.map (Value.int .i64)):=by
 obtain⟨_,inner,ho,h1,h2⟩:=h
 have e:inner=l.map (Value.int .i64):=by
  refine List.ext_getElem? λj=>?_
  by_cases hj:j<l.length
  .have h3:=h2 j l[j] (List.getElem?_eq_getElem hj)
   have h4:(inner.drop (j*1)).take 1=[Value.int .i64 l[j]]:=h3
   rw[Nat.mul_one] at h4
   have h5:=congrArg (λx=>x[0]?) h4
   simp only[List.getElem?_take,List.getElem?_drop] at h5
   simpa[hj] using h5
  .have h1':inner.length=l.length*1:=h1
   rw[List.getElem?_eq_none (by omega),List.getElem?_eq_none (by simp;omega)]
 rw[<- e]
 exact ho
theorem pR{W:World}{base:Nat}{v:Value}{l:List Int}(h:W.ownsRow base 3 1 v l.length (l.map (Value.int .i64))):(Kd.int .i64).R 3 W base (λ_=>True) v l:=by
 refine⟨λ_ _=>trivial,_,h,?_,λj p hj=>?_⟩
 .show(l.map _).length=l.length*1
  simp
 .show((l.map _).drop (j*1)).take 1=[Value.int .i64 p]
  obtain⟨hl,rfl⟩:=List.getElem?_eq_some_iff.1 hj
  rw[Nat.mul_one,List.drop_eq_getElem_cons (by simpa using hl)]
  simp
abbrev LV(W:World)(v:Value)(l:List Int):Prop:=(Kd.int .i64).R 3 W 0 (λ_=>True) v l
theorem OV{W:World}{v:Value}{l:List Int}(h:LV W v l)(ad:Addr)(y:Int)(hc:W.cell? ad=some (.int .i64 y))(hl:l.length<=1000)(ty:TypeId):
  ∃v1 w1,(Builtin.append_ #[30,30] ty #[v,.slice (some ad) 1 1]).run Tryz.prog W= .ok v1 w1/\LV w1 v1 (l++[y])/\W.grownBy w1 v.ownBlock/\(v1.ownBlock=v.ownBlock\/∃b,v1.ownBlock=some b/\W.heap.size<=b) /\
   ∀W',LV W' v1 (l++[y])->(∀b,some b=v.ownBlock->some b≠v1.ownBlock->W'.heap[b]?=w1.heap[b]?)->LV W' v l:=by
 obtain⟨i,hi,hi2⟩:=Option.map_eq_some_iff.1 sM
 simp only[Prod.mk.injEq] at hi2
 have ho:=q8 h
 have ht:Tryz.prog.underlying 30=some (.slice 3):=Tryz.underlying30
 have hnews:∀(j:Nat) (u:Value),[Value.int .i64 y][j]?=some u->W.cell? (ad.add j)=some u:=λj u hu=>by
  match j,hu with
  |0,hu=>cases hu;rw[Addr.add_zero'];exact hc
 have hone:∀u ∈ [Value.int .i64 y],u.oneCell'=true:=λu hu=>by rw[List.mem_singleton.1 hu];rfl
 have hm1:l.length+1<=maxLen:=by unfold maxLen;omega
 have hmap:(l++[y]).map (Value.int .i64)=l.map (Value.int .i64)++[Value.int .i64 y]:=by simp
 rcases ho.2 with⟨rfl,hn⟩|⟨g,cap,cur,rfl,hbg,hg,hnc,hcm,hcs,htake⟩
 .obtain rfl:=List.eq_nil_of_length_eq_zero hn
  obtain⟨v1,w1,h1,h2,h3,_,h5⟩:=run_append_own_at W 0 30 ty 3 i (.int .i64 0) 1 8 ht hi hi2.1 hi2.2.1 hi2.2.2 rfl (by decide) _ _ _ ho ad 1 1 [.int .i64 y] rfl hnews hone hm1 (by simp) (Nat.zero_le _)
  refine⟨v1,w1,h1,pR (by rw[hmap];exact h2),h3,h5.imp id (λe=>⟨_,e,Nat.le_refl _⟩),λW' _ _=>Kd.iH _ _ _ _ _⟩
 .by_cases hr:l.length+1<=cap
  .obtain⟨w1,h1,h2,h3⟩:=run_append_fits W 0 30 ty 3 i 1 ht hi hi2.2.1 g l.length cap _ ho ad 1 1 [.int .i64 y] rfl hnews hone hr
   refine⟨_,w1,h1,pR (by rw[hmap];simpa using h2),h3,.inl rfl,λW' hW' _=>?_⟩
   have:=Kd.Wq (m:=l.length) hW' (by simp)
   rwa [List.take_left' rfl] at this
  .obtain⟨v1,w1,h1,h2,h3⟩:=run_append_arg_grows W 30 ty 3 i (.int .i64 0) 1 8 ht hi hi2.1 hi2.2.1 hi2.2.2 rfl (by decide) ⟨g,0,none⟩ l.length cap (l.map (Value.int .i64)) (by simp) (λj u hu=>by
    have:=ho.cells (g:=g) rfl j u hu
    exact this) ad 1 1 [.int .i64 y] rfl hnews (by omega) hm1 (by omega)
   have Vr:(Kd.int .i64).R 3 w1 W.heap.size (λ_=>True) v1 (l++[y]):=pR (by rw[hmap];simpa using h2)
   have hgl:g<W.heap.size:=(Array.getElem?_eq_some_iff.1 hg).1
   refine⟨v1,w1,h1,Kd.dG Vr (Nat.zero_le _),⟨h3.os,h3.tape,h3.output,h3.size,λk hk _=>h3.block k hk (by simp)⟩,?_,λW' _ hk=>?_⟩
   .cases hv:v1.ownBlock with
    |none=>
     exfalso
     rcases h2.2 with⟨rfl,h⟩|⟨g1,c1,alG,rfl,_⟩
     .simp at h
     .simp[Value.ownBlock] at hv
    |some b=>exact .inr ⟨b,rfl,((Kd.bL Vr).1 b hv).2.1⟩
   .have hne:some g≠v1.ownBlock:=λe=>by
     have:=((Kd.bL Vr).1 g e.symm).2.1
     omega
    refine pR ⟨by simp,.inr ⟨g,cap,cur,rfl,Nat.zero_le _,?_,hnc,hcm,hcs,htake⟩⟩
    rw[hk g rfl hne,h3.block g hgl (by simp)]
    exact hg
theorem ZP{ops:Array Oper}{Q:Exit->Act->World->Prop}{oi:Oper}{N:Option Tmp}{a:Act}{w:World}{K:Act->World->Prop}(s x:Operand)(hw:Region.wanted oi (yielded ops a.tmps)=true)(hN:oi.dst=N)(hop:oi.op=Op.call {callee:=Callee.builtin Builtin.append,args:=#[s,x],argTypes:=#[30,30]})
  {v:Value} {l:List Int} (hs:a.eval s=v) (ad:Addr) (y:Int) (hx:a.eval x= .slice (some ad) 1 1) (hc:w.cell? ad=some (.int .i64 y)) (hv:LV w v l) (hl:l.length<=1000)
  (h:∀v1 w1,LV w1 v1 (l++[y])->w.grownBy w1 v.ownBlock->(v1.ownBlock=v.ownBlock\/∃b,v1.ownBlock=some b/\w.heap.size<=b)->(∀W',LV W' v1 (l++[y])->(∀b,some b=v.ownBlock->some b≠v1.ownBlock->W'.heap[b]?=w1.heap[b]?)->LV W' v l)->K (a.put N v1) w1):
  if Region.wanted oi (yielded ops a.tmps)=true then Oper.wp Tryz.prog oi a w K Q else K (a.put N undef) w:=by
 obtain⟨v1,w1,hrun,h1,h2,h3,h4⟩:=OV hv ad y hc hl oi.type
 refine bD hw hN (w1:=w1) (v:=v1) ?_ (h v1 w1 h1 h2 h3 h4)
 simp[execOp,hop,resolve,invoke,builtin,hs,hx,hrun,Result.andThen]
end Go.Proofs.YtdekaocdmjndaaaGreat
