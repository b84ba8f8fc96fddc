import Derived.Test.YtkjoilgpmngndaaGreatQ40
set_option linter.all false
namespace Go.Proofs.YtkjoilgpmngndaaGreat
open Go.RowKit Go.Shelf Go.Proofs.YtkjoilgpmngndaaGreat.av Go.Proofs.YtkjoilgpmngndaaGreatW.aA Go.Proofs.YtkjoilgpmngndaaGreatW.aJ Go.Proofs.YtkjoilgpmngndaaGreatW.dn
def lf.T14:Bool×List (List Nat×List Nat):=(true,[([],[]),([0],[0]),([],[]),([],[]),([2,3],[2,3]),([4],[4]),([1,5],[1,5]),([6],[6]),([],[]),([8,7,0,1,2,3,4,5,6,7,8],[7,8])])
def lf.N7:List Nat:=[0,1,0,0,12,28,63,127,0,511]
theorem lf.XL:eu .any (opsOf Tryz.f3 14)=lf.T14:=by kernel_rfl
theorem lf.Tq:bO lf.T14.2 lf.N7=true:=by kernel_rfl
def lf.T15:Bool×List (List Nat×List Nat):=(true,[([],[]),([],[]),([1],[1]),([0,2],[0,2]),([3],[3]),([],[]),([],[]),([6],[6]),([5,7],[5,7]),([8],[8]),([0,1,2,3,4,6,7],[]),([10,4,0,1,2,3,4,6,7],[4,10]),([0,1,2,3,4,5,6,7,8,9,10,11],[]),([12,9,11,0,1,2,3,4,5,6,7,8,9,10,11],[9,12])])
def lf.Ut:List Nat:=[0,0,2,7,15,0,0,64,224,480,223,1247,4095,8191]
theorem lf.acy:eu .any (opsOf Tryz.f3 15)=lf.T15:=by kernel_rfl
theorem lf.aa3:bO lf.T15.2 lf.Ut=true:=by kernel_rfl
theorem Dg:(Tryz.prog.info? 38).map (fun i=>(i.zero,i.size,i.bytes))=some (some (.agg #[.int .i64 0,.int .i64 0]),2,16):=by kernel_rfl
def JP(t σ:Nat->Nat)(rj xs:List kW):Prop:=
 ∀m,m<xs.length->aZ xs (m:Int)=⟨(t (aZ rj (σ m:Int)).f0.toNat:Int),(t (aZ rj (σ m:Int)).f1.toNat:Int)⟩\/aZ xs (m:Int)=⟨(t (aZ rj (σ m:Int)).f1.toNat:Int),(t (aZ rj (σ m:Int)).f0.toNat:Int)⟩
theorem Rx{xs:List kW}{y:kW}{m:Nat}(h:m<xs.length):aZ (xs++[y]) (m:Int)=aZ xs (m:Int):=by
 simp[aZ,List.getD,List.getElem?_append_left h]
theorem Ry{xs:List kW}{y:kW}:aZ (xs++[y]) (xs.length:Int)=y:=by
 simp[aZ,List.getD]
theorem JP.snoc{t σ:Nat->Nat}{rj xs:List kW}(h:JP t σ rj xs){i pa pb:Nat}(hi:xs.length=i)(e:aZ rj (σ i:Int)=⟨(pa:Int),(pb:Int)⟩){y:kW}(hy:y=⟨(t pa:Int),(t pb:Int)⟩\/y=⟨(t pb:Int),(t pa:Int)⟩):JP t σ rj (xs++[y]):=by
 intro m hm
 by_cases QW:m<xs.length
 .rw[Rx QW]
  exact h m QW
 .obtain rfl:m=i:=by rw[List.length_append,List.length_singleton] at hm;omega
  rw[<- hi,Ry,hi,e]
  simp only[Int.toNat_natCast]
  exact hy
theorem AJ{α:Type}{xs:List α}{k:Nat}{r:α}(h:xs.length=k):(xs++[r]).length=k+1:=by simp[h]
theorem Ao{w wr:World}{base b14:Nat}{A:Option Addr}{c:Nat}{xs:List Int}{m:Nat}(R:(Kd.int .i64).R 3 w base (fun b=>b≠b14) (.slice A xs.length c) xs)(hk:bq m (fun b=>b=b14) w wr)(hm:m=w.heap.size):(Kd.int .i64).C wr A xs.length xs/\xs.length<=c:=by
 subst hm
 have h:=Kd.fJ R (fun b hb hlt=>hk.block b hlt hb)
 obtain⟨_,_,e0,hd0,hC0⟩:=Kd.dU h
 obtain⟨rfl,_,rfl⟩:=slice_inj e0
 exact⟨hC0,hd0⟩
set_option maxRecDepth 100000 in
set_option maxHeartbeats 40000000 in
theorem aiN{w0 w:World}{A0:Option Addr}{c0:Nat}{old:List Int}{nw:Int}{A2:Option Addr}{c2:Nat}{rs:List ql}{A3:Option Addr}{c3:Nat}{rj:List kW}{lo hi:Int}{b14:Nat}{X2:Option Addr}{n2 x2:Nat}{rs2:List ql}{ps fr bk jf ws:List Int}{Ap Af Ak Aj Aw:Option Addr}{cp cf ck cj cw Tv Tt Tu base2:Nat}{s t σ τ:Nat->Nat}(a:Act)(ha:a={tmps:=CE (.slice Ap ps.length cp) (.slice Aw ws.length cw) (.pointer (some ⟨w0.heap.size,0,none⟩)) (.pointer (some ⟨w0.heap.size+1,0,none⟩)) (.int .i64 (fr.length:Int)) (.slice Af fr.length cf) (.slice Ak bk.length ck) (.slice Aj jf.length cj) (.pointer (some ⟨b14,0,none⟩)) (a.tmps.getD 18 undef) (a.tmps.getD 19 undef) (a.tmps.getD 38 undef) (fun i=>a.tmps.getD i undef),defers:=[]})
  (HB:aa (Below w0.heap.size w0 w)) (B4:aa (aR w w0.heap.size [.slice A0 old.length c0,.int .i64 nw,.slice A2 rs.length c2,.slice A3 rj.length c3] 26)) (B5:aa (aR w (w0.heap.size+1) [.int .i64 lo,.int .i64 hi] 28)) (h14:w0.heap.size+1<b14)
  (RF:aa ((Kd.int .i64).R 3 w Tv (fun b=>b≠b14) (.slice Af fr.length cf) fr)) (RK:aa ((Kd.int .i64).R 3 w Tt (fun b=>b≠b14) (.slice Ak bk.length ck) bk)) (RJ:aa ((Kd.int .i64).R 3 w Tu (fun b=>b≠b14) (.slice Aj jf.length cj) jf))
  (K0:aa ((Kd.int .i64).C w0 A0 old.length old)) (K2:aa (Dc.C w0 A2 rs.length rs)) (K3:aa (Cu.C w0 A3 rj.length rj)) (KP:aa ((Kd.int .i64).C w0 Ap ps.length ps)) (KW:aa ((Kd.int .u16).C w0 Aw ws.length ws)) (hcw:ws.length<=cw) (HJ:aa (JV rs.length rj 0))
  (TF:aa (ky fr.length s fr)) (TK:aa (ky rs.length t bk)) (TJ:aa (ky rj.length σ jf)) (hR:aa (Ren rs.length s t)) (hRJ:aa (Ren rj.length σ τ)) (hfl:aa (fr.length=rs.length)) (ht0:old.length<=7) (ht2:rs.length<=11) (ht3:rj.length<=24)
  (BX:aa (aR w b14 [.slice A0 old.length c0,.int .i64 nw,.slice X2 n2 x2,.slice none 0 0] 26)) (R2:aa (Dc.R 36 w base2 (fun b=>b≠b14) (.slice X2 n2 x2) rs2)) (hl2:aa (rs2.length=rs.length)) (hg2:aa (∀i,i<rs.length->rs2.getD i z36=rs.getD (s i) z36)):Code.wp Tryz.prog (jI 7) (mZ w0) a w:=by
 obtain⟨u,hu⟩:∃u:Nat->Value,a={tmps:=CE (.slice Ap ps.length cp) (.slice Aw ws.length cw) (.pointer (some ⟨w0.heap.size,0,none⟩)) (.pointer (some ⟨w0.heap.size+1,0,none⟩)) (.int .i64 (fr.length:Int)) (.slice Af fr.length cf) (.slice Ak bk.length ck) (.slice Aj jf.length cj) (.pointer (some ⟨b14,0,none⟩)) (u 18) (u 19) (u 38) u,defers:=[]}:=⟨fun i=>a.tmps.getD i undef,ha⟩
 clear ha
 subst hu
 unfold CE
 refine dZ 7 (by kernel_rfl) (fun K hK=>?_)
 have D7:=BX.out.lt
 have hlw:=HB.out.size
 have hjl:jf.length=rj.length:=TJ.out.len
 have hkl:bk.length=rs.length:=TK.out.len
 have HJL:=aa.mk hjl
 have NS:=aa.mk hkl
 clear hjl hkl
 unfold jI
 conv=>arg 2;whnf
 unfold mZ
 go_wp2_with fail
 go_loopw [16] (fun v16 wr=>∃(i:Nat) (v3:Value) (xs:List kW),i<=rj.length/\v16= .int .i64 i/\w.heap.size<=wr.heap.size/\aa (xs.length=i)/\aa (JP t σ rj xs)/\aa (bq w.heap.size (fun b=>b=b14) w wr)/\aa (aR wr b14 [.slice A0 old.length c0,.int .i64 nw,.slice X2 n2 x2,v3] 26)/\aa (Cu.R 38 wr w.heap.size (fun b=>w.heap.size<=b) v3 xs)) (fun v16 _=>rj.length-(intOf v16).toNat)
 case atStart=>exact⟨0,.slice none 0 0,[],Nat.zero_le _,rfl,Nat.le_refl _,⟨rfl⟩,⟨fun m hm=>absurd hm (Nat.not_lt_zero _)⟩,⟨bq.refl _ _ _⟩,BX,⟨Kd.jL _ _ _ _ _⟩⟩
 case round=>
  clear BX
  obtain⟨i,v3,xs,hi,rfl,oH,QI,HJR,HK,B11,Q0⟩:=hrel
  have B4r:=aa.mk (B4.out.move (HK.out.block _ (by omega) (by omega)))
  have h43:=B4r.out.cell 3
  simp only[List.getElem?_cons_zero,List.getElem?_cons_succ] at h43
  have BV:=aa.mk (show Below w0.heap.size w0 wr from⟨HK.out.os.trans HB.out.os,HK.out.tape.trans HB.out.tape,HK.out.output.trans HB.out.output,Nat.le_trans HB.out.size HK.out.size,fun k hk=>(HK.out.block k (by omega) (by omega)).trans (HB.out.block k hk)⟩)
  by_cases hil:i<rj.length
  .have Vs:=hRJ.out.um i hil
   have htj:=TJ.out.at_ i hil
   obtain⟨q,hq⟩:∃q,σ i=q:=⟨_,rfl⟩
   rw[hq] at Vs htj
   obtain⟨aj,e,hj0⟩:=Kd.dz (Ao RJ.out HK.out rfl).1 (i:Int) (by omega) (by have:=HJL.out;omega)
   cases e
   rw[htj] at hj0
   obtain⟨ad,e,hq0,hq1⟩:=yB (Kd.aK K3.out BV.out) (q:Int) (by omega) (by omega)
   cases e
   simp only[Int.toNat_natCast] at hq0 hq1 hj0
   obtain⟨pa,pb,hpa,hpb,hpe⟩:=MP HJ.out q Vs
   rw[hpe] at hq0 hq1
   obtain⟨na,hna⟩:∃z,t pa=z:=⟨_,rfl⟩
   obtain⟨nb,hnb⟩:∃z,t pb=z:=⟨_,rfl⟩
   have hiJ:(i:Int)<(jf.length:Int):=by have:=HJL.out;omega
   have hqI:(q:Int)<rj.length:=by omega
   have acZ:(pa:Int)<bk.length:=by have:=NS.out;omega
   have acX:(pb:Int)<bk.length:=by have:=NS.out;omega
   have akR:=aa.mk (show xs.length<=24 by have:=QI.out;omega)
   have HI1:=aa.mk (show i+1<=rj.length by omega)
   have HME:=aa.mk (show rj.length-(intOf (.int .i64 ((i:Int)+1))).toNat<rj.length-(intOf (.int .i64 (i:Int))).toNat by simp[intOf];omega)
   have TY:=aa.mk (fun(y:kW) (hy:y=⟨(na:Int),(nb:Int)⟩\/y=⟨(nb:Int),(na:Int)⟩)=>HJR.out.snoc (i:=i) (pa:=pa) (pb:=pb) QI.out (by rw[hq];exact hpe) (y:=y) (by rw[hna,hnb];exact hy))
   have HPA:=aa.mk (show rd bk (pa:Int)=(na:Int) by rw[TK.out.at_ pa hpa,hna])
   have HPB:=aa.mk (show rd bk (pb:Int)=(nb:Int) by rw[TK.out.at_ pb hpb,hnb])
   obtain⟨bt,hbt⟩:=Ja ws i (by omega)
   have HBT:=aa.mk hbt
   have HXI:=QI
   have hi0:(0:Int)<=(i:Int):=by omega
   have ajd:(0:Int)<=(q:Int):=by omega
   have ac0:(0:Int)<=(pa:Int):=by omega
   have acY:(0:Int)<=(pb:Int):=by omega
   clear QI hq hpe B4r htj hna hnb hbt Vs
   have QI:=akR
   go_wp2_with fail
   refine gz (n:=10) (S:=fun w'=>w'.cell? ⟨w0.heap.size,3,none⟩=some (.slice (some ad) rj.length c3)/\w'.cell? (aj.add i)=some (.int .i64 (q:Int))/\w'.cell? (ad.add (q*2))=some (.int .i64 (pa:Int))/\w'.cell? ⟨(ad.add (q*2)).block,(ad.add (q*2)).off+1,none⟩=some (.int .i64 (pb:Int))) (ds:=[9]) #[O,O,O,O,O,O,O,O,O,O] (by kernel_rfl) rfl rfl ⟨h43,hj0,hq0,hq1⟩ (fun hHeld=>?_);refine bK lf.XL lf.Tq (fun aC bW=>?_)
   have NR:=aa.mk HK.out.drew
   have abR:=aa.mk (B11.out.move rfl:aR wr.drew _ _ _)
   have HVd:=aa.mk (Kd.fE Q0.out)
   have hsd:w.heap.size<=wr.drew.heap.size:=oH
   clear HK B11 Q0 oH h43 hq0 hq1 hj0
   generalize wr.drew=wd at NR abR HVd hsd hHeld ⊢
   refine bI 0 100 #[I,O,O,O,O,O,O,O,O,O] aC (h:=?_)
   refine eP 1 101 #[I,I,O,O,O,O,O,O,O,O] aC bW hHeld (hy:=by(rintro w' ⟨s0,s1,s2,s3⟩;go_simp;with_reducible rfl)) (h:=?_)
   refine bI 2 102 #[I,I,I,O,O,O,O,O,O,O] aC (h:=?_)
   refine bI 3 103 #[I,I,I,I,O,O,O,O,O,O] aC (h:=?_)
   refine bI 4 104 #[I,I,I,I,I,O,O,O,O,O] aC (h:=?_)
   refine eP 5 105 #[I,I,I,I,I,I,O,O,O,O] aC bW hHeld (hy:=by(rintro w' ⟨s0,s1,s2,s3⟩;go_simp;with_reducible rfl)) (h:=?_)
   refine bI 6 106 #[I,I,I,I,I,I,I,O,O,O] aC (h:=?_)
   refine eP 7 107 #[I,I,I,I,I,I,I,I,O,O] aC bW hHeld (hy:=by(rintro w' ⟨s0,s1,s2,s3⟩;go_simp;with_reducible rfl)) (h:=?_)
   refine iC (i:=8) (N:=some 17) #[I,I,I,I,I,I,I,I,I,O] rfl rfl (aN aC.out (by kernel_rfl)) (by decide) (fun K hK=>?_)
   refine dV (w1:=?_) (v:=?_) (by rfl) rfl ?_ ?_
   rotate_left 2
   .go_simp
    constructor<;>rfl
   refine hK.out _ _ ⟨((ae (Below.refl _ _) (.cells #[.int .i64 0,.int .i64 0] 38)).cell (World.block_lt_of_cell? _ _ hHeld.1)).trans hHeld.1,((ae (Below.refl _ _) (.cells #[.int .i64 0,.int .i64 0] 38)).cell (World.block_lt_of_cell? _ _ hHeld.2.1)).trans hHeld.2.1,((ae (Below.refl _ _) (.cells #[.int .i64 0,.int .i64 0] 38)).cell (World.block_lt_of_cell? _ _ hHeld.2.2.1)).trans hHeld.2.2.1,((ae (Below.refl _ _) (.cells #[.int .i64 0,.int .i64 0] 38)).cell (World.block_lt_of_cell? _ _ hHeld.2.2.2)).trans hHeld.2.2.2⟩ (fun hHeld=>?_)
   clear hK K
   have zk:=aR.new wd [.int .i64 0,.int .i64 0] 38
   have zg:=zk.cell 0
   have AV:=zk.cell 1
   have Su:=zk.frozen 0
   have Yd:=zk.frozen 1
   simp only[List.getElem?_cons_zero,List.getElem?_cons_succ] at zg AV
   clear zk
   refine bF (by simp only[Act.put,List.setIfInBounds_toArray,List.set_cons_zero,List.set_cons_succ];rfl) ?_
   refine dW (i:=9) (N:=none) #[I,I,I,I,I,I,I,I,I,I] rfl rfl (aN aC.out (by kernel_rfl)) (by decide) (fun K hK=>?_)
   have eB:=zg
   have gP:=Su
   refine ib (w1:=?_) (by rfl) rfl ?_ ?_
   rotate_left
   .go_simp
    rfl
   refine hK.out _ _ ?_
   clear hK K eB gP zg AV Su Yd
   refine fF (bQ aC.out (by kernel_rfl)) ?_
   have zk:=aa.mk (aR.new wd [.int .i64 (pa:Int),.int .i64 (pb:Int)] 38)
   have HK:=aa.mk (NR.out.alloc hsd (.cells #[.int .i64 (pa:Int),.int .i64 (pb:Int)] 38))
   have B11:=aa.mk (abR.out.alloc (.cells #[.int .i64 (pa:Int),.int .i64 (pb:Int)] 38))
   have Q0:=aa.mk (Kd.dA (Kd.cK (Kd.dP HVd.out) (fun b hb=>(⟨hb.2.1,Nat.ne_of_lt hb.2.2.1⟩:w.heap.size<=b/\b≠wd.heap.size))) (.cells #[.int .i64 (pa:Int),.int .i64 (pb:Int)] 38))
   have hs7:=size_alloc wd (.cells #[.int .i64 (pa:Int),.int .i64 (pb:Int)] 38)
   have oH:=Nat.le_trans hsd (Nat.le_of_lt hs7)
   have Sr:b14≠wd.heap.size:=Nat.ne_of_lt (Nat.lt_of_lt_of_le D7 hsd)
   have Sm:=hsd
   clear NR abR HVd hsd hs7 aC bW
   generalize wd.alloc (.cells #[.int .i64 (pa:Int),.int .i64 (pb:Int)] 38)=w7 at zk HK B11 Q0 oH ⊢
   generalize wd.heap.size=g13 at zk Q0 Sr Sm ⊢
   obtain⟨ab,e,hk0⟩:=Kd.dz (Ao RK.out HK.out rfl).1 (pa:Int) ac0 acZ
   cases e
   obtain⟨ab',e,hk1⟩:=Kd.dz (Ao RK.out HK.out rfl).1 (pb:Int) acY acX
   cases e
   rw[HPA.out] at hk0
   rw[HPB.out] at hk1
   simp only[Int.toNat_natCast] at hk0 hk1
   have zg:=zk.out.cell 0
   have AV:=zk.out.cell 1
   simp only[List.getElem?_cons_zero,List.getElem?_cons_succ] at zg AV
   go_wp2_with fail
   refine gz (n:=14) (S:=fun w'=>w'.cell? ⟨g13,1,none⟩=some (.int .i64 (pb:Int))/\w'.cell? (ab.add pa)=some (.int .i64 (na:Int))/\w'.cell? (ab.add pb)=some (.int .i64 (nb:Int))) (ds:=[13]) #[O,O,O,O,O,O,O,O,O,O,O,O,O,O] (by kernel_rfl) rfl rfl ⟨AV,hk0,hk1⟩ (fun hHeld=>?_);refine bK lf.acy lf.aa3 (fun aC bW=>?_)
   replace zk:=aa.mk (zk.out.move rfl:aR w7.drew _ _ _)
   replace HK:=aa.mk HK.out.drew
   replace B11:=aa.mk (B11.out.move rfl:aR w7.drew _ _ _)
   replace Q0:=aa.mk (Kd.fE Q0.out)
   replace oH:w.heap.size<=w7.drew.heap.size:=oH
   replace zg:w7.drew.cell? ⟨g13,0,none⟩=some (.int .i64 (pa:Int)):=zg
   replace AV:w7.drew.cell? ⟨g13,1,none⟩=some (.int .i64 (pb:Int)):=AV
   clear hk0 hk1
   generalize w7.drew=wd2 at zk HK B11 Q0 oH zg AV hHeld ⊢
   refine bI 0 108 #[I,O,O,O,O,O,O,O,O,O,O,O,O,O] aC (h:=?_)
   refine bI 1 109 #[I,I,O,O,O,O,O,O,O,O,O,O,O,O] aC (h:=?_)
   refine bI 5 113 #[I,I,O,O,O,I,O,O,O,O,O,O,O,O] aC (h:=?_)
   refine bI 6 114 #[I,I,O,O,O,I,I,O,O,O,O,O,O,O] aC (h:=?_)
   refine eP 7 115 #[I,I,O,O,O,I,I,I,O,O,O,O,O,O] aC bW hHeld (hy:=by(rintro w' ⟨s0,s1,s2⟩;go_simp;with_reducible rfl)) (h:=?_)
   refine bI 8 116 #[I,I,O,O,O,I,I,I,I,O,O,O,O,O] aC (h:=?_)
   refine eP 9 117 #[I,I,O,O,O,I,I,I,I,I,O,O,O,O] aC bW hHeld (hy:=by(rintro w' ⟨s0,s1,s2⟩;go_simp;with_reducible rfl)) (h:=?_)
   refine iC (i:=2) (N:=some 110) #[I,I,I,O,O,I,I,I,I,I,O,O,O,O] rfl rfl (aN aC.out (by kernel_rfl)) (by decide) (fun K hK=>?_)
   refine dV (w1:=?_) (v:=?_) (by rfl) rfl ?_ ?_
   rotate_left 2
   .go_simp
    constructor<;>rfl
   refine hK.out _ _ hHeld (fun _=>?_)
   clear hK K
   refine bF (by simp only[Act.put,List.setIfInBounds_toArray,List.set_cons_zero,List.set_cons_succ];rfl) ?_
   refine bI 3 111 #[I,I,I,I,O,I,I,I,I,I,O,O,O,O] aC (h:=?_)
   refine eP 4 112 #[I,I,I,I,I,I,I,I,I,I,O,O,O,O] aC bW hHeld (hy:=by(rintro w' ⟨s0,s1,s2⟩;go_simp;with_reducible rfl)) (h:=?_)
   refine bI 10 118 #[I,I,I,I,I,I,I,I,I,I,I,O,O,O] aC (h:=?_)
   refine iC (i:=11) (N:=none) #[I,I,I,I,I,I,I,I,I,I,I,I,O,O] rfl rfl (aN aC.out (by kernel_rfl)) (by decide) (fun K hK=>?_)
   have eB:=zg
   have gP:=zk.out.frozen 0
   refine ib (w1:=?_) (by rfl) rfl ?_ ?_
   rotate_left
   .go_simp
    rfl
   have Uu:=aa.mk (show aR _ g13 [.int .i64 (na:Int),.int .i64 (pb:Int)] _ from bM zk.out 0 (.int .i64 (na:Int)))
   have Xq:=aa.mk (HK.out.setCell (p:=⟨g13,0,none⟩) (.inr Sm) (.int .i64 (na:Int)))
   have abS:=aa.mk (B11.out.move (Below.heap_setCell wd2 ⟨g13,0,none⟩ (.int .i64 (na:Int)) _ Sr))
   have HVa:=aa.mk (Kd.iX Q0.out (p:=⟨g13,0,none⟩) (fun b hb=>hb.2) (.int .i64 (na:Int)))
   have hsa:w.heap.size<=(wd2.setCell ⟨g13,0,none⟩ (.int .i64 (na:Int))).heap.size:=by rw[size_set];exact oH
   have Kt:=Uu.out.cell 1
   simp only[List.getElem?_cons_zero,List.getElem?_cons_succ] at Kt
   obtain⟨abx,ex_,VB⟩:=Kd.dz (Ao RK.out Xq.out rfl).1 (pa:Int) ac0 acZ
   cases ex_
   obtain⟨abx,ex_,VA⟩:=Kd.dz (Ao RK.out Xq.out rfl).1 (pb:Int) acY acX
   cases ex_
   rw[HPA.out] at VB
   rw[HPB.out] at VA
   simp only[Int.toNat_natCast] at VB VA
   refine hK.out _ _ ⟨Kt,VB,VA⟩ (fun qK=>?_)
   clear hK K eB gP zk HK B11 Q0 oH zg AV VB VA hHeld
   generalize wd2.setCell ⟨g13,0,none⟩ (.int .i64 (na:Int))=we at Uu Xq abS HVa hsa Kt qK ⊢
   refine bI 12 119 #[I,I,I,I,I,I,I,I,I,I,I,I,I,O] aC (h:=?_)
   refine dW (i:=13) (N:=none) #[I,I,I,I,I,I,I,I,I,I,I,I,I,I] rfl rfl (aN aC.out (by kernel_rfl)) (by decide) (fun K hK=>?_)
   have eB:=Kt
   have gP:=(Uu.out.frozen 1)
   refine ib (w1:=?_) (by rfl) rfl ?_ ?_
   rotate_left
   .go_simp
    rfl
   refine hK.out _ _ ?_
   clear hK K eB gP
   have CR:=aa.mk (show aR _ g13 [.int .i64 (na:Int),.int .i64 (nb:Int)] _ from bM Uu.out 1 (.int .i64 (nb:Int)))
   have Q5:=aa.mk (Xq.out.setCell (p:=⟨g13,1,none⟩) (.inr Sm) (.int .i64 (nb:Int)))
   have IU:=aa.mk (abS.out.move (Below.heap_setCell we ⟨g13,1,none⟩ (.int .i64 (nb:Int)) _ Sr))
   have HVb:=aa.mk (Kd.iX HVa.out (p:=⟨g13,1,none⟩) (fun b hb=>hb.2) (.int .i64 (nb:Int)))
   have hsb:w.heap.size<=(we.setCell ⟨g13,1,none⟩ (.int .i64 (nb:Int))).heap.size:=by rw[size_set];exact hsa
   clear Uu Xq abS HVa hsa Kt qK
   generalize we.setCell ⟨g13,1,none⟩ (.int .i64 (nb:Int))=wf at CR Q5 IU HVb hsb ⊢
   refine fF (bQ aC.out (by kernel_rfl)) ?_
   clear aC bW
   go_wp2_with fail
   have xM:=aa.mk (show Below w0.heap.size w0 wf from⟨Q5.out.os.trans HB.out.os,Q5.out.tape.trans HB.out.tape,Q5.out.output.trans HB.out.output,Nat.le_trans HB.out.size Q5.out.size,fun k hk=>(Q5.out.block k (by omega) (by omega)).trans (HB.out.block k hk)⟩)
   refine(fM.calls Aw cw ws (i:Int) bt wf (Kd.aK KW.out xM.out) hcw HBT.out).mono ?_
   rintro e wg ⟨rfl,adE⟩
   have hbx:=adE.below
   replace CR:=aa.mk (CR.out.below hbx)
   replace IU:=aa.mk (IU.out.below hbx)
   replace Q5:=aa.mk (Q5.out.trans (bq.of_below hbx hsb))
   replace HVb:=aa.mk (Kd.fC HVb.out hbx)
   replace hsb:=Nat.le_trans hsb hbx.size
   clear hbx adE xM
   generalize hwf:wg=wf at CR IU Q5 HVb hsb ⊢
   clear hwf
   have zg:=CR.out.cell 0
   have AV:=CR.out.cell 1
   have Su:=CR.out.frozen 0
   have Yd:=CR.out.frozen 1
   have akb:=IU.out.cell 3
   have anj:=IU.out.frozen 3
   simp only[List.getElem?_cons_zero,List.getElem?_cons_succ] at zg AV akb
   cases bt
   .go_wp2_with ((with_reducible refine cO (b:= .append) (xs:=#[.tmp 130,.tmp 132]) rfl ?_);refine Kd.jk Cu (w0:=wf) w.heap.size rfl (.tmp 130) (.tmp 132) 24 38 (.agg #[.int .i64 0,.int .i64 0]) 16 rfl Tryz.underlying24 Dg rfl (by decide) (by decide) v3 xs ⟨(na:Int),(nb:Int)⟩ [.int .i64 (na:Int),.int .i64 (nb:Int)] (fun b=>w.heap.size<=b) (fun _=>False) rfl rfl (Oo _ _ _ ⟨(na:Int),(nb:Int)⟩) (fun _ hk=>hk.elim) (fun b hb=>Nat.le_trans hsb hb) (Kd.cK HVb.out (fun _ h=>h.1)) (Below.refl _ _) hsb (by have:=QI.out;omega) ?_;intro vn wn hon hbn hgn fP;obtain⟨An,nn,cn,rfl⟩:=iN hon;have HVn:=aa.mk hon;have N8:=aa.mk (IU.out.move (hbn.block _ D7));have I7:=aa.mk (Q5.out.trans (bq.of_below hbn (Nat.le_refl _)));have hsn:=Nat.le_trans hsb hbn.size;clear hon hbn hgn fP;have Sv:=N8.out.cell 3;have ad5:=N8.out.frozen 3;simp only[List.getElem?_cons_zero,List.getElem?_cons_succ] at Sv)
    exact⟨⟨i+1,.slice An nn cn,xs++[⟨(na:Int),(nb:Int)⟩],HI1.out,congrArg (Value.int .i64) (Int.natCast_succ i).symm,(size_set wn _ _).symm▸hsn,⟨AJ HXI.out⟩,⟨TY.out _ (.inl rfl)⟩,⟨I7.out.setCell (p:=⟨b14,3,none⟩) (.inl rfl) _⟩,⟨bM N8.out 3 (.slice An nn cn)⟩,⟨Kd.iX HVn.out (p:=⟨b14,3,none⟩) (fun b hb=>Nat.ne_of_gt (Nat.lt_of_lt_of_le D7 hb)) _⟩⟩,HME.out⟩
   .obtain⟨w8,hw8⟩:∃w8,(wf.setCell ⟨g13,0,none⟩ (.int .i64 (nb:Int))).setCell ⟨g13,1,none⟩ (.int .i64 (na:Int))=w8:=⟨_,rfl⟩
    have afW:=aa.mk (show aR w8 g13 [.int .i64 (nb:Int),.int .i64 (na:Int)] 38 by rw[<- hw8];exact bM (bM CR.out 0 _) 1 _)
    have HK8:=aa.mk (show bq w.heap.size (fun b=>b=b14) w w8 by rw[<- hw8];exact(Q5.out.setCell (p:=⟨g13,0,none⟩) (.inr Sm) _).setCell (p:=⟨g13,1,none⟩) (.inr Sm) _)
    have afX:=aa.mk (show aR w8 b14 [.slice A0 old.length c0,.int .i64 nw,.slice X2 n2 x2,v3] 26 by rw[<- hw8];exact(IU.out.move (Below.heap_setCell wf ⟨g13,0,none⟩ _ _ Sr)).move (Below.heap_setCell _ ⟨g13,1,none⟩ _ _ Sr))
    have HV8:=aa.mk (show Cu.R 38 w8 w.heap.size (fun b=>w.heap.size<=b/\b≠g13) v3 xs by rw[<- hw8];exact Kd.iX (Kd.iX HVb.out (p:=⟨g13,0,none⟩) (fun b hb=>hb.2) _) (p:=⟨g13,1,none⟩) (fun b hb=>hb.2) _)
    have Dh:w.heap.size<=w8.heap.size:=by rw[<- hw8,size_set,size_set];exact hsb
    have adY:=afW.out.cell 0
    have adX:=afW.out.cell 1
    have adZ:=afX.out.cell 3
    simp only[List.getElem?_cons_zero,List.getElem?_cons_succ] at adY adX adZ
    clear CR Q5 IU HVb hsb
    go_wp2_with ((with_reducible refine cO (b:= .append) (xs:=#[.tmp 130,.tmp 132]) rfl ?_);refine Kd.jk Cu (w0:=w8) w.heap.size rfl (.tmp 130) (.tmp 132) 24 38 (.agg #[.int .i64 0,.int .i64 0]) 16 rfl Tryz.underlying24 Dg rfl (by decide) (by decide) v3 xs ⟨(nb:Int),(na:Int)⟩ [.int .i64 (nb:Int),.int .i64 (na:Int)] (fun b=>w.heap.size<=b) (fun _=>False) rfl rfl (Oo _ _ _ ⟨(nb:Int),(na:Int)⟩) (fun _ hk=>hk.elim) (fun b hb=>Nat.le_trans Dh hb) (Kd.cK HV8.out (fun _ h=>h.1)) (Below.refl _ _) Dh (by have:=QI.out;omega) ?_;intro vn wn hon hbn hgn fP;obtain⟨An,nn,cn,rfl⟩:=iN hon;have HVn:=aa.mk hon;have N8:=aa.mk (afX.out.move (hbn.block _ D7));have I7:=aa.mk (HK8.out.trans (bq.of_below hbn (Nat.le_refl _)));have hsn:=Nat.le_trans Dh hbn.size;clear hon hbn hgn fP;have Sv:=N8.out.cell 3;have ad5:=N8.out.frozen 3;simp only[List.getElem?_cons_zero,List.getElem?_cons_succ] at Sv)
    exact⟨⟨i+1,.slice An nn cn,xs++[⟨(nb:Int),(na:Int)⟩],HI1.out,congrArg (Value.int .i64) (Int.natCast_succ i).symm,(size_set wn _ _).symm▸hsn,⟨AJ HXI.out⟩,⟨TY.out _ (.inr rfl)⟩,⟨I7.out.setCell (p:=⟨b14,3,none⟩) (.inl rfl) _⟩,⟨bM N8.out 3 (.slice An nn cn)⟩,⟨Kd.iX HVn.out (p:=⟨b14,3,none⟩) (fun b hb=>Nat.ne_of_gt (Nat.lt_of_lt_of_le D7 hb)) _⟩⟩,HME.out⟩
  .obtain rfl:i=rj.length:=by omega
   obtain⟨Z0,nz,zc,rfl⟩:=iN Q0.out
   have hR2:=Kd.fJ R2.out (fun b hb hlt=>HK.out.block b hlt hb)
   obtain⟨_,_,e2,hd2,hC2⟩:=Kd.dU hR2
   obtain⟨rfl,rfl,rfl⟩:=slice_inj e2
   obtain⟨_,_,e3,hd3,Yc⟩:=Kd.dU Q0.out
   obtain⟨rfl,rfl,rfl⟩:=slice_inj e3
   have hxl:=QI.out
   have B5r:=B5.out.move (HK.out.block _ (by omega) (by omega))
   have hcF:=Ao RF.out HK.out rfl
   have L:=aa.mk (LX.mk (cp:=cp) (cf:=cf) BV.out B4r.out B5r B11.out (Kd.aK K0.out BV.out) (Kd.aK K2.out BV.out) (Kd.aK K3.out BV.out) hC2 Yc (Kd.aK KP.out BV.out) hcF.1)
   have HS:=aa.mk (Rq hR.out hl2.out hg2.out HJ.out (IA.mk hxl (fun m hm=>hRJ.out.um m hm) (fun q hq=>⟨τ q,hRJ.out.vD q hq,hRJ.out.st q hq⟩) (fun m hm=>HJR.out m (by rw[hxl];exact hm))))
   have hcf:=aa.mk hcF.2
   have akQ:=aa.mk hxl
   have hjl:=HJL.out
   clear hR2 hd2 hC2 e2 hd3 Yc e3 hxl B5r hcF HJL NS
   go_wp2_with fail
   refine aiM _ ?_ L.out TF.out hcf.out hfl.out ht0 ht2 ht3 hl2.out akQ.out HS.out
   rfl
end Go.Proofs.YtkjoilgpmngndaaGreat
namespace Go.Proofs.YtkjoilgpmngndaaGreat
open Go.RowKit Go.Shelf Go.Proofs.YtkjoilgpmngndaaGreat.av Go.Proofs.YtkjoilgpmngndaaGreatW.aA Go.Proofs.YtkjoilgpmngndaaGreatW.aJ Go.Proofs.YtkjoilgpmngndaaGreatW.dn
def le.TL:Bool×List (List Nat×List Nat):=(true,[([],[]),([0],[0]),([],[]),([2],[2]),([],[]),([],[]),([4,5],[4,5]),([6],[6]),([3,7],[3,7]),([8],[8]),([9],[9]),([1,10],[1,10]),([0,1,2,3,4,5,6,7,8,9,10,11],[]),([12,11,11,0,1,2,3,4,5,6,7,8,9,10,11],[11,12])])
def le.B10:List Nat:=[0,1,0,4,0,0,48,112,252,508,1020,2047,4095,8191]
theorem le.yE:eu .any (opsOf Tryz.f3 10)=le.TL:=by kernel_rfl
theorem le.rU:bO le.TL.2 le.B10=true:=by kernel_rfl
theorem J6:(Tryz.prog.info? 36).map (fun i=>(i.zero,i.size,i.bytes))=some (some (.agg #[.int .i64 0,.int .i64 0,.int .i64 0,.int .i64 0,.int .i64 0]),5,40):=by kernel_rfl
theorem UY{rs xs:List ql}{s:Nat->Nat}{i:Nat}(hl:xs.length=i)(h:∀m,m<i->xs.getD m z36=rs.getD (s m) z36){r:ql}(hr:rs.getD (s i) z36=r):∀m,m<i+1->(xs++[r]).getD m z36=rs.getD (s m) z36:=by
 intro m hm
 by_cases e:m<i
 .rw[<- h m e]
  simp only[List.getD]
  rw[List.getElem?_append_left (by omega)]
 .obtain rfl:m=i:=by omega
  rw[hr]
  simp only[List.getD]
  rw[List.getElem?_append_right (by omega),hl]
  simp
set_option maxRecDepth 100000 in
set_option maxHeartbeats 40000000 in
theorem aiO{w0 w:World}{A0:Option Addr}{c0:Nat}{old:List Int}{nw:Int}{A2:Option Addr}{c2:Nat}{rs:List ql}{A3:Option Addr}{c3:Nat}{rj:List kW}{lo hi:Int}{b14:Nat}{X2:Option Addr}{n2 x2:Nat}{rs2:List ql}{ps fr bk jf ws:List Int}{Ap Af Ak Aj Aw:Option Addr}{cp cf ck cj cw Tv Tt Tu base2:Nat}{s t σ τ:Nat->Nat}(a:Act)(ha:a={tmps:=CE (.slice Ap ps.length cp) (.slice Aw ws.length cw) (.pointer (some ⟨w0.heap.size,0,none⟩)) (.pointer (some ⟨w0.heap.size+1,0,none⟩)) (.int .i64 (fr.length:Int)) (.slice Af fr.length cf) (.slice Ak bk.length ck) (.slice Aj jf.length cj) (.pointer (some ⟨b14,0,none⟩)) (a.tmps.getD 18 undef) (a.tmps.getD 19 undef) (a.tmps.getD 38 undef) (fun i=>a.tmps.getD i undef),defers:=[]})
  (HB:aa (Below w0.heap.size w0 w)) (B4:aa (aR w w0.heap.size [.slice A0 old.length c0,.int .i64 nw,.slice A2 rs.length c2,.slice A3 rj.length c3] 26)) (B5:aa (aR w (w0.heap.size+1) [.int .i64 lo,.int .i64 hi] 28)) (h14:w0.heap.size+1<b14)
  (RF:aa ((Kd.int .i64).R 3 w Tv (fun b=>b≠b14) (.slice Af fr.length cf) fr)) (RK:aa ((Kd.int .i64).R 3 w Tt (fun b=>b≠b14) (.slice Ak bk.length ck) bk)) (RJ:aa ((Kd.int .i64).R 3 w Tu (fun b=>b≠b14) (.slice Aj jf.length cj) jf))
  (K0:aa ((Kd.int .i64).C w0 A0 old.length old)) (K2:aa (Dc.C w0 A2 rs.length rs)) (K3:aa (Cu.C w0 A3 rj.length rj)) (KP:aa ((Kd.int .i64).C w0 Ap ps.length ps)) (KW:aa ((Kd.int .u16).C w0 Aw ws.length ws)) (hcw:ws.length<=cw) (HJ:aa (JV rs.length rj 0))
  (TF:aa (ky fr.length s fr)) (TK:aa (ky rs.length t bk)) (TJ:aa (ky rj.length σ jf)) (hR:aa (Ren rs.length s t)) (hRJ:aa (Ren rj.length σ τ)) (hfl:aa (fr.length=rs.length)) (ht0:old.length<=7) (ht2:rs.length<=11) (ht3:rj.length<=24)
  (BX:aa (aR w b14 [.slice A0 old.length c0,.int .i64 nw,.slice none 0 0,.slice none 0 0] 26)):Code.wp Tryz.prog (jI 6) (mZ w0) a w:=by
 obtain⟨u,hu⟩:∃u:Nat->Value,a={tmps:=CE (.slice Ap ps.length cp) (.slice Aw ws.length cw) (.pointer (some ⟨w0.heap.size,0,none⟩)) (.pointer (some ⟨w0.heap.size+1,0,none⟩)) (.int .i64 (fr.length:Int)) (.slice Af fr.length cf) (.slice Ak bk.length ck) (.slice Aj jf.length cj) (.pointer (some ⟨b14,0,none⟩)) (u 18) (u 19) (u 38) u,defers:=[]}:=⟨fun i=>a.tmps.getD i undef,ha⟩
 clear ha
 subst hu
 unfold CE
 refine dZ 6 (by kernel_rfl) (fun K hK=>?_)
 have D7:=BX.out.lt
 have hlw:=HB.out.size
 unfold jI
 conv=>arg 2;whnf
 unfold mZ
 go_wp2_with fail
 go_loopw [15] (fun v15 wr=>∃(i:Nat) (v2:Value) (xs:List ql),i<=fr.length/\v15= .int .i64 i/\w.heap.size<=wr.heap.size/\aa (xs.length=i)/\aa (∀m,m<i->xs.getD m z36=rs.getD (s m) z36)/\aa (bq w.heap.size (fun b=>b=b14) w wr)/\aa (aR wr b14 [.slice A0 old.length c0,.int .i64 nw,v2,.slice none 0 0] 26)/\aa (Dc.R 36 wr w.heap.size (fun b=>w.heap.size<=b) v2 xs)) (fun v15 _=>fr.length-(intOf v15).toNat)
 case atStart=>exact⟨0,.slice none 0 0,[],Nat.zero_le _,rfl,Nat.le_refl _,⟨rfl⟩,⟨fun m hm=>absurd hm (Nat.not_lt_zero _)⟩,⟨bq.refl _ _ _⟩,BX,⟨Kd.jL _ _ _ _ _⟩⟩
 case round=>
  clear BX
  obtain⟨i,v2,xs,hi,rfl,oH,QI,HXR,HK,B11,HV2⟩:=hrel
  have B4r:=aa.mk (B4.out.move (HK.out.block _ (by omega) (by omega)))
  have BU:=B4r.out.cell 2
  simp only[List.getElem?_cons_zero,List.getElem?_cons_succ] at BU
  have BV:=aa.mk (show Below w0.heap.size w0 wr from⟨HK.out.os.trans HB.out.os,HK.out.tape.trans HB.out.tape,HK.out.output.trans HB.out.output,Nat.le_trans HB.out.size HK.out.size,fun k hk=>(HK.out.block k (by omega) (by omega)).trans (HB.out.block k hk)⟩)
  by_cases hil:i<fr.length
  .have Vs:=hR.out.um i (by have:=hfl.out;omega)
   have htj:=TF.out.at_ i hil
   obtain⟨q,hq⟩:∃q,s i=q:=⟨_,rfl⟩
   rw[hq] at Vs htj
   obtain⟨af,e,hf0⟩:=Kd.dz (Ao RF.out HK.out rfl).1 (i:Int) (by omega) (by omega)
   cases e
   rw[htj] at hf0
   obtain⟨ad,e,hq0,hq1,hq2,hq3,hq4⟩:=ou (Kd.aK K2.out BV.out) (q:Int) (by omega) (by omega)
   cases e
   simp only[Int.toNat_natCast] at hq0 hq1 hq2 hq3 hq4 hf0
   have hre:rs.getD q z36=bf rs (q:Int):=by simp[bf]
   obtain⟨r,hr⟩:∃r,bf rs (q:Int)=r:=⟨_,rfl⟩
   rw[hr] at hq0 hq1 hq2 hq3 hq4 hre
   have TY:=aa.mk (UY (rs:=rs) QI.out HXR.out (r:=r) (by rw[hq];exact hre))
   have hiF:(i:Int)<(fr.length:Int):=by omega
   have hqI:(q:Int)<rs.length:=by omega
   have hi0:(0:Int)<=(i:Int):=by omega
   have ajd:(0:Int)<=(q:Int):=by omega
   have I6:=aa.mk (show xs.length<=11 by have:=QI.out;have:=hfl.out;omega)
   have HI1:=aa.mk (show i+1<=fr.length by omega)
   have HWI:=aa.mk (show i<=11 by have:=hfl.out;omega)
   have HME:=aa.mk (show fr.length-(intOf (.int .i64 ((i:Int)+1))).toNat<fr.length-(intOf (.int .i64 (i:Int))).toNat by simp[intOf];omega)
   clear hr hre hq htj Vs B4r BV
   go_wp2_with fail
   refine gz (n:=14) (S:=fun w'=>w'.cell? ⟨b14,2,none⟩=some v2/\w'.cell? ⟨w0.heap.size,2,none⟩=some (.slice (some ad) rs.length c2)/\w'.cell? (af.add i)=some (.int .i64 (q:Int))/\w'.cell? (ad.add (q*5))=some (.int .i64 r.f0)/\w'.cell? ⟨(ad.add (q*5)).block,(ad.add (q*5)).off+1,none⟩=some (.int .i64 r.f1)/\w'.cell? ⟨(ad.add (q*5)).block,(ad.add (q*5)).off+2,none⟩=some (.int .i64 r.f2)/\w'.cell? ⟨(ad.add (q*5)).block,(ad.add (q*5)).off+3,none⟩=some (.int .i64 r.f3.f0)/\w'.cell? ⟨(ad.add (q*5)).block,(ad.add (q*5)).off+4,none⟩=some (.int .i64 r.f3.f1)) (ds:=[11,13]) #[O,O,O,O,O,O,O,O,O,O,O,O,O,O] (by kernel_rfl) rfl rfl ⟨(by simpa using B11.out.cell 2),BU,hf0,hq0,hq1,hq2,hq3,hq4⟩ (fun hHeld=>?_);refine bK le.yE le.rU (fun aC bW=>?_)
   have uf:=aa.mk (B11.out.move rfl:aR wr.drew _ _ _)
   have NR:=aa.mk HK.out.drew
   have Bv:=aa.mk (Kd.fE HV2.out)
   have hsd:w.heap.size<=wr.drew.heap.size:=oH
   have ada:b14<wr.drew.heap.size:=Nat.lt_of_lt_of_le D7 oH
   clear B11 HK HV2 oH BU hf0 hq0 hq1 hq2 hq3 hq4
   generalize wr.drew=wd1 at uf NR Bv hsd ada hHeld ⊢
   refine bI 0 81 #[I,O,O,O,O,O,O,O,O,O,O,O,O,O] aC (h:=?_)
   refine eP 1 82 #[I,I,O,O,O,O,O,O,O,O,O,O,O,O] aC bW hHeld (hy:=by(rintro w' ⟨s0,s1,s2,s3,s4,s5,s6,s7⟩;go_simp;with_reducible rfl)) (h:=?_)
   refine bI 2 83 #[I,I,I,O,O,O,O,O,O,O,O,O,O,O] aC (h:=?_)
   refine eP 3 84 #[I,I,I,I,O,O,O,O,O,O,O,O,O,O] aC bW hHeld (hy:=by(rintro w' ⟨s0,s1,s2,s3,s4,s5,s6,s7⟩;go_simp;with_reducible rfl)) (h:=?_)
   refine bI 4 85 #[I,I,I,I,I,O,O,O,O,O,O,O,O,O] aC (h:=?_)
   refine bI 5 86 #[I,I,I,I,I,I,O,O,O,O,O,O,O,O] aC (h:=?_)
   refine bI 6 87 #[I,I,I,I,I,I,I,O,O,O,O,O,O,O] aC (h:=?_)
   refine eP 7 88 #[I,I,I,I,I,I,I,I,O,O,O,O,O,O] aC bW hHeld (hy:=by(rintro w' ⟨s0,s1,s2,s3,s4,s5,s6,s7⟩;go_simp;with_reducible rfl)) (h:=?_)
   refine bI 8 89 #[I,I,I,I,I,I,I,I,I,O,O,O,O,O] aC (h:=?_)
   refine eP 9 90 #[I,I,I,I,I,I,I,I,I,I,O,O,O,O] aC bW hHeld (hy:=by(rintro w' ⟨s0,s1,s2,s3,s4,s5,s6,s7⟩;go_simp;with_reducible rfl)) (h:=?_)
   refine iC (i:=10) (N:=some 91) #[I,I,I,I,I,I,I,I,I,I,I,O,O,O] rfl rfl (aN aC.out (by kernel_rfl)) (by decide) (fun K hK=>?_)
   refine dV (w1:=?_) (v:=?_) (by rfl) rfl ?_ ?_
   rotate_left 2
   .go_simp
    constructor<;>rfl
   refine hK.out _ _ ⟨((ae (Below.refl _ _) (.cells #[.int .i64 r.f0,.int .i64 r.f1,.int .i64 r.f2,.int .i64 r.f3.f0,.int .i64 r.f3.f1] 36)).cell (World.block_lt_of_cell? _ _ hHeld.1)).trans hHeld.1,((ae (Below.refl _ _) (.cells #[.int .i64 r.f0,.int .i64 r.f1,.int .i64 r.f2,.int .i64 r.f3.f0,.int .i64 r.f3.f1] 36)).cell (World.block_lt_of_cell? _ _ hHeld.2.1)).trans hHeld.2.1,((ae (Below.refl _ _) (.cells #[.int .i64 r.f0,.int .i64 r.f1,.int .i64 r.f2,.int .i64 r.f3.f0,.int .i64 r.f3.f1] 36)).cell (World.block_lt_of_cell? _ _ hHeld.2.2.1)).trans hHeld.2.2.1,((ae (Below.refl _ _) (.cells #[.int .i64 r.f0,.int .i64 r.f1,.int .i64 r.f2,.int .i64 r.f3.f0,.int .i64 r.f3.f1] 36)).cell (World.block_lt_of_cell? _ _ hHeld.2.2.2.1)).trans hHeld.2.2.2.1,((ae (Below.refl _ _) (.cells #[.int .i64 r.f0,.int .i64 r.f1,.int .i64 r.f2,.int .i64 r.f3.f0,.int .i64 r.f3.f1] 36)).cell (World.block_lt_of_cell? _ _ hHeld.2.2.2.2.1)).trans hHeld.2.2.2.2.1,((ae (Below.refl _ _) (.cells #[.int .i64 r.f0,.int .i64 r.f1,.int .i64 r.f2,.int .i64 r.f3.f0,.int .i64 r.f3.f1] 36)).cell (World.block_lt_of_cell? _ _ hHeld.2.2.2.2.2.1)).trans hHeld.2.2.2.2.2.1,((ae (Below.refl _ _) (.cells #[.int .i64 r.f0,.int .i64 r.f1,.int .i64 r.f2,.int .i64 r.f3.f0,.int .i64 r.f3.f1] 36)).cell (World.block_lt_of_cell? _ _ hHeld.2.2.2.2.2.2.1)).trans hHeld.2.2.2.2.2.2.1,((ae (Below.refl _ _) (.cells #[.int .i64 r.f0,.int .i64 r.f1,.int .i64 r.f2,.int .i64 r.f3.f0,.int .i64 r.f3.f1] 36)).cell (World.block_lt_of_cell? _ _ hHeld.2.2.2.2.2.2.2)).trans hHeld.2.2.2.2.2.2.2⟩ (fun _=>?_)
   clear hK K
   refine bF (by simp only[Act.put,List.setIfInBounds_toArray,List.set_cons_zero,List.set_cons_succ];rfl) ?_
   refine dW (i:=11) (N:=some 92) #[I,I,I,I,I,I,I,I,I,I,I,I,O,O] rfl rfl (aN aC.out (by kernel_rfl)) (by decide) (fun K hK=>?_)
   refine Kd.mI Dc (w0:=wd1) w.heap.size (by rfl) (.tmp 82) (.tmp 91) 23 36 (.agg #[.int .i64 0,.int .i64 0,.int .i64 0,.int .i64 0,.int .i64 0]) 40 rfl Tryz.underlying23 J6 rfl (by decide) (by omega) v2 xs r [.int .i64 r.f0,.int .i64 r.f1,.int .i64 r.f2,.int .i64 r.f3.f0,.int .i64 r.f3.f1] (fun b=>w.heap.size<=b) (fun _=>False) rfl rfl (U9 _ _ _ r) (fun _ hk=>hk.elim) (fun b hb=>Nat.le_trans hsd hb) Bv.out (Below.refl _ _) hsd (by have:=I6.out;omega) ?_
   intro vn wn hon hbn hgn fP
   obtain⟨An,nn,cn,rfl⟩:=iN hon
   have uU:=aa.mk hon
   have O7:=aa.mk (uf.out.move (hbn.block _ D7))
   have I7:=aa.mk (NR.out.trans (bq.of_below hbn (Nat.le_refl _)))
   have hsn:=Nat.le_trans hsd hbn.size
   clear hon hbn hgn fP uf NR Bv hsd
   refine hK.out _ _ ?_
   clear hK K
   refine bF (by simp only[Act.put,List.setIfInBounds_toArray,List.set_cons_zero,List.set_cons_succ];rfl) ?_
   refine bI 12 93 #[I,I,I,I,I,I,I,I,I,I,I,I,I,O] aC (h:=?_)
   refine dW (i:=13) (N:=none) #[I,I,I,I,I,I,I,I,I,I,I,I,I,I] rfl rfl (aN aC.out (by kernel_rfl)) (by decide) (fun K hK=>?_)
   have eB:=(show wn.cell? ⟨b14,2,none⟩=some v2 by simpa using O7.out.cell 2)
   have gP:=O7.out.frozen 2
   refine ib (w1:=?_) (by rfl) rfl ?_ ?_
   rotate_left
   .go_simp
    rfl
   refine hK.out _ _ ?_
   clear hK K eB gP
   have YY:=aa.mk (show aR _ b14 [.slice A0 old.length c0,.int .i64 nw,.slice An nn cn,.slice none 0 0] _ from bM O7.out 2 (.slice An nn cn))
   have Q4:=aa.mk (I7.out.setCell (p:=⟨b14,2,none⟩) (.inl rfl) (.slice An nn cn))
   have YC:=aa.mk (Kd.iX uU.out (p:=⟨b14,2,none⟩) (fun b hb=>Nat.ne_of_gt (Nat.lt_of_lt_of_le D7 hb)) (.slice An nn cn))
   have hsz:w.heap.size<=(wn.setCell ⟨b14,2,none⟩ (.slice An nn cn)).heap.size:=by rw[size_set];exact hsn
   clear O7 I7 uU hsn
   generalize wn.setCell ⟨b14,2,none⟩ (.slice An nn cn)=wz at YY Q4 YC hsz ⊢
   refine fF (bQ aC.out (by kernel_rfl)) ?_
   clear aC bW
   have ZI:=HWI.out
   go_wp2_with fail
   exact⟨⟨i+1,.slice An nn cn,xs++[r],HI1.out,congrArg (Value.int .i64) (Int.natCast_succ i).symm,hsz,⟨AJ QI.out⟩,TY,Q4,YY,YC⟩,HME.out⟩
  .obtain rfl:i=fr.length:=by omega
   obtain⟨Z2,nz,zc,rfl⟩:=iN HV2.out
   have R2:=aa.mk (Kd.cK (Kd.lL HV2.out B11.out (by decide)) (fun b hb=>(hb.2:b≠b14)))
   have B5r:=aa.mk (B5.out.move (HK.out.block _ (by omega) (by omega)))
   have RFr:=aa.mk (Kd.fJ RF.out (fun b hb hlt=>HK.out.block b hlt hb))
   have RKr:=aa.mk (Kd.fJ RK.out (fun b hb hlt=>HK.out.block b hlt hb))
   have RJr:=aa.mk (Kd.fJ RJ.out (fun b hb hlt=>HK.out.block b hlt hb))
   have HL2:=aa.mk (QI.out.trans hfl.out)
   have HG2:=aa.mk (show ∀i,i<rs.length->xs.getD i z36=rs.getD (s i) z36 from fun i hi=>HXR.out i (by have:=hfl.out;omega))
   go_wp2_with fail
   refine aiN (ps:=ps) (cp:=cp) (ws:=ws) (cw:=cw) _ ?_ BV B4r B5r h14 RFr RKr RJr K0 K2 K3 KP KW hcw HJ TF TK TJ hR hRJ hfl ht0 ht2 ht3 B11 R2 HL2 HG2
   rfl
end Go.Proofs.YtkjoilgpmngndaaGreat
