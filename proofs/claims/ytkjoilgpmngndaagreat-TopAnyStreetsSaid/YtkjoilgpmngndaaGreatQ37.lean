import Derived.Test.YtkjoilgpmngndaaGreatQ18
import Derived.Test.YtkjoilgpmngndaaGreatQ22
set_option linter.all false
namespace Go.Proofs.YtkjoilgpmngndaaGreat
open Go.RowKit Go.Shelf Go.Proofs.YtkjoilgpmngndaaGreat.av Go.Proofs.YtkjoilgpmngndaaGreatW.aA Go.Proofs.YtkjoilgpmngndaaGreatW.aJ Go.Proofs.YtkjoilgpmngndaaGreatW.dn
def mp.T1:Bool×List (List Nat×List Nat):=(true,[([],[]),([0],[0]),([1],[1]),([],[]),([3],[3]),([2,4],[2,4]),([],[]),([6,5,2,0,1,2,3,4,5,6],[5,6])])
def mp.B1:List Nat:=[0,1,3,0,8,31,0,127]
theorem mp.Ri:eu .any (opsOf Tryz.f10 1)=mp.T1:=by kernel_rfl
theorem mp.KG:bO mp.T1.2 mp.B1=true:=by kernel_rfl
def mp.T6:Bool×List (List Nat×List Nat):=(true,[([],[]),([0],[0]),([],[]),([2],[2]),([],[]),([4],[4]),([],[]),([6],[6]),([],[]),([8],[8]),([9],[9]),([3,5,7,10],[3,5,7,10]),([11],[11]),([1,12,10],[1,12]),([0,1,2,3,4,5,6,7,8,9,10,11,12,13],[]),([14,13,13,0,1,2,3,4,5,6,7,8,9,10,11,12,13],[13,14])])
def mp.B6:List Nat:=[0,1,0,4,0,16,0,64,0,256,768,2044,4092,8191,16383,32767]
theorem mp.Zb:eu .any (opsOf Tryz.f10 6)=mp.T6:=by kernel_rfl
theorem mp.Tm:bO mp.T6.2 mp.B6=true:=by kernel_rfl
def mp.TL:Bool×List (List Nat×List Nat):=(true,[([],[]),([0],[0]),([],[]),([2],[2]),([],[]),([3,4],[3,4]),([5],[5]),([6],[6]),([],[]),([8],[8]),([],[]),([9,10],[9,10]),([11],[11]),([12],[12]),([7,13],[7,13]),([14],[14]),([1,15],[1,15]),([0,1,2,3,4,5,6,7,8,9,10,11,12,13,14,15,16],[]),([17,16,16,0,1,2,3,4,5,6,7,8,9,10,11,12,13,14,15,16],[16,17])])
def mp.B10:List Nat:=[0,1,0,4,0,28,60,124,0,256,0,1792,3840,7936,16380,32764,65535,131071,262143]
theorem mp.yE:eu .any (opsOf Tryz.f10 10)=mp.TL:=by kernel_rfl
theorem mp.rU:bO mp.TL.2 mp.B10=true:=by kernel_rfl
theorem slice_inj{A B:Option Addr}{n m c d:Nat}(h:Value.slice A n c=Value.slice B m d):A=B/\n=m/\c=d:=by
 injection h with h1 h2 h3
 exact⟨h1,h2,h3⟩
theorem MU:(Tryz.prog.info? 105).map (fun i=>(i.zero,i.size,i.bytes))=some (some (.agg #[.int .i64 0,.int .i64 0,.int .i64 0,.int .i64 0,.int .i64 0]),5,40):=by kernel_rfl
theorem Sc:(Tryz.prog.info? 115).map (fun i=>(i.zero,i.size,i.bytes))=some (some (.agg #[.int .i64 0,.int .i64 0]),2,16):=by kernel_rfl
set_option maxRecDepth 100000 in
set_option maxHeartbeats 4000000 in
theorem vN{A:Option Addr}{c:Nat}{xs:List Int}(w:World)(hC:(Kd.int .i64).C w A xs.length xs)(hx:xs.length<=1000):
  Calls Tryz.prog 38 #[.slice A xs.length c] w fun e w'=>∃v,e= .returned v/\(Kd.int .i64).R 3 w' w.heap.size (fun _=>True) v xs/\Below w.heap.size w w':=by
 have HC:=aa.mk hC
 clear hC
 go_enter Tryz.func38,Tryz.ntmps38
 go_wp2_with ((with_reducible refine cO (b:= .append) (xs:=#[.const (.slice none 0 0),.tmp 3]) rfl ?_);refine Kd.kF (Kd.int .i64) (w0:=w) w.heap.size rfl (.const (.slice none 0 0)) (.tmp 3) 22 3 (.int .i64 0) 8 rfl Tryz.underlying22 info3 rfl (by decide) (by omega) (.slice none 0 0) [] xs _ _ _ (fun _=>True) (fun _=>False) rfl rfl (Kd.jL _ _ _ _ _) HC.out (fun x cs h=>h) (fun _ hk=>hk.elim) (fun _ _=>trivial) (Below.refl _ _) (Nat.le_refl _) ?aL ?_;(case aL=>(simp only[List.length_nil];omega));intro vn wn hon hbn hgn fP;have uU:=aa.mk hon;have BZ:=aa.mk hbn;clear hon hbn hgn fP)
 go_ret
 exact⟨_,rfl,uU.out,BZ.out⟩
theorem Lu(a b:Int)(w:World):Calls Tryz.prog 39 #[.agg #[.int .i64 a,.int .i64 b]] w fun e w'=>e= .returned (.agg #[.int .i64 a,.int .i64 b])/\Below w.heap.size w w':=mX.calls a b a b w rfl
def IY(x:ql):bH:=⟨x.f0,x.f1,x.f2,⟨x.f3.f0,x.f3.f1⟩⟩
def uO(x:kW):bS:=⟨x.f0,x.f1⟩
structure RB(w:World)(B0:Option Addr)(d0:Nat)(old:List Int)(B2:Option Addr)(d2:Nat)(ss:List bH)(B3:Option Addr)(d3:Nat)(js:List bS):Prop where
 r0:∃base,(Kd.int .i64).R 3 w base (fun _=>True) (.slice B0 old.length d0) old
 r2:∃base,uB.R 105 w base (fun _=>True) (.slice B2 ss.length d2) ss
 r3:∃base,Cv.R 115 w base (fun _=>True) (.slice B3 js.length d3) js
set_option maxRecDepth 100000 in
set_option maxHeartbeats 40000000 in
theorem j4{A0:Option Addr}{c0:Nat}{old:List Int}(nw:Int){A2:Option Addr}{c2:Nat}{rs:List ql}{A3:Option Addr}{c3:Nat}{rj:List kW}(w:World)
  (h0:(Kd.int .i64).C w A0 old.length old) (h2:Dc.C w A2 rs.length rs) (h3:Cu.C w A3 rj.length rj) (ho:old.length<=1000) (hs:rs.length<=1000) (hj:rj.length<=1000) (ss:List bH) (js:List bS) (hss:rs.map IY=ss) (hjs:rj.map uO=js):
  Calls Tryz.prog 10 #[.agg #[.slice A0 old.length c0,.int .i64 nw,.slice A2 rs.length c2,.slice A3 rj.length c3]] w fun e w'=>(∃B0 d0 B2 d2 B3 d3,e= .returned (.agg #[.slice B0 old.length d0,.int .i64 nw,.slice B2 ss.length d2,.slice B3 js.length d3])/\uX w' B0 d0 old B2 d2 ss B3 d3 js/\RB w' B0 d0 old B2 d2 ss B3 d3 js)/\Below w.heap.size w w':=by
 have K0:=aa.mk h0
 have K2:=aa.mk h2
 have K3:=aa.mk h3
 have TW:=aa.mk hss
 have HJS:=aa.mk hjs
 clear h0 h2 h3 hss hjs
 go_enter Tryz.func10,Tryz.ntmps10
 go_wp2_with fail
 have HB0:=aa.mk (ae (ae (Below.refl w.heap.size w) (.cells #[.slice A0 old.length c0,.int .i64 nw,.slice A2 rs.length c2,.slice A3 rj.length c3] 26)) (.cells #[.slice none 0 0,.int .i64 0,.slice none 0 0,.slice none 0 0] 43))
 have B10:=aa.mk ((aR.new w [.slice A0 old.length c0,.int .i64 nw,.slice A2 rs.length c2,.slice A3 rj.length c3] 26).alloc (.cells #[.slice none 0 0,.int .i64 0,.slice none 0 0,.slice none 0 0] 43))
 have zI:=aa.mk (aR.second w (.cells #[.slice A0 old.length c0,.int .i64 nw,.slice A2 rs.length c2,.slice A3 rj.length c3] 26) [.slice none 0 0,.int .i64 0,.slice none 0 0,.slice none 0 0] 43)
 have hs0:w.heap.size+1<((w.alloc (.cells #[.slice A0 old.length c0,.int .i64 nw,.slice A2 rs.length c2,.slice A3 rj.length c3] 26)).alloc (.cells #[.slice none 0 0,.int .i64 0,.slice none 0 0,.slice none 0 0] 43)).heap.size:=by simp
 generalize(w.alloc (.cells #[.slice A0 old.length c0,.int .i64 nw,.slice A2 rs.length c2,.slice A3 rj.length c3] 26)).alloc (.cells #[.slice none 0 0,.int .i64 0,.slice none 0 0,.slice none 0 0] 43)=w0 at HB0 B10 zI hs0 ⊢
 have h10:=B10.out.cell 0
 have h11:=B10.out.cell 1
 simp only[List.getElem?_cons_zero,List.getElem?_cons_succ] at h10 h11
 refine gz (n:=8) (S:=fun w'=>w'.cell? ⟨w.heap.size,0,none⟩=some (.slice A0 old.length c0)/\w'.cell? ⟨w.heap.size,1,none⟩=some (.int .i64 nw)) (ds:=[7]) #[O,O,O,O,O,O,O,O] (by kernel_rfl) rfl rfl ⟨(by simpa using (B10.out).cell 0),(by simpa using (B10.out).cell 1)⟩ (fun hHeld=>?_);refine bK mp.Ri mp.KG (fun aC bW=>?_)
 have Lc:=aa.mk (B10.out.move rfl:aR w0.drew _ _ _)
 have B2d:=aa.mk (zI.out.move rfl:aR w0.drew _ _ _)
 have qV:=aa.mk (bG HB0.out)
 have hsd:w.heap.size+1<w0.drew.heap.size:=hs0
 clear B10 zI HB0 h10 h11
 generalize w0.drew=wd at Lc B2d qV hsd hHeld ⊢
 refine bI 0 7 #[I,O,O,O,O,O,O,O] aC (h:=?_)
 refine eP 1 8 #[I,I,O,O,O,O,O,O] aC bW hHeld (hy:=by(rintro w' ⟨s0,s1⟩;go_simp;with_reducible rfl)) (h:=?_)
 refine bI 3 10 #[I,I,O,I,O,O,O,O] aC (h:=?_)
 refine eP 4 11 #[I,I,O,I,I,O,O,O] aC bW hHeld (hy:=by(rintro w' ⟨s0,s1⟩;go_simp;with_reducible rfl)) (h:=?_)
 refine nX (σ:=Value×Nat) 1 #[I,I,I,I,I,I,I,O] (fun s=>[(9,s.1),(12,.agg #[s.1,.int .i64 nw,.slice none 0 0,.slice none 0 0]),(3,.pointer (some ⟨s.2,0,none⟩))]) (fun s w'=>(Kd.int .i64).R 3 w' wd.heap.size (fun _=>True) s.1 old/\aR w' s.2 [.slice none 0 0,.int .i64 0,.slice none 0 0,.slice none 0 0] 43/\wd.heap.size<=s.2/\Below wd.heap.size wd w') ?cont ?orders
 case orders=>
  intro hcont
  refine zQ (i:=2) (j:=6) (Ni:=some 9) (Nj:=some 3) #[I,I,I,I,I,O,O,O] #[I,I,O,I,I,O,I,O] rfl rfl rfl rfl (nN aC.out (by kernel_rfl)) (by decide) (by decide) (fun K hK=>?_) (fun K hK=>?_)
  .refine fD Tryz.func38 (by kernel_rfl) rfl #[.slice A0 old.length c0] (by rfl) rfl rfl (by(try simp only[List.map_toArray,List.map_cons,List.map_nil]);rfl) ?_
   refine(vN wd (Kd.aK K0.out qV.out) ho).mono ?_
   rintro e_ wc ⟨v_,rfl,hRl,hbx⟩
   obtain⟨X0,n0,x0,rfl⟩:=iN hRl
   refine⟨_,rfl,hK.out _ _ ⟨(by simpa using (Lc.out.below hbx).cell 0),(by simpa using (Lc.out.below hbx).cell 1)⟩ (fun _=>?_)⟩
   clear hK K
   refine bF (by simp only[Act.put,List.setIfInBounds_toArray,List.set_cons_zero,List.set_cons_succ];rfl) ?_
   refine bI 5 12 #[I,I,I,I,I,I,O,O] aC (h:=?_)
   refine iC (i:=6) (N:=some 3) #[I,I,I,I,I,I,I,O] rfl rfl (aN aC.out (by kernel_rfl)) (by decide) (fun K hK=>?_)
   refine dV (w1:=?_) (v:=?_) (by rfl) rfl ?_ ?_
   rotate_left 2
   .go_simp
    constructor<;>rfl
   refine hK.out _ _ ⟨(by simpa using ((Lc.out.below hbx).alloc (.cells #[.slice none 0 0,.int .i64 0,.slice none 0 0,.slice none 0 0] 43)).cell 0),(by simpa using ((Lc.out.below hbx).alloc (.cells #[.slice none 0 0,.int .i64 0,.slice none 0 0,.slice none 0 0] 43)).cell 1)⟩ (fun _=>?_)
   clear hK K
   have hfin:=hcont (.slice X0 n0 x0,wc.heap.size) _ ⟨Kd.dA hRl (.cells #[.slice none 0 0,.int .i64 0,.slice none 0 0,.slice none 0 0] 43),aR.new wc [.slice none 0 0,.int .i64 0,.slice none 0 0,.slice none 0 0] 43,hbx.size,ae hbx (.cells #[.slice none 0 0,.int .i64 0,.slice none 0 0,.slice none 0 0] 43)⟩
   refine bF ?_ hfin
   (simp only[cB,Act.put,List.setIfInBounds_toArray,List.set_cons_zero,List.set_cons_succ])<;>rfl
  .refine dV (w1:=?_) (v:=?_) (by rfl) rfl ?_ ?_
   rotate_left 2
   .go_simp
    constructor<;>rfl
   refine hK.out _ _ ⟨(by simpa using (Lc.out.alloc (.cells #[.slice none 0 0,.int .i64 0,.slice none 0 0,.slice none 0 0] 43)).cell 0),(by simpa using (Lc.out.alloc (.cells #[.slice none 0 0,.int .i64 0,.slice none 0 0,.slice none 0 0] 43)).cell 1)⟩ (fun _=>?_)
   clear hK K
   have BL:=aa.mk (aR.new wd [.slice none 0 0,.int .i64 0,.slice none 0 0,.slice none 0 0] 43)
   have Us:=aa.mk (Lc.out.alloc (.cells #[.slice none 0 0,.int .i64 0,.slice none 0 0,.slice none 0 0] 43))
   have hBa:=ae (Below.refl wd.heap.size wd) (.cells #[.slice none 0 0,.int .i64 0,.slice none 0 0,.slice none 0 0] 43)
   refine bF (by simp only[Act.put,List.setIfInBounds_toArray,List.set_cons_zero,List.set_cons_succ];rfl) ?_
   generalize wd.alloc (.cells #[.slice none 0 0,.int .i64 0,.slice none 0 0,.slice none 0 0] 43)=wa at BL Us hBa ⊢
   refine iC (i:=2) (N:=some 9) #[I,I,I,I,I,O,I,O] rfl rfl (aN aC.out (by kernel_rfl)) (by decide) (fun K hK=>?_)
   refine fD Tryz.func38 (by kernel_rfl) rfl #[.slice A0 old.length c0] (by rfl) rfl rfl (by(try simp only[List.map_toArray,List.map_cons,List.map_nil]);rfl) ?_
   refine(vN wa (Kd.aK K0.out (qV.out.trans (hBa.mono qV.out.size))) ho).mono ?_
   rintro e_ wc ⟨v_,rfl,hRl,hbx⟩
   obtain⟨X0,n0,x0,rfl⟩:=iN hRl
   refine⟨_,rfl,hK.out _ _ ⟨(by simpa using (Us.out.below hbx).cell 0),(by simpa using (Us.out.below hbx).cell 1)⟩ (fun _=>?_)⟩
   clear hK K
   refine bF (by simp only[Act.put,List.setIfInBounds_toArray,List.set_cons_zero,List.set_cons_succ];rfl) ?_
   refine bI 5 12 #[I,I,I,I,I,I,I,O] aC (h:=?_)
   have hfin:=hcont (.slice X0 n0 x0,wd.heap.size) _ ⟨Kd.jD hRl hBa.size,BL.out.below hbx,Nat.le_refl _,hBa.trans (hbx.mono hBa.size)⟩
   refine bF ?_ hfin
   (simp only[cB,Act.put,List.setIfInBounds_toArray,List.set_cons_zero,List.set_cons_succ])<;>rfl
 rintro⟨v0,b3⟩ w6 ⟨hr0,hb3,hlo,UB⟩
 dsimp only at hr0 hb3 hlo
 refine bF (by simp only[cB,Act.put,List.setIfInBounds_toArray,List.set_cons_zero,List.set_cons_succ];rfl) ?_
 have hR0:=aa.mk (Kd.lL hr0 hb3 (by decide))
 have B16:=aa.mk (Lc.out.below UB)
 have YZ:=aa.mk (B2d.out.below UB)
 have O8:=aa.mk hb3
 have IG:=aa.mk (qV.out.trans (UB.mono qV.out.size))
 obtain⟨X0,n0,x0,rfl⟩:=iN hr0
 have hl3:=hb3.lt
 have hlw:w.heap.size+1<b3:=by omega
 clear hr0 hb3 UB Lc B2d qV hHeld
 refine dW (i:=7) (N:=none) #[I,I,I,I,I,I,I,I] rfl rfl (aN aC.out (by kernel_rfl)) (by decide) (fun K hK=>?_)
 have eB:=(show w6.cell? ⟨b3,0,none⟩=some (.slice none 0 0) by simpa using O8.out.cell 0)
 have gP:=O8.out.frozen 0
 have Kh:w6.cell? ⟨b3,1,none⟩=some (.int .i64 0):=by simpa using O8.out.cell 1
 have rH:w6.cell? ⟨b3,2,none⟩=some (.slice none 0 0):=by simpa using O8.out.cell 2
 have acP:w6.cell? ⟨b3,3,none⟩=some (.slice none 0 0):=by simpa using O8.out.cell 3
 have Km:w6.frozen? ⟨b3,1,none⟩=false:=O8.out.frozen 1
 have rM:w6.frozen? ⟨b3,2,none⟩=false:=O8.out.frozen 2
 have adr:w6.frozen? ⟨b3,3,none⟩=false:=O8.out.frozen 3
 refine ib (w1:=?_) (by rfl) rfl ?_ ?_
 rotate_left
 .go_simp
  rfl
 refine hK.out _ _ ?_
 clear hK K eB gP Kh Km rH rM acP adr
 refine fF (bQ aC.out (by kernel_rfl)) ?_
 have B3L:=aa.mk (show aR _ b3 [.slice X0 n0 x0,.int .i64 nw,.slice none 0 0,.slice none 0 0] _ from bM (bM (bM (bM O8.out 0 (.slice X0 n0 x0)) 1 (.int .i64 nw)) 2 (.slice none 0 0)) 3 (.slice none 0 0))
 have NS:=aa.mk (((((bq.refl w6.heap.size (fun b=>b=b3) w6).setCell (p:=⟨b3,0,none⟩) (.inl rfl) (.slice X0 n0 x0)).setCell (p:=⟨b3,1,none⟩) (.inl rfl) (.int .i64 nw)).setCell (p:=⟨b3,2,none⟩) (.inl rfl) (.slice none 0 0)).setCell (p:=⟨b3,3,none⟩) (.inl rfl) (.slice none 0 0))
 have hsL:w6.heap.size=((((w6.setCell ⟨b3,0,none⟩ (.slice X0 n0 x0)).setCell ⟨b3,1,none⟩ (.int .i64 nw)).setCell ⟨b3,2,none⟩ (.slice none 0 0)).setCell ⟨b3,3,none⟩ (.slice none 0 0)).heap.size:=by simp only[size_set]
 clear O8 aC bW
 generalize(((w6.setCell ⟨b3,0,none⟩ (.slice X0 n0 x0)).setCell ⟨b3,1,none⟩ (.int .i64 nw)).setCell ⟨b3,2,none⟩ (.slice none 0 0)).setCell ⟨b3,3,none⟩ (.slice none 0 0)=wL at B3L NS hsL ⊢
 have B1L:=aa.mk (B16.out.move (NS.out.block _ (by omega) (by omega)))
 have B2L:=aa.mk (YZ.out.move (NS.out.block _ (by omega) (by omega)))
 have adN:=aa.mk (Kd.fJ hR0.out (fun k hk hlt=>NS.out.block k hlt (by simpa using hk)))
 have YN:=aa.mk (show Below w.heap.size w wL from⟨NS.out.os.trans IG.out.os,NS.out.tape.trans IG.out.tape,NS.out.output.trans IG.out.output,Nat.le_trans IG.out.size NS.out.size,fun k hk=>(NS.out.block k (by omega) (by omega)).trans (IG.out.block k hk)⟩)
 have ajx:b3<wL.heap.size:=by omega
 have hwL:w.heap.size<=wL.heap.size:=by omega
 clear NS hsL B16 YZ hR0 IG hl3 hsd hs0 hlo
 have hlo:w.heap.size+1<b3:=hlw
 clear hlw
 go_wp2_with fail
 go_loopw [4] (fun v4 wr=>∃(k:Nat) (v2:Value),k<=rs.length/\v4= .int .i64 k/\wL.heap.size<=wr.heap.size/\aa (bq wL.heap.size (fun b=>b=b3) wL wr)/\aa (aR wr b3 [.slice X0 n0 x0,.int .i64 nw,v2,.slice none 0 0] 43)/\aa (uB.R 105 wr wL.heap.size (fun b=>wL.heap.size<=b) v2 ((rs.take k).map IY))) (fun v4 _=>rs.length-(intOf v4).toNat)
 case atStart=>exact⟨0,.slice none 0 0,Nat.zero_le _,rfl,Nat.le_refl _,⟨bq.refl _ _ _⟩,B3L,⟨Kd.jL _ _ _ _ _⟩⟩
 case round=>
  clear B3L
  obtain⟨k,v2,hk,rfl,oH,HK,B3,HR⟩:=hrel
  have B1:=aa.mk (B1L.out.move (HK.out.block _ (by omega) (by omega)))
  have h12:=B1.out.cell 2
  simp only[List.getElem?_cons_zero,List.getElem?_cons_succ] at h12
  have BV:=aa.mk (show Below w.heap.size w wr from⟨HK.out.os.trans YN.out.os,HK.out.tape.trans YN.out.tape,HK.out.output.trans YN.out.output,Nat.le_trans YN.out.size HK.out.size,fun k hk=>(HK.out.block k (by omega) (by omega)).trans (YN.out.block k hk)⟩)
  by_cases hkl:k<rs.length
  .obtain⟨ad,e,hq0,hq1,hq2,hq3,hq4⟩:=ou (Kd.aK K2.out BV.out) (k:Int) (by omega) (by omega)
   cases e
   simp only[Int.toNat_natCast] at hq0 hq1 hq2 hq3 hq4
   have hkI:(k:Int)<rs.length:=by omega
   obtain⟨x,hx⟩:∃x,bf rs (k:Int)=x:=⟨_,rfl⟩
   rw[hx] at hq0 hq1 hq2 hq3 hq4
   have HTK:=aa.mk (show(rs.take (k+1)).map IY=(rs.take k).map IY++[IY x] by
    rw[List.take_succ_eq_append_getElem hkl,List.map_append,<- hx]
    simp[bf,List.getD,hkl])
   have I6:=aa.mk (show((rs.take k).map IY).length<=1000 by rw[List.length_map,List.length_take];omega)
   clear hx
   go_wp2_with fail
   have XG:=aa.mk (B3.out.alloc (.cells #[.int .i64 x.f0,.int .i64 x.f1,.int .i64 x.f2,.int .i64 x.f3.f0,.int .i64 x.f3.f1] 36))
   have XE:=aa.mk (aR.new wr [.int .i64 x.f0,.int .i64 x.f1,.int .i64 x.f2,.int .i64 x.f3.f0,.int .i64 x.f3.f1] 36)
   have Xq:=aa.mk (HK.out.alloc oH (.cells #[.int .i64 x.f0,.int .i64 x.f1,.int .i64 x.f2,.int .i64 x.f3.f0,.int .i64 x.f3.f1] 36))
   have HRa:=aa.mk (Kd.dA HR.out (.cells #[.int .i64 x.f0,.int .i64 x.f1,.int .i64 x.f2,.int .i64 x.f3.f0,.int .i64 x.f3.f1] 36))
   have hsa:=Nat.le_trans oH (Nat.le_of_lt (size_alloc wr (.cells #[.int .i64 x.f0,.int .i64 x.f1,.int .i64 x.f2,.int .i64 x.f3.f0,.int .i64 x.f3.f1] 36)))
   clear B3 HK HR oH h12 hq0 hq1 hq2 hq3 hq4 B1 BV
   generalize wr.alloc (.cells #[.int .i64 x.f0,.int .i64 x.f1,.int .i64 x.f2,.int .i64 x.f3.f0,.int .i64 x.f3.f1] 36)=wa at XG XE Xq HRa hsa ⊢
   generalize wr.heap.size=b5 at XE ⊢
   refine gz (n:=16) (S:=fun w'=>w'.cell? ⟨b3,2,none⟩=some v2/\w'.cell? ⟨b5,0,none⟩=some (.int .i64 x.f0)/\w'.cell? ⟨b5,1,none⟩=some (.int .i64 x.f1)/\w'.cell? ⟨b5,2,none⟩=some (.int .i64 x.f2)/\w'.cell? ⟨b5,3,none⟩=some (.int .i64 x.f3.f0)/\w'.cell? ⟨b5,4,none⟩=some (.int .i64 x.f3.f1)) (ds:=[13,15]) #[O,O,O,O,O,O,O,O,O,O,O,O,O,O,O,O] (by kernel_rfl) rfl rfl ⟨(by simpa using (XG.out).cell 2),(by simpa using (XE.out).cell 0),(by simpa using (XE.out).cell 1),(by simpa using (XE.out).cell 2),(by simpa using (XE.out).cell 3),(by simpa using (XE.out).cell 4)⟩ (fun hHeld=>?_);refine bK mp.Zb mp.Tm (fun aC bW=>?_)
   have uf:=aa.mk (XG.out.move rfl:aR wa.drew _ _ _)
   have IP:=aa.mk (XE.out.move rfl:aR wa.drew _ _ _)
   have NR:=aa.mk Xq.out.drew
   have Bv:=aa.mk (Kd.fE HRa.out)
   have hsd:wL.heap.size<=wa.drew.heap.size:=hsa
   clear XG XE Xq HRa hsa
   generalize wa.drew=wd1 at uf IP NR Bv hsd hHeld ⊢
   refine bI 0 25 #[I,O,O,O,O,O,O,O,O,O,O,O,O,O,O,O] aC (h:=?_)
   refine eP 1 26 #[I,I,O,O,O,O,O,O,O,O,O,O,O,O,O,O] aC bW hHeld (hy:=by(rintro w' ⟨s0,s1,s2,s3,s4,s5⟩;go_simp;with_reducible rfl)) (h:=?_)
   refine bI 2 27 #[I,I,I,O,O,O,O,O,O,O,O,O,O,O,O,O] aC (h:=?_)
   refine eP 3 28 #[I,I,I,I,O,O,O,O,O,O,O,O,O,O,O,O] aC bW hHeld (hy:=by(rintro w' ⟨s0,s1,s2,s3,s4,s5⟩;go_simp;with_reducible rfl)) (h:=?_)
   refine bI 4 29 #[I,I,I,I,I,O,O,O,O,O,O,O,O,O,O,O] aC (h:=?_)
   refine eP 5 30 #[I,I,I,I,I,I,O,O,O,O,O,O,O,O,O,O] aC bW hHeld (hy:=by(rintro w' ⟨s0,s1,s2,s3,s4,s5⟩;go_simp;with_reducible rfl)) (h:=?_)
   refine bI 6 31 #[I,I,I,I,I,I,I,O,O,O,O,O,O,O,O,O] aC (h:=?_)
   refine eP 7 32 #[I,I,I,I,I,I,I,I,O,O,O,O,O,O,O,O] aC bW hHeld (hy:=by(rintro w' ⟨s0,s1,s2,s3,s4,s5⟩;go_simp;with_reducible rfl)) (h:=?_)
   refine bI 8 33 #[I,I,I,I,I,I,I,I,I,O,O,O,O,O,O,O] aC (h:=?_)
   refine eP 9 34 #[I,I,I,I,I,I,I,I,I,I,O,O,O,O,O,O] aC bW hHeld (hy:=by(rintro w' ⟨s0,s1,s2,s3,s4,s5⟩;go_simp;with_reducible rfl)) (h:=?_)
   refine iC (i:=10) (N:=some 35) #[I,I,I,I,I,I,I,I,I,I,I,O,O,O,O,O] rfl rfl (aN aC.out (by kernel_rfl)) (by decide) (fun K hK=>?_)
   refine fD Tryz.func39 (by kernel_rfl) rfl #[.agg #[.int .i64 x.f3.f0,.int .i64 x.f3.f1]] (by rfl) rfl rfl (by(try simp only[List.map_toArray,List.map_cons,List.map_nil]);rfl) ?_
   refine(Lu x.f3.f0 x.f3.f1 _).mono ?_
   rintro e_ w_ ⟨rfl,hbx⟩
   refine⟨_,rfl,hK.out _ _ ⟨(by simpa using (uf.out.below hbx).cell 2),(by simpa using (IP.out.below hbx).cell 0),(by simpa using (IP.out.below hbx).cell 1),(by simpa using (IP.out.below hbx).cell 2),(by simpa using (IP.out.below hbx).cell 3),(by simpa using (IP.out.below hbx).cell 4)⟩ (fun hHeld=>?_)⟩
   clear hK K
   have QV:=aa.mk (uf.out.below hbx)
   have Q6:=aa.mk (IP.out.below hbx)
   have HKe:=aa.mk (NR.out.trans (bq.of_below hbx hsd))
   have HRe:=aa.mk (Kd.fC Bv.out hbx)
   have hse:=Nat.le_trans hsd hbx.size
   clear hbx uf IP NR Bv hsd hHeld
   refine bF (by simp only[Act.put,List.setIfInBounds_toArray,List.set_cons_zero,List.set_cons_succ];rfl) ?_
   refine bI 11 36 #[I,I,I,I,I,I,I,I,I,I,I,I,O,O,O,O] aC (h:=?_)
   refine iC (i:=12) (N:=some 37) #[I,I,I,I,I,I,I,I,I,I,I,I,I,O,O,O] rfl rfl (aN aC.out (by kernel_rfl)) (by decide) (fun K hK=>?_)
   refine dV (w1:=?_) (v:=?_) (by rfl) rfl ?_ ?_
   rotate_left 2
   .go_simp
    constructor<;>rfl
   refine hK.out _ _ ⟨(by simpa using (QV.out.alloc (.cells #[.int .i64 x.f0,.int .i64 x.f1,.int .i64 x.f2,.int .i64 x.f3.f0,.int .i64 x.f3.f1] 105)).cell 2),(by simpa using (Q6.out.alloc (.cells #[.int .i64 x.f0,.int .i64 x.f1,.int .i64 x.f2,.int .i64 x.f3.f0,.int .i64 x.f3.f1] 105)).cell 0),(by simpa using (Q6.out.alloc (.cells #[.int .i64 x.f0,.int .i64 x.f1,.int .i64 x.f2,.int .i64 x.f3.f0,.int .i64 x.f3.f1] 105)).cell 1),(by simpa using (Q6.out.alloc (.cells #[.int .i64 x.f0,.int .i64 x.f1,.int .i64 x.f2,.int .i64 x.f3.f0,.int .i64 x.f3.f1] 105)).cell 2),(by simpa using (Q6.out.alloc (.cells #[.int .i64 x.f0,.int .i64 x.f1,.int .i64 x.f2,.int .i64 x.f3.f0,.int .i64 x.f3.f1] 105)).cell 3),(by simpa using (Q6.out.alloc (.cells #[.int .i64 x.f0,.int .i64 x.f1,.int .i64 x.f2,.int .i64 x.f3.f0,.int .i64 x.f3.f1] 105)).cell 4)⟩ (fun _=>?_)
   clear hK K Q6
   refine bF (by simp only[Act.put,List.setIfInBounds_toArray,List.set_cons_zero,List.set_cons_succ];rfl) ?_
   refine dW (i:=13) (N:=some 38) #[I,I,I,I,I,I,I,I,I,I,I,I,I,I,O,O] rfl rfl (aN aC.out (by kernel_rfl)) (by decide) (fun K hK=>?_)
   refine Kd.mI uB (w0:=w_) wL.heap.size (by rfl) (.tmp 26) (.tmp 37) 40 105 (.agg #[.int .i64 0,.int .i64 0,.int .i64 0,.int .i64 0,.int .i64 0]) 40 rfl Tryz.underlying40 MU rfl (by decide) (by omega) v2 ((rs.take k).map IY) (IY x) [.int .i64 x.f0,.int .i64 x.f1,.int .i64 x.f2,.int .i64 x.f3.f0,.int .i64 x.f3.f1] (fun b=>wL.heap.size<=b) (fun _=>False) rfl rfl (R8 _ _ _ (IY x)) (fun _ hk=>hk.elim) (fun b hb=>Nat.le_trans hse hb) HRe.out (Below.refl _ _) hse (by have:=I6.out;omega) ?_
   intro vn wn hon hbn hgn fP
   obtain⟨An,nn,cn,rfl⟩:=iN hon
   have uU:=aa.mk hon
   have O7:=aa.mk (QV.out.move (hbn.block _ ajx))
   have I7:=aa.mk (HKe.out.trans (bq.of_below hbn (Nat.le_refl _)))
   have hsn:=Nat.le_trans hse hbn.size
   clear hon hbn hgn fP QV HKe HRe hse
   refine hK.out _ _ ?_
   clear hK K
   refine bF (by simp only[Act.put,List.setIfInBounds_toArray,List.set_cons_zero,List.set_cons_succ];rfl) ?_
   refine bI 14 39 #[I,I,I,I,I,I,I,I,I,I,I,I,I,I,I,O] aC (h:=?_)
   refine dW (i:=15) (N:=none) #[I,I,I,I,I,I,I,I,I,I,I,I,I,I,I,I] rfl rfl (aN aC.out (by kernel_rfl)) (by decide) (fun K hK=>?_)
   have eB:=(show wn.cell? ⟨b3,2,none⟩=some v2 by simpa using O7.out.cell 2)
   have gP:=O7.out.frozen 2
   refine ib (w1:=?_) (by rfl) rfl ?_ ?_
   rotate_left
   .go_simp
    rfl
   refine hK.out _ _ ?_
   clear hK K eB gP
   have YY:=aa.mk (show aR _ b3 [.slice X0 n0 x0,.int .i64 nw,.slice An nn cn,.slice none 0 0] _ from bM O7.out 2 (.slice An nn cn))
   have Q4:=aa.mk (I7.out.setCell (p:=⟨b3,2,none⟩) (.inl rfl) (.slice An nn cn))
   have YC:=aa.mk (Kd.iX uU.out (p:=⟨b3,2,none⟩) (fun b hb=>by simp only;omega) (.slice An nn cn))
   have hsz:wL.heap.size<=(wn.setCell ⟨b3,2,none⟩ (.slice An nn cn)).heap.size:=by rw[size_set];exact hsn
   clear O7 I7 uU hsn
   generalize wn.setCell ⟨b3,2,none⟩ (.slice An nn cn)=wz at YY Q4 YC hsz ⊢
   refine fF (bQ aC.out (by kernel_rfl)) ?_
   go_wp2_with fail
   exact⟨⟨k+1,.slice An nn cn,by omega,by go_num,hsz,Q4,YY,⟨by rw[HTK.out];exact YC.out⟩⟩,by simp[intOf];omega⟩
  .obtain rfl:k=rs.length:=by omega
   rw[List.take_length,TW.out] at HR
   obtain⟨Y0,m0,y0,rfl⟩:=iN HR.out
   have adM:=aa.mk (Kd.fJ adN.out (fun k hk hlt=>HK.out.block k hlt (by simpa using hk)))
   have adL:=aa.mk (Kd.lL HR.out B3.out (by decide))
   have B2M:=aa.mk (B2L.out.move (HK.out.block _ (by omega) (by omega)))
   go_wp2_with fail
   clear HK HR adN B2L YN B1L h12
   have ac9:b3<wr.heap.size:=by omega
   have hwM:w.heap.size<=wr.heap.size:=by omega
   rename_i wL_
   have B3M:=B3
   clear B3
   generalize ai2:wr=wM at B3M B1 B2M adM adL BV ac9 hwM oH ⊢
   clear ai2
   go_loopw [6] (fun v6 wr=>∃(k:Nat) (v3:Value),k<=rj.length/\v6= .int .i64 k/\wM.heap.size<=wr.heap.size/\aa (bq wM.heap.size (fun b=>b=b3) wM wr)/\aa (aR wr b3 [.slice X0 n0 x0,.int .i64 nw,.slice Y0 m0 y0,v3] 43)/\aa (Cv.R 115 wr wM.heap.size (fun b=>wM.heap.size<=b) v3 ((rj.take k).map uO))) (fun v6 _=>rj.length-(intOf v6).toNat)
   case atStart=>exact⟨0,.slice none 0 0,Nat.zero_le _,rfl,Nat.le_refl _,⟨bq.refl _ _ _⟩,B3M,⟨Kd.jL _ _ _ _ _⟩⟩
   case round=>
    clear B3M oH
    obtain⟨k,v3,hk,rfl,oH,HK,B3,HR⟩:=hrel
    have B1r:=aa.mk (B1.out.move (HK.out.block _ (by omega) (by omega)))
    have mg:=B1r.out.cell 3
    simp only[List.getElem?_cons_zero,List.getElem?_cons_succ] at mg
    have abB:=aa.mk (show Below w.heap.size w wr from⟨HK.out.os.trans BV.out.os,HK.out.tape.trans BV.out.tape,HK.out.output.trans BV.out.output,Nat.le_trans BV.out.size HK.out.size,fun k hk=>(HK.out.block k (by omega) (by omega)).trans (BV.out.block k hk)⟩)
    by_cases hkl:k<rj.length
    .obtain⟨ad,e,hq0,hq1⟩:=yB (Kd.aK K3.out abB.out) (k:Int) (by omega) (by omega)
     cases e
     simp only[Int.toNat_natCast] at hq0 hq1
     have hkI:(k:Int)<rj.length:=by omega
     obtain⟨x,hx⟩:∃x,aZ rj (k:Int)=x:=⟨_,rfl⟩
     rw[hx] at hq0 hq1
     have HTK:=aa.mk (show(rj.take (k+1)).map uO=(rj.take k).map uO++[uO x] by
      rw[List.take_succ_eq_append_getElem hkl,List.map_append,<- hx]
      simp[aZ,List.getD,hkl])
     have I6:=aa.mk (show((rj.take k).map uO).length<=1000 by rw[List.length_map,List.length_take];omega)
     clear hx B1r abB
     go_wp2_with fail
     refine gz (n:=19) (S:=fun w'=>w'.cell? ⟨b3,3,none⟩=some v3/\w'.cell? ⟨w.heap.size,3,none⟩=some (.slice (some ad) rj.length c3)/\w'.cell? (ad.add (k*2))=some (.int .i64 x.f0)/\w'.cell? ⟨(ad.add (k*2)).block,(ad.add (k*2)).off+1,none⟩=some (.int .i64 x.f1)) (ds:=[16,18]) #[O,O,O,O,O,O,O,O,O,O,O,O,O,O,O,O,O,O,O] (by kernel_rfl) rfl rfl ⟨(by simpa using B3.out.cell 3),mg,hq0,hq1⟩ (fun hHeld=>?_);refine bK mp.yE mp.rU (fun aC bW=>?_)
     have uf:=aa.mk (B3.out.move rfl:aR wr.drew _ _ _)
     have NR:=aa.mk HK.out.drew
     have Bv:=aa.mk (Kd.fE HR.out)
     have hsd:wM.heap.size<=wr.drew.heap.size:=oH
     clear B3 HK HR oH mg hq0 hq1
     generalize wr.drew=wd1 at uf NR Bv hsd hHeld ⊢
     refine bI 0 47 #[I,O,O,O,O,O,O,O,O,O,O,O,O,O,O,O,O,O,O] aC (h:=?_)
     refine eP 1 48 #[I,I,O,O,O,O,O,O,O,O,O,O,O,O,O,O,O,O,O] aC bW hHeld (hy:=by(rintro w' ⟨s0,s1,s2,s3⟩;go_simp;with_reducible rfl)) (h:=?_)
     refine bI 2 49 #[I,I,I,O,O,O,O,O,O,O,O,O,O,O,O,O,O,O,O] aC (h:=?_)
     refine eP 3 50 #[I,I,I,I,O,O,O,O,O,O,O,O,O,O,O,O,O,O,O] aC bW hHeld (hy:=by(rintro w' ⟨s0,s1,s2,s3⟩;go_simp;with_reducible rfl)) (h:=?_)
     refine bI 4 51 #[I,I,I,I,I,O,O,O,O,O,O,O,O,O,O,O,O,O,O] aC (h:=?_)
     refine bI 5 52 #[I,I,I,I,I,I,O,O,O,O,O,O,O,O,O,O,O,O,O] aC (h:=?_)
     refine bI 6 53 #[I,I,I,I,I,I,I,O,O,O,O,O,O,O,O,O,O,O,O] aC (h:=?_)
     refine eP 7 54 #[I,I,I,I,I,I,I,I,O,O,O,O,O,O,O,O,O,O,O] aC bW hHeld (hy:=by(rintro w' ⟨s0,s1,s2,s3⟩;go_simp;with_reducible rfl)) (h:=?_)
     refine bI 8 55 #[I,I,I,I,I,I,I,I,I,O,O,O,O,O,O,O,O,O,O] aC (h:=?_)
     refine eP 9 56 #[I,I,I,I,I,I,I,I,I,I,O,O,O,O,O,O,O,O,O] aC bW hHeld (hy:=by(rintro w' ⟨s0,s1,s2,s3⟩;go_simp;with_reducible rfl)) (h:=?_)
     refine bI 10 57 #[I,I,I,I,I,I,I,I,I,I,I,O,O,O,O,O,O,O,O] aC (h:=?_)
     refine bI 11 58 #[I,I,I,I,I,I,I,I,I,I,I,I,O,O,O,O,O,O,O] aC (h:=?_)
     refine bI 12 59 #[I,I,I,I,I,I,I,I,I,I,I,I,I,O,O,O,O,O,O] aC (h:=?_)
     refine eP 13 60 #[I,I,I,I,I,I,I,I,I,I,I,I,I,I,O,O,O,O,O] aC bW hHeld (hy:=by(rintro w' ⟨s0,s1,s2,s3⟩;go_simp;with_reducible rfl)) (h:=?_)
     refine bI 14 61 #[I,I,I,I,I,I,I,I,I,I,I,I,I,I,I,O,O,O,O] aC (h:=?_)
     refine iC (i:=15) (N:=some 62) #[I,I,I,I,I,I,I,I,I,I,I,I,I,I,I,I,O,O,O] rfl rfl (aN aC.out (by kernel_rfl)) (by decide) (fun K hK=>?_)
     refine dV (w1:=?_) (v:=?_) (by rfl) rfl ?_ ?_
     rotate_left 2
     .go_simp
      constructor<;>rfl
     refine hK.out _ _ ⟨((ae (Below.refl _ _) (.cells #[.int .i64 x.f0,.int .i64 x.f1] 115)).cell (World.block_lt_of_cell? _ _ hHeld.1)).trans hHeld.1,((ae (Below.refl _ _) (.cells #[.int .i64 x.f0,.int .i64 x.f1] 115)).cell (World.block_lt_of_cell? _ _ hHeld.2.1)).trans hHeld.2.1,((ae (Below.refl _ _) (.cells #[.int .i64 x.f0,.int .i64 x.f1] 115)).cell (World.block_lt_of_cell? _ _ hHeld.2.2.1)).trans hHeld.2.2.1,((ae (Below.refl _ _) (.cells #[.int .i64 x.f0,.int .i64 x.f1] 115)).cell (World.block_lt_of_cell? _ _ hHeld.2.2.2)).trans hHeld.2.2.2⟩ (fun _=>?_)
     clear hK K
     refine bF (by simp only[Act.put,List.setIfInBounds_toArray,List.set_cons_zero,List.set_cons_succ];rfl) ?_
     refine dW (i:=16) (N:=some 63) #[I,I,I,I,I,I,I,I,I,I,I,I,I,I,I,I,I,O,O] rfl rfl (aN aC.out (by kernel_rfl)) (by decide) (fun K hK=>?_)
     refine Kd.mI Cv (w0:=wd1) wM.heap.size (by rfl) (.tmp 48) (.tmp 62) 41 115 (.agg #[.int .i64 0,.int .i64 0]) 16 rfl Tryz.underlying41 Sc rfl (by decide) (by omega) v3 ((rj.take k).map uO) (uO x) [.int .i64 x.f0,.int .i64 x.f1] (fun b=>wM.heap.size<=b) (fun _=>False) rfl rfl (R7 _ _ _ (uO x)) (fun _ hk=>hk.elim) (fun b hb=>Nat.le_trans hsd hb) Bv.out (Below.refl _ _) hsd (by have:=I6.out;omega) ?_
     intro vn wn hon hbn hgn fP
     obtain⟨An,nn,cn,rfl⟩:=iN hon
     have uU:=aa.mk hon
     have O7:=aa.mk (uf.out.move (hbn.block _ ac9))
     have I7:=aa.mk (NR.out.trans (bq.of_below hbn (Nat.le_refl _)))
     have hsn:=Nat.le_trans hsd hbn.size
     clear hon hbn hgn fP uf NR Bv hsd
     refine hK.out _ _ ?_
     clear hK K
     refine bF (by simp only[Act.put,List.setIfInBounds_toArray,List.set_cons_zero,List.set_cons_succ];rfl) ?_
     refine bI 17 64 #[I,I,I,I,I,I,I,I,I,I,I,I,I,I,I,I,I,I,O] aC (h:=?_)
     refine dW (i:=18) (N:=none) #[I,I,I,I,I,I,I,I,I,I,I,I,I,I,I,I,I,I,I] rfl rfl (aN aC.out (by kernel_rfl)) (by decide) (fun K hK=>?_)
     have eB:=(show wn.cell? ⟨b3,3,none⟩=some v3 by simpa using O7.out.cell 3)
     have gP:=O7.out.frozen 3
     refine ib (w1:=?_) (by rfl) rfl ?_ ?_
     rotate_left
     .go_simp
      rfl
     refine hK.out _ _ ?_
     clear hK K eB gP
     have YY:=aa.mk (show aR _ b3 [.slice X0 n0 x0,.int .i64 nw,.slice Y0 m0 y0,.slice An nn cn] _ from bM O7.out 3 (.slice An nn cn))
     have Q4:=aa.mk (I7.out.setCell (p:=⟨b3,3,none⟩) (.inl rfl) (.slice An nn cn))
     have YC:=aa.mk (Kd.iX uU.out (p:=⟨b3,3,none⟩) (fun b hb=>by simp only;omega) (.slice An nn cn))
     have hsz:wM.heap.size<=(wn.setCell ⟨b3,3,none⟩ (.slice An nn cn)).heap.size:=by rw[size_set];exact hsn
     clear O7 I7 uU hsn
     generalize wn.setCell ⟨b3,3,none⟩ (.slice An nn cn)=wz at YY Q4 YC hsz ⊢
     refine fF (bQ aC.out (by kernel_rfl)) ?_
     go_wp2_with fail
     exact⟨⟨k+1,.slice An nn cn,by omega,by go_num,hsz,Q4,YY,⟨by rw[HTK.out];exact YC.out⟩⟩,by simp[intOf];omega⟩
    .obtain rfl:k=rj.length:=by omega
     rw[List.take_length,HJS.out] at HR
     obtain⟨Z0,Y4,zc,rfl⟩:=iN HR.out
     have aj4:=aa.mk (Kd.fJ adM.out (fun k hk hlt=>HK.out.block k hlt (by simpa using hk)))
     have aj3:=aa.mk (Kd.fJ adL.out (fun k hk hlt=>HK.out.block k hlt (by simpa using hk.2)))
     have Q8:=aa.mk (B2M.out.move (HK.out.block _ (by omega) (by omega)))
     have kQ:=B3.out.cell 0
     have h31:=B3.out.cell 1
     have h32:=B3.out.cell 2
     have CB:=B3.out.cell 3
     have h20:=Q8.out.cell 0
     have h21:=Q8.out.cell 1
     have h22:=Q8.out.cell 2
     have h23:=Q8.out.cell 3
     have f20:=Q8.out.frozen 0
     have f21:=Q8.out.frozen 1
     have f22:=Q8.out.frozen 2
     have f23:=Q8.out.frozen 3
     simp only[List.getElem?_cons_zero,List.getElem?_cons_succ] at kQ h31 h32 CB h20 h21 h22 h23
     have BF:=aa.mk (show aR _ (w.heap.size+1) [.slice X0 n0 x0,.int .i64 nw,.slice Y0 m0 y0,.slice Z0 Y4 zc] _ from bM (bM (bM (bM Q8.out 0 (.slice X0 n0 x0)) 1 (.int .i64 nw)) 2 (.slice Y0 m0 y0)) 3 (.slice Z0 Y4 zc))
     have G0:=aa.mk (Kd.iX (Kd.iX (Kd.iX (Kd.iX (Kd.lL aj4.out Q8.out (by decide)) (p:=⟨w.heap.size+1,0,none⟩) (fun _ hk=>hk.2) (.slice X0 n0 x0)) (p:=⟨w.heap.size+1,1,none⟩) (fun _ hk=>hk.2) (.int .i64 nw)) (p:=⟨w.heap.size+1,2,none⟩) (fun _ hk=>hk.2) (.slice Y0 m0 y0)) (p:=⟨w.heap.size+1,3,none⟩) (fun _ hk=>hk.2) (.slice Z0 Y4 zc))
     have G2:=aa.mk (Kd.iX (Kd.iX (Kd.iX (Kd.iX (Kd.lL aj3.out Q8.out (by decide)) (p:=⟨w.heap.size+1,0,none⟩) (fun _ hk=>hk.2) (.slice X0 n0 x0)) (p:=⟨w.heap.size+1,1,none⟩) (fun _ hk=>hk.2) (.int .i64 nw)) (p:=⟨w.heap.size+1,2,none⟩) (fun _ hk=>hk.2) (.slice Y0 m0 y0)) (p:=⟨w.heap.size+1,3,none⟩) (fun _ hk=>hk.2) (.slice Z0 Y4 zc))
     have G3:=aa.mk (Kd.iX (Kd.iX (Kd.iX (Kd.iX (Kd.lL HR.out Q8.out (by decide)) (p:=⟨w.heap.size+1,0,none⟩) (fun _ hk=>hk.2) (.slice X0 n0 x0)) (p:=⟨w.heap.size+1,1,none⟩) (fun _ hk=>hk.2) (.int .i64 nw)) (p:=⟨w.heap.size+1,2,none⟩) (fun _ hk=>hk.2) (.slice Y0 m0 y0)) (p:=⟨w.heap.size+1,3,none⟩) (fun _ hk=>hk.2) (.slice Z0 Y4 zc))
     have xM:=aa.mk ((((abB.out.setCell (p:=⟨w.heap.size+1,0,none⟩) (by simp only;omega) (.slice X0 n0 x0)).setCell (p:=⟨w.heap.size+1,1,none⟩) (by simp only;omega) (.int .i64 nw)).setCell (p:=⟨w.heap.size+1,2,none⟩) (by simp only;omega) (.slice Y0 m0 y0)).setCell (p:=⟨w.heap.size+1,3,none⟩) (by simp only;omega) (.slice Z0 Y4 zc))
     go_wp2_with fail
     generalize((((wr.setCell ⟨w.heap.size+1,0,none⟩ (.slice X0 n0 x0)).setCell ⟨w.heap.size+1,1,none⟩ (.int .i64 nw)).setCell ⟨w.heap.size+1,2,none⟩ (.slice Y0 m0 y0)).setCell ⟨w.heap.size+1,3,none⟩ (.slice Z0 Y4 zc))=wf at BF G0 G2 G3 xM ⊢
     obtain⟨B0',d0',e0,hd0,hC0⟩:=Kd.dU G0.out
     obtain⟨rfl,rfl,rfl⟩:=slice_inj e0
     obtain⟨B2',d2',e2,hd2,hC2⟩:=Kd.dU G2.out
     obtain⟨rfl,rfl,rfl⟩:=slice_inj e2
     obtain⟨B3',d3',e3,hd3,Yc⟩:=Kd.dU G3.out
     obtain⟨rfl,rfl,rfl⟩:=slice_inj e3
     refine bodyPost_ret (results_cell_row rfl _ _ (w.heap.size+1) 43 #[.slice X0 old.length x0,.int .i64 nw,.slice Y0 ss.length y0,.slice Z0 js.length zc] (0,0) _ rfl BF.out Tryz.underlying43 rfl (by kernel_rfl)) rfl ?_
     have hsl:ss.length<=1000:=by rw[<- TW.out,List.length_map];exact hs
     have hjl:js.length<=1000:=by rw[<- HJS.out,List.length_map];exact hj
     exact⟨⟨X0,x0,Y0,y0,Z0,zc,rfl,⟨hC0,hd0,hC2,hd2,Yc,hd3,by omega,by omega,by omega⟩,⟨⟨_,Kd.cK G0.out (fun _ _=>trivial)⟩,⟨_,Kd.cK G2.out (fun _ _=>trivial)⟩,⟨_,Kd.cK G3.out (fun _ _=>trivial)⟩⟩⟩,xM.out⟩
end Go.Proofs.YtkjoilgpmngndaaGreat
