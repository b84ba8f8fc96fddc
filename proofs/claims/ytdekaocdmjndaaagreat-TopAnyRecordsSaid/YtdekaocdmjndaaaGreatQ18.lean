import Derived.Test.YtdekaocdmjndaaaGreatQ17
set_option maxRecDepth 100000
set_option linter.all false
namespace Go.Proofs.YtdekaocdmjndaaaGreat
open Go.RowKit Go.Shelf ah YtdekaocdmjndaaaGreatW.aj YtdekaocdmjndaaaGreatW.aH Ag
attribute [local go_sem] Oper.semAt_some
def Dc.T2:Bool×List (List Nat×List Nat):=(true,[([],[]),([0],[0]),([1],[1]),([2],[2]),([],[]),([4],[4]),([5],[5]),([6],[6]),([3,7],[3,7]),([],[]),([9],[9]),([10],[10]),([11],[11]),([],[]),([13],[13]),([14],[14]),([15],[15]),([12,16],[12,16]),([17],[17]),([8,18,0,1,2,3,4,5,6,7,8],[8]),([18,19,0,1,2,3,4,5,6,7,8,9,10,11,12,13,14,15,16,17,18,19],[18])])
def Dc.B2:List Nat:=[0,1,3,7,0,16,48,112,255,0,512,1536,3584,0,8192,24576,57344,130560,261632,524287,1048575]
theorem Dc.DW:eB .any (opsOf Tryz.f162 2)=Dc.T2:=by kernel_rfl
theorem Dc.xP:bI Dc.T2.2 Dc.B2=true:=by kernel_rfl
def Dc.T5:Bool×List (List Nat×List Nat):=(true,[([],[]),([0],[0]),([1],[1]),([2],[2]),([],[]),([4],[4]),([5],[5]),([6],[6]),([3,7],[3,7])])
def Dc.B5:List Nat:=[0,1,3,7,0,16,48,112,255]
theorem Dc.yV:eB .any (opsOf Tryz.f162 5)=Dc.T5:=by kernel_rfl
theorem Dc.rP:bI Dc.T5.2 Dc.B5=true:=by kernel_rfl
theorem zy:(Tryz.prog.info? 63).map (λi=>(i.zero,i.size,i.bytes))=some (some (.agg #[.int .i64 0,.int .i64 0]),2,16):=by kernel_rfl
def lenOf:Value->Nat
 | .slice _ n _=>n
 |_=>0
set_option maxHeartbeats 4000000 in
theorem zo{A B:Option Addr}{ca cb:Nat}(xs ys:List Rg)(w:World)(hx:nQ.C w A xs.length xs)(hy:nQ.C w B ys.length ys)(Vn:xs.length<=ca)(hcb:ys.length<=cb)(hl:xs.length+ys.length<=10000):
  Calls Tryz.prog 162 #[.slice A xs.length ca,.slice B ys.length cb] w λe w'=>∃v,e= .returned v/\nQ.R 63 w' w.heap.size (λ_=>True) v (iB xs ys)/\Below w.heap.size w w':=by
 have HX:=aa.mk hx
 have HY:=aa.mk hy
 clear hx hy
 go_enter Tryz.func162,Tryz.ntmps162
 go_wp2_with fail
 go_loopw [0,1,4] (λv0 v1 v4 wr=>∃(xs' ys' zs:List Rg) (A B:Option Addr) (ca cb:Nat),v0= .slice A xs'.length ca/\v1= .slice B ys'.length cb/\xs'.length<=ca/\ys'.length<=cb/\zs.length+xs'.length+ys'.length<=10000/\w.heap.size<=wr.heap.size/\aa (Below w.heap.size w wr)/\aa (nQ.C w A xs'.length xs')/\aa (nQ.C w B ys'.length ys')/\aa (nQ.R 63 wr w.heap.size (λ_=>True) v4 zs)/\aa (zs++iB xs' ys'=iB xs ys)) (λv0 v1 _ _=>lenOf v0+lenOf v1)
 case atStart=>exact⟨xs,ys,[],A,B,ca,cb,rfl,rfl,Vn,hcb,by simpa using hl,Nat.le_refl _,⟨Below.refl _ _⟩,HX,HY,⟨Kd.iH _ _ _ _ _⟩,⟨rfl⟩⟩
 case round=>
  clear HX HY Vn hcb hl
  obtain⟨xs',ys',zs,A,B,ca,cb,rfl,rfl,Vn,hcb,hl,hsz,HB,HX,HY,HR,HM⟩:=hrel
  cases xs' with
  |nil=>
   have HE:=aa.mk (show zs=iB xs ys by rw[<- HM.out,rf,List.append_nil])
   simp only[List.length_nil]
   go_wp2_with fail
   go_ret
   exact⟨_,rfl,by rw[<- HE.out];exact HR.out,HB.out⟩
  |cons x xs'=>
   cases ys' with
   |nil=>
    have HE:=aa.mk (show zs=iB xs ys by rw[<- HM.out,ry,List.append_nil])
    simp only[List.length_nil,List.length_cons]
    have hp:(0:Int)<((xs'.length+1:Nat):Int):=by omega
    go_wp2_with fail
    go_ret
    exact⟨_,rfl,by rw[<- HE.out];exact HR.out,HB.out⟩
   |cons y ys'=>
    obtain⟨ad,e1,hx0,hx1⟩:=kW (Kd.aC HX.out HB.out) 0 (by omega) (by simp)
    obtain⟨bd,e2,hy0,hy1⟩:=kW (Kd.aC HY.out HB.out) 0 (by omega) (by simp)
    have hr1:bS (x::xs') 0=x:=rfl
    have hr2:bS (y::ys') 0=y:=rfl
    rw[hr1] at hx0 hx1
    rw[hr2] at hy0 hy1
    cases e1
    cases e2
    simp only[show((0:Int)).toNat=0 from rfl,Nat.zero_mul,Addr.add_zero'] at hx0 hx1 hy0 hy1
    obtain⟨nx,hnx⟩:∃n,(x::xs').length=n:=⟨_,rfl⟩
    obtain⟨ny,hny⟩:∃n,(y::ys').length=n:=⟨_,rfl⟩
    have FL:=aa.mk hnx
    have JE:=aa.mk hny
    rw[hnx] at Vn hl HX ⊢
    rw[hny] at hcb hl HY ⊢
    have hpx:(0:Int)<(nx:Int):=by simp at hnx;omega
    have hpy:(0:Int)<(ny:Int):=by simp at hny;omega
    clear hnx hny hr1 hr2
    have HMC:=aa.mk (HM.out.symm.trans (by rw[pG]):iB xs ys=zs++(vU x y++if x.f1<y.f1 then iB xs' (y::ys') else iB (x::xs') ys'))
    clear HM
    obtain⟨x0,x1⟩:=x
    obtain⟨y0,y1⟩:=y
    simp only at hx0 hx1 hy0 hy1 HMC
    have HQ:=aa.mk (show ∀W,Below w.heap.size w W->W.cell? ad=some (.int .i64 x0)/\W.cell? ⟨ad.block,ad.off+1,none⟩=some (.int .i64 x1)/\W.cell? bd=some (.int .i64 y0)/\W.cell? ⟨bd.block,bd.off+1,none⟩=some (.int .i64 y1) from λW hW=>by
     obtain⟨ad',e1,hx0,hx1⟩:=kW (Kd.aC HX.out hW) 0 (by omega) hpx
     obtain⟨bd',e2,hy0,hy1⟩:=kW (Kd.aC HY.out hW) 0 (by omega) hpy
     cases e1
     cases e2
     simp only[show((0:Int)).toNat=0 from rfl,Nat.zero_mul,Addr.add_zero'] at hx0 hx1 hy0 hy1
     exact⟨hx0,hx1,hy0,hy1⟩)
    go_wp2_with fail
    refine fF (n:=21) (S:=λw'=>w'.cell? ad=some (.int .i64 x0)/\w'.cell? ⟨ad.block,ad.off+1,none⟩=some (.int .i64 x1)/\w'.cell? bd=some (.int .i64 y0)/\w'.cell? ⟨bd.block,bd.off+1,none⟩=some (.int .i64 y1)) (ds:=[]) #[O,O,O,O,O,O,O,O,O,O,O,O,O,O,O,O,O,O,O,O,O] (by kernel_rfl) rfl rfl ⟨hx0,hx1,hy0,hy1⟩ (λhHeld=>?_);refine bG Dc.DW Dc.xP (λau cz=>?_)
    replace HB:=aa.mk (aN HB.out)
    replace HR:=aa.mk (Kd.dm HR.out (aN (Below.refl _ wr)))
    have hsz:w.heap.size<=wr.drew.heap.size:=hsz
    clear hx0 hx1 hy0 hy1
    generalize wr.drew=wd at HB HR hsz hHeld ⊢
    refine bq 0 15 #[I,O,O,O,O,O,O,O,O,O,O,O,O,O,O,O,O,O,O,O,O] au (h:=?_)
    refine bq 1 16 #[I,I,O,O,O,O,O,O,O,O,O,O,O,O,O,O,O,O,O,O,O] au (h:=?_)
    refine bq 2 17 #[I,I,I,O,O,O,O,O,O,O,O,O,O,O,O,O,O,O,O,O,O] au (h:=?_)
    refine fJ 3 18 #[I,I,I,I,O,O,O,O,O,O,O,O,O,O,O,O,O,O,O,O,O] au cz hHeld (hy:=by(rintro w' ⟨s0,s1,s2,s3⟩;go_simp;with_reducible rfl)) (h:=?_)
    refine bq 4 19 #[I,I,I,I,I,O,O,O,O,O,O,O,O,O,O,O,O,O,O,O,O] au (h:=?_)
    refine bq 5 20 #[I,I,I,I,I,I,O,O,O,O,O,O,O,O,O,O,O,O,O,O,O] au (h:=?_)
    refine bq 6 21 #[I,I,I,I,I,I,I,O,O,O,O,O,O,O,O,O,O,O,O,O,O] au (h:=?_)
    refine fJ 7 22 #[I,I,I,I,I,I,I,I,O,O,O,O,O,O,O,O,O,O,O,O,O] au cz hHeld (hy:=by(rintro w' ⟨s0,s1,s2,s3⟩;go_simp;with_reducible rfl)) (h:=?_)
    refine oq (i:=8) (N:=some 23) (v:= .int .i64 (max x0 y0)) (a':=?_) #[I,I,I,I,I,I,I,I,I,O,O,O,O,O,O,O,O,O,O,O,O] rfl rfl (dI au.out (by kernel_rfl)) (λ_ _ _ h=>h) (Or.inl ⟨by rfl,?_⟩) ?_ ?_
    .intro w'
     go_simp
     exact Nu _ _
    rotate_left
    .simp only[Act.put,sb0,sb1,bR,cB,dX]
     rfl
    refine bq 9 24 #[I,I,I,I,I,I,I,I,I,I,O,O,O,O,O,O,O,O,O,O,O] au (h:=?_)
    refine bq 10 25 #[I,I,I,I,I,I,I,I,I,I,I,O,O,O,O,O,O,O,O,O,O] au (h:=?_)
    refine bq 11 26 #[I,I,I,I,I,I,I,I,I,I,I,I,O,O,O,O,O,O,O,O,O] au (h:=?_)
    refine fJ 12 27 #[I,I,I,I,I,I,I,I,I,I,I,I,I,O,O,O,O,O,O,O,O] au cz hHeld (hy:=by(rintro w' ⟨s0,s1,s2,s3⟩;go_simp;with_reducible rfl)) (h:=?_)
    refine bq 13 28 #[I,I,I,I,I,I,I,I,I,I,I,I,I,I,O,O,O,O,O,O,O] au (h:=?_)
    refine bq 14 29 #[I,I,I,I,I,I,I,I,I,I,I,I,I,I,I,O,O,O,O,O,O] au (h:=?_)
    refine bq 15 30 #[I,I,I,I,I,I,I,I,I,I,I,I,I,I,I,I,O,O,O,O,O] au (h:=?_)
    refine fJ 16 31 #[I,I,I,I,I,I,I,I,I,I,I,I,I,I,I,I,I,O,O,O,O] au cz hHeld (hy:=by(rintro w' ⟨s0,s1,s2,s3⟩;go_simp;with_reducible rfl)) (h:=?_)
    refine gB (i:=17) (N:=some 32) #[I,I,I,I,I,I,I,I,I,I,I,I,I,I,I,I,I,I,O,O,O] rfl rfl (aM au.out (by kernel_rfl)) (by decide) (λK hK=>?_)
    refine bD (w1:=?_) (v:=?_) (by rfl) rfl ?_ ?_
    rotate_left 2
    .go_simp
     constructor<;>rfl
    refine hK.out _ _ ⟨((ae (Below.refl _ wd) (.cells #[.int .i64 x1,.int .i64 y1] 3)).cell (World.block_lt_of_cell? _ _ hHeld.1)).trans hHeld.1,((ae (Below.refl _ wd) (.cells #[.int .i64 x1,.int .i64 y1] 3)).cell (World.block_lt_of_cell? _ _ hHeld.2.1)).trans hHeld.2.1,((ae (Below.refl _ wd) (.cells #[.int .i64 x1,.int .i64 y1] 3)).cell (World.block_lt_of_cell? _ _ hHeld.2.2.1)).trans hHeld.2.2.1,((ae (Below.refl _ wd) (.cells #[.int .i64 x1,.int .i64 y1] 3)).cell (World.block_lt_of_cell? _ _ hHeld.2.2.2)).trans hHeld.2.2.2⟩ (λhHeld=>?_)
    clear hK K
    have Bm:=aa.mk (aV.new wd [.int .i64 x1,.int .i64 y1] 3)
    replace HB:=aa.mk (ae HB.out (.cells #[.int .i64 x1,.int .i64 y1] 3))
    replace HR:=aa.mk (Kd.dm HR.out (ae (Below.refl _ wd) (.cells #[.int .i64 x1,.int .i64 y1] 3)))
    have hs1:=Nat.le_trans hsz (ae (Below.refl wd.heap.size wd) (.cells #[.int .i64 x1,.int .i64 y1] 3)).size
    clear hsz
    generalize hgm:wd.heap.size=gm at Bm ⊢
    clear hgm
    generalize wd.alloc (.cells #[.int .i64 x1,.int .i64 y1] 3)=we at Bm HB HR hs1 hHeld ⊢
    refine j4 ?_
    refine gB (i:=18) (N:=some 33) #[I,I,I,I,I,I,I,I,I,I,I,I,I,I,I,I,I,I,I,O,O] rfl rfl (aM au.out (by kernel_rfl)) (by decide) (λK hK=>?_)
    refine bT Tryz.func81 (by kernel_rfl) rfl #[.slice (some ⟨gm,0,none⟩) 2 2] (by rfl) rfl rfl (by(try simp only[List.map_toArray,List.map_cons,List.map_nil]);rfl) ?_
    refine(qK gm x1 y1 we (by simpa using Bm.out.cell 0) (by simpa using Bm.out.cell 1)).mono ?_
    rintro e_ w_ ⟨rfl,rfl⟩
    refine⟨_,rfl,hK.out _ _ (hHeld) (λhHeld=>?_)⟩
    clear hK K
    clear Bm
    refine j4 ?_
    refine bq 19 5 #[I,I,I,I,I,I,I,I,I,I,I,I,I,I,I,I,I,I,I,I,O] au (h:=?_)
    refine bq 20 6 #[I,I,I,I,I,I,I,I,I,I,I,I,I,I,I,I,I,I,I,I,I] au (h:=?_)
    refine fM (bP au.out (by kernel_rfl)) ?_
    generalize w_=we at HB HR hs1 hHeld ⊢
    obtain⟨lo,hlo⟩:∃z,max x0 y0=z:=⟨_,rfl⟩
    obtain⟨hi,hhi⟩:∃z,min x1 y1=z:=⟨_,rfl⟩
    by_cases hlh:lo<=hi
    .have HM:=aa.mk (HMC.out.trans (by rw[show vU ⟨x0,x1⟩ ⟨y0,y1⟩=[(⟨lo,hi⟩:Rg)] by unfold vU;simp only[hlo,hhi];rw[if_pos hlh],<- List.append_assoc]))
     have hzl:(zs++[(⟨lo,hi⟩:Rg)]).length+(nx+ny-1)<=10000:=by simp;omega
     have Yf:(zs.length+1)*16<=140737488355328:=by omega
     clear HMC
     rw[hlo,hhi]
     clear hlo hhi
     go_wp2_with ((with_reducible refine dN (b:= .append) (xs:=#[.tmp 37,.tmp 41]) rfl ?_);at_builtin;refine Kd.jF nQ (w0:=w) w.heap.size rfl (.tmp 37) (.tmp 41) 69 63 (.agg #[.int .i64 0,.int .i64 0]) 16 rfl Tryz.underlying69 zy rfl (by decide) (by omega) u4 zs (⟨lo,hi⟩:Rg) [.int .i64 lo,.int .i64 hi] (λ_=>True) (λ_=>False) rfl rfl ?aP (λ_ hk=>hk.elim) ?aF ?aO ?aB ?aS ?aL ?_;(case aP=>exact vH _ _ _ (⟨lo,hi⟩:Rg));(case aF=>exact(λ_ _=>trivial));(case aB=>exact(by repeat(first|(with_reducible first|exact HB.out|apply ae)|exact HB.out)));(case aO=>exact(by(with_reducible repeat apply Kd.bH);exact HR.out));(case aS=>exact(aT (by repeat(first|(with_reducible first|exact HB.out|apply ae)|exact HB.out))));(case aL=>exact Yf);intro vn wn hon hbn hgn iP;have FJ:=aa.mk hon;have JG:=aa.mk hbn;clear hon hbn hgn iP HR HB hs1;have HR:=FJ;have HB:=JG;clear FJ JG;have hs1:=HB.out.size;generalize wn=we at HR HB hs1 ⊢;clear wn)
     obtain⟨zs1,hz1⟩:∃l,zs++[(⟨lo,hi⟩:Rg)]=l:=⟨_,rfl⟩
     rw[hz1] at HM hzl HR
     clear hz1 hlh hl Yf
     obtain⟨hx0,hx1,hy0,hy1⟩:=HQ.out we HB.out
     refine fF (n:=9) (S:=λw'=>w'.cell? ad=some (.int .i64 x0)/\w'.cell? ⟨ad.block,ad.off+1,none⟩=some (.int .i64 x1)/\w'.cell? bd=some (.int .i64 y0)/\w'.cell? ⟨bd.block,bd.off+1,none⟩=some (.int .i64 y1)) (ds:=[]) #[O,O,O,O,O,O,O,O,O] (by kernel_rfl) rfl rfl ⟨hx0,hx1,hy0,hy1⟩ (λhHeld=>?_);refine bG Dc.yV Dc.rP (λau cz=>?_)
     replace HB:=aa.mk (aN HB.out)
     replace HR:=aa.mk (Kd.dm HR.out (aN (Below.refl _ we)))
     have hs1:w.heap.size<=we.drew.heap.size:=hs1
     clear hx0 hx1 hy0 hy1
     generalize we.drew=wd at HB HR hs1 hHeld ⊢
     refine bq 0 43 #[I,O,O,O,O,O,O,O,O] au (h:=?_)
     refine bq 1 44 #[I,I,O,O,O,O,O,O,O] au (h:=?_)
     refine bq 2 45 #[I,I,I,O,O,O,O,O,O] au (h:=?_)
     refine fJ 3 46 #[I,I,I,I,O,O,O,O,O] au cz hHeld (hy:=by(rintro w' ⟨s0,s1,s2,s3⟩;go_simp;with_reducible rfl)) (h:=?_)
     refine bq 4 47 #[I,I,I,I,I,O,O,O,O] au (h:=?_)
     refine bq 5 48 #[I,I,I,I,I,I,O,O,O] au (h:=?_)
     refine bq 6 49 #[I,I,I,I,I,I,I,O,O] au (h:=?_)
     refine fJ 7 50 #[I,I,I,I,I,I,I,I,O] au cz hHeld (hy:=by(rintro w' ⟨s0,s1,s2,s3⟩;go_simp;with_reducible rfl)) (h:=?_)
     refine bq 8 51 #[I,I,I,I,I,I,I,I,I] au (h:=?_)
     refine fM (bP au.out (by kernel_rfl)) ?_
     clear hHeld au cz
     by_cases hlt:x1<y1
     .rw[if_pos hlt] at HM
      have GX:=HX.out
      rw[<- FL.out] at GX
      have hcd:=Kd.Ab (m:=1) (c:=ca) GX (by simp) (by rw[FL.out];omega)
      clear GX
      obtain⟨i3,hi3,uA⟩:=Option.map_eq_some_iff.1 zy
      simp only[Prod.mk.injEq] at uA
      have hcut:=rM (P:=Tryz.prog) 69 63 .i64 Tryz.underlying69 hi3 2 uA.2.1 (some ad) nx ca 1 (by omega) (by omega)
      simp only[Int.toNat_one] at hcut
      have qy:nQ.C w (if ca=1 then(some ad) else Option.map (λx=>x.add (1*2)) (some ad)) xs'.length xs':=hcd
      have hn1:nx-1=xs'.length:=by have:=FL.out;simp at this;omega
      rw[hn1] at hcut
      clear hcd
      generalize(if ca=1 then(some ad) else Option.map (λx=>x.add (1*2)) (some ad))=Ad at qy hcut
      have HC:=aa.mk qy
      clear qy
      go_wp2_with fail
      exact⟨⟨xs',_,_,Ad,_,ca-1,cb,rfl,by rw[JE.out],by omega,by rw[JE.out];omega,by rw[JE.out];omega,hs1,HB,HC,by rw[JE.out];exact HY,HR,⟨HM.out.symm⟩⟩,by simp[lenOf];omega⟩
     .rw[if_neg hlt] at HM
      replace hlt:=Int.not_lt.1 hlt
      have GX:=HY.out
      rw[<- JE.out] at GX
      have hcd:=Kd.Ab (m:=1) (c:=cb) GX (by simp) (by rw[JE.out];omega)
      clear GX
      obtain⟨i3,hi3,uA⟩:=Option.map_eq_some_iff.1 zy
      simp only[Prod.mk.injEq] at uA
      have hcut:=rM (P:=Tryz.prog) 69 63 .i64 Tryz.underlying69 hi3 2 uA.2.1 (some bd) ny cb 1 (by omega) (by omega)
      simp only[Int.toNat_one] at hcut
      have qy:nQ.C w (if cb=1 then(some bd) else Option.map (λx=>x.add (1*2)) (some bd)) ys'.length ys':=hcd
      have hn1:ny-1=ys'.length:=by have:=JE.out;simp at this;omega
      rw[hn1] at hcut
      clear hcd
      generalize(if cb=1 then(some bd) else Option.map (λx=>x.add (1*2)) (some bd))=Ad at qy hcut
      have HC:=aa.mk qy
      clear qy
      go_wp2_with fail
      exact⟨⟨_,ys',_,_,Ad,ca,cb-1,by rw[FL.out],rfl,by rw[FL.out];omega,by omega,by rw[FL.out];omega,hs1,HB,by rw[FL.out];exact HX,HC,HR,⟨HM.out.symm⟩⟩,by simp[lenOf];omega⟩
    .have HM:=aa.mk (HMC.out.trans (by rw[show vU ⟨x0,x1⟩ ⟨y0,y1⟩=[] by unfold vU;simp only[hlo,hhi];rw[if_neg hlh],List.nil_append]))
     have hzl:zs.length+(nx+ny-1)<=10000:=by omega
     replace hlh:=Int.not_le.1 hlh
     clear HMC
     rw[hlo,hhi]
     clear hlo hhi
     go_wp2_with fail
     clear hlh hl
     obtain⟨hx0,hx1,hy0,hy1⟩:=HQ.out we HB.out
     refine fF (n:=9) (S:=λw'=>w'.cell? ad=some (.int .i64 x0)/\w'.cell? ⟨ad.block,ad.off+1,none⟩=some (.int .i64 x1)/\w'.cell? bd=some (.int .i64 y0)/\w'.cell? ⟨bd.block,bd.off+1,none⟩=some (.int .i64 y1)) (ds:=[]) #[O,O,O,O,O,O,O,O,O] (by kernel_rfl) rfl rfl ⟨hx0,hx1,hy0,hy1⟩ (λhHeld=>?_);refine bG Dc.yV Dc.rP (λau cz=>?_)
     replace HB:=aa.mk (aN HB.out)
     replace HR:=aa.mk (Kd.dm HR.out (aN (Below.refl _ we)))
     have hs1:w.heap.size<=we.drew.heap.size:=hs1
     clear hx0 hx1 hy0 hy1
     generalize we.drew=wd at HB HR hs1 hHeld ⊢
     refine bq 0 43 #[I,O,O,O,O,O,O,O,O] au (h:=?_)
     refine bq 1 44 #[I,I,O,O,O,O,O,O,O] au (h:=?_)
     refine bq 2 45 #[I,I,I,O,O,O,O,O,O] au (h:=?_)
     refine fJ 3 46 #[I,I,I,I,O,O,O,O,O] au cz hHeld (hy:=by(rintro w' ⟨s0,s1,s2,s3⟩;go_simp;with_reducible rfl)) (h:=?_)
     refine bq 4 47 #[I,I,I,I,I,O,O,O,O] au (h:=?_)
     refine bq 5 48 #[I,I,I,I,I,I,O,O,O] au (h:=?_)
     refine bq 6 49 #[I,I,I,I,I,I,I,O,O] au (h:=?_)
     refine fJ 7 50 #[I,I,I,I,I,I,I,I,O] au cz hHeld (hy:=by(rintro w' ⟨s0,s1,s2,s3⟩;go_simp;with_reducible rfl)) (h:=?_)
     refine bq 8 51 #[I,I,I,I,I,I,I,I,I] au (h:=?_)
     refine fM (bP au.out (by kernel_rfl)) ?_
     clear hHeld au cz
     by_cases hlt:x1<y1
     .rw[if_pos hlt] at HM
      have GX:=HX.out
      rw[<- FL.out] at GX
      have hcd:=Kd.Ab (m:=1) (c:=ca) GX (by simp) (by rw[FL.out];omega)
      clear GX
      obtain⟨i3,hi3,uA⟩:=Option.map_eq_some_iff.1 zy
      simp only[Prod.mk.injEq] at uA
      have hcut:=rM (P:=Tryz.prog) 69 63 .i64 Tryz.underlying69 hi3 2 uA.2.1 (some ad) nx ca 1 (by omega) (by omega)
      simp only[Int.toNat_one] at hcut
      have qy:nQ.C w (if ca=1 then(some ad) else Option.map (λx=>x.add (1*2)) (some ad)) xs'.length xs':=hcd
      have hn1:nx-1=xs'.length:=by have:=FL.out;simp at this;omega
      rw[hn1] at hcut
      clear hcd
      generalize(if ca=1 then(some ad) else Option.map (λx=>x.add (1*2)) (some ad))=Ad at qy hcut
      have HC:=aa.mk qy
      clear qy
      go_wp2_with fail
      exact⟨⟨xs',_,_,Ad,_,ca-1,cb,rfl,by rw[JE.out],by omega,by rw[JE.out];omega,by rw[JE.out];omega,hs1,HB,HC,by rw[JE.out];exact HY,HR,⟨HM.out.symm⟩⟩,by simp[lenOf];omega⟩
     .rw[if_neg hlt] at HM
      replace hlt:=Int.not_lt.1 hlt
      have GX:=HY.out
      rw[<- JE.out] at GX
      have hcd:=Kd.Ab (m:=1) (c:=cb) GX (by simp) (by rw[JE.out];omega)
      clear GX
      obtain⟨i3,hi3,uA⟩:=Option.map_eq_some_iff.1 zy
      simp only[Prod.mk.injEq] at uA
      have hcut:=rM (P:=Tryz.prog) 69 63 .i64 Tryz.underlying69 hi3 2 uA.2.1 (some bd) ny cb 1 (by omega) (by omega)
      simp only[Int.toNat_one] at hcut
      have qy:nQ.C w (if cb=1 then(some bd) else Option.map (λx=>x.add (1*2)) (some bd)) ys'.length ys':=hcd
      have hn1:ny-1=ys'.length:=by have:=JE.out;simp at this;omega
      rw[hn1] at hcut
      clear hcd
      generalize(if cb=1 then(some bd) else Option.map (λx=>x.add (1*2)) (some bd))=Ad at qy hcut
      have HC:=aa.mk qy
      clear qy
      go_wp2_with fail
      exact⟨⟨_,ys',_,_,Ad,ca,cb-1,by rw[FL.out],rfl,by rw[FL.out];omega,by omega,by rw[FL.out];omega,hs1,HB,by rw[FL.out];exact HX,HC,HR,⟨HM.out.symm⟩⟩,by simp[lenOf];omega⟩
end Go.Proofs.YtdekaocdmjndaaaGreat
namespace Go.Proofs.YtdekaocdmjndaaaGreat
open Go.RowKit Go.Shelf ah YtdekaocdmjndaaaGreatW.aj YtdekaocdmjndaaaGreatW.aH Ag
structure Ao(w:World)(Ar:Option Addr)(cr:Nat)(rules:List Ru)(Ac:Option Addr)(cc:Nat)(recs:List Re):Prop where
 kr:wY.C w Ar rules.length rules
 hcr:rules.length<=cr
 kc:yf.C w Ac recs.length recs
 hcc:recs.length<=cc
theorem Ao.below{w w':World}{Ar:Option Addr}{cr:Nat}{rules:List Ru}{Ac:Option Addr}{cc:Nat}{recs:List Re}(h:Ao w Ar cr rules Ac cc recs)(hb:Below w.heap.size w w'):Ao w' Ar cr rules Ac cc recs:=⟨Kd.aC h.kr hb,h.hcr,Kd.aC h.kc hb,h.hcc⟩
theorem F5(w:World):ku 88 #[] #[] lD w:=by
 intro W x _
 have:=Db x.f0 x.f1 x.f2 x.f3 W
 simpa[pK] using this
theorem Ee{Ar Ac:Option Addr}{cr cc:Nat}{rules:List Ru}(lo hi:Int)(nc:Nat)(hl:rules.length<=1000)(w:World):iV 86 #[.agg #[.int .i64 lo,.int .i64 hi,.slice Ar rules.length cr,.slice Ac nc cc]] #[] (Ef rules.length) w:=by
 intro W x _
 have:=Bf (Ar:=Ar) (Ac:=Ac) (cr:=cr) (cc:=cc) (rules:=rules) lo hi nc x W hl
 simpa[lH] using this
set_option maxHeartbeats 4000000 in
theorem jl{Ar Ac:Option Addr}{cr cc:Nat}{rules:List Ru}{recs:List Re}(lo hi:Int)(w:World)(h:Ao w Ar cr rules Ac cc recs):
  Calls Tryz.prog 27 #[.agg #[.int .i64 lo,.int .i64 hi,.slice Ar rules.length cr,.slice Ac recs.length cc]] w λe w'=>e= .returned (.int .i64 (fe.fault ⟨⟨lo,hi⟩,rules,recs⟩))/\Below w.heap.size w w':=by
 have H:=aa.mk h
 have hm1:=Kd.Ck h.kr
 have hm2:=Kd.Ck h.kc
 clear h
 go_enter Tryz.func27,Tryz.ntmps27
 go_upto_region 2 with(fail)
 have HB:=aa.mk (ae (Below.refl w.heap.size w) (.cells #[.int .i64 lo,.int .i64 hi,.slice Ar rules.length cr,.slice Ac recs.length cc] 67))
 have BX:=aa.mk (aV.new w [.int .i64 lo,.int .i64 hi,.slice Ar rules.length cr,.slice Ac recs.length cc] 67)
 generalize w.alloc (.cells #[.int .i64 lo,.int .i64 hi,.slice Ar rules.length cr,.slice Ac recs.length cc] 67)=w0 at HB BX ⊢
 have dx:=BX.out.cell 0
 have dw:=BX.out.cell 1
 have dn:=BX.out.cell 2
 have dQ:=BX.out.cell 3
 simp only[dZ,dY] at dx dw dn dQ
 have mg:=BX.out.lt
 have HF3:=aa.mk (λ(h:4<rules.length\/8<recs.length)=>show fe.fault ⟨⟨lo,hi⟩,rules,recs⟩=3 from if_pos h)
 have HF:=aa.mk (λ(h:¬(4<rules.length\/8<recs.length))=>show fe.fault ⟨⟨lo,hi⟩,rules,recs⟩=if oW lo (-50000) 50000&&oW hi (-50000) 50000&&decide (lo<=hi)&&!rules.isEmpty&&rules.all lD&&recs.all (Ef rules.length) then 0 else 1 from if_neg h)
 by_cases h4:(4:Int)<(rules.length:Int)
 .have HV:=aa.mk (HF3.out (.inl (by omega)))
  go_wp2_with fail
  go_ret
  exact⟨by(rw[HV.out];rfl),HB.out⟩
 replace h4:=Int.not_lt.1 h4
 by_cases h8:(8:Int)<(recs.length:Int)
 .have HV:=aa.mk (HF3.out (.inr (by omega)))
  go_wp2_with fail
  go_ret
  exact⟨by(rw[HV.out];rfl),HB.out⟩
 replace h8:=Int.not_lt.1 h8
 have HV:=aa.mk (HF.out (by omega))
 clear HF HF3
 obtain⟨b1,hb1⟩:∃o,oW lo (-50000) 50000=o:=⟨_,rfl⟩
 have wL:=aa.mk (yD lo b1 hb1)
 obtain⟨b2,hb2⟩:∃o,oW hi (-50000) 50000=o:=⟨_,rfl⟩
 have FZ:=aa.mk (yD hi b2 hb2)
 obtain⟨b5,hb5⟩:∃o,rules.all lD=o:=⟨_,rfl⟩
 obtain⟨b6,hb6⟩:∃o,recs.all (Ef rules.length)=o:=⟨_,rfl⟩
 have HP5:=aa.mk hb5
 have HP6:=aa.mk hb6
 rw[hb1,hb2,hb5,hb6] at HV
 clear hb1 hb2 hb5 hb6
 go_wp2_with fail
 refine(wL.out _).mono ?_
 rintro e w1 ⟨rfl,dK⟩
 clear dx dw dn dQ mg
 replace HB:=aa.mk (HB.out.trans (dK.mono HB.out.size))
 replace BX:=aa.mk (BX.out.below dK)
 clear dK
 cases b1
 .go_wp2_with fail
  go_ret
  exact⟨by(rw[HV.out];rfl),HB.out⟩
 have dx:=BX.out.cell 0
 have dw:=BX.out.cell 1
 have dn:=BX.out.cell 2
 have dQ:=BX.out.cell 3
 simp only[dZ,dY] at dx dw dn dQ
 have mg:=BX.out.lt
 go_wp2_with fail
 refine(FZ.out _).mono ?_
 rintro e w2 ⟨rfl,dK⟩
 clear dx dw dn dQ mg
 replace HB:=aa.mk (HB.out.trans (dK.mono HB.out.size))
 replace BX:=aa.mk (BX.out.below dK)
 clear dK
 cases b2
 .go_wp2_with fail
  go_ret
  exact⟨by(rw[HV.out];rfl),HB.out⟩
 have dx:=BX.out.cell 0
 have dw:=BX.out.cell 1
 have dn:=BX.out.cell 2
 have dQ:=BX.out.cell 3
 simp only[dZ,dY] at dx dw dn dQ
 have mg:=BX.out.lt
 by_cases hlh:hi<lo
 .have HD:=aa.mk (show decide (lo<=hi)=false from decide_eq_false (by omega))
  rw[HD.out] at HV
  clear HD
  go_wp2_with fail
  go_ret
  exact⟨by(rw[HV.out];rfl),HB.out⟩
 have HD:=aa.mk (show decide (lo<=hi)=true from decide_eq_true (by omega))
 rw[HD.out] at HV
 replace hlh:=Int.not_lt.1 hlh
 clear HD
 by_cases h0:rules.length=0
 .have HD:=aa.mk (show(!rules.isEmpty)=false by rw[List.eq_nil_of_length_eq_zero h0];rfl)
  rw[HD.out] at HV
  have h0b:((rules.length:Int)==0)=true:=by simp[h0]
  clear HD h0
  go_wp2_with fail
  go_ret
  exact⟨by(rw[HV.out];rfl),HB.out⟩
 have HD:=aa.mk (show(!rules.isEmpty)=true by cases hr:rules with
  |nil=>rw[hr] at h0;exact absurd rfl h0
  |cons a l=>rfl)
 rw[HD.out] at HV
 have h0b:((rules.length:Int)==0)=false:=by simpa using h0
 clear HD h0
 go_wp2_with fail
 refine(OZ 88 #[] #[] (enters Tryz.func88 (by kernel_rfl) rfl) lD Ar cr rules w2 (Kd.aC H.out.kr HB.out) hm1 (F5 w2)).mono ?_
 rintro e w3 ⟨rfl,dK⟩
 rw[HP5.out]
 clear dx dw dn dQ mg
 replace HB:=aa.mk (HB.out.trans (dK.mono HB.out.size))
 replace BX:=aa.mk (BX.out.below dK)
 clear dK
 cases b5
 .go_wp2_with fail
  go_ret
  exact⟨by(rw[HV.out];rfl),HB.out⟩
 have dx:=BX.out.cell 0
 have dw:=BX.out.cell 1
 have dn:=BX.out.cell 2
 have dQ:=BX.out.cell 3
 simp only[dZ,dY] at dx dw dn dQ
 have mg:=BX.out.lt
 go_wp2_with fail
 refine(H9 86 #[.agg #[.int .i64 lo,.int .i64 hi,.slice Ar rules.length cr,.slice Ac recs.length cc]] #[] (enters Tryz.func86 (by kernel_rfl) rfl) (Ef rules.length) Ac cc recs w3 (Kd.aC H.out.kc HB.out) hm2 (Ee lo hi recs.length (by omega) w3)).mono ?_
 rintro e w4 ⟨rfl,dK⟩
 rw[HP6.out]
 clear dx dw dn dQ mg
 replace HB:=aa.mk (HB.out.trans (dK.mono HB.out.size))
 replace BX:=aa.mk (BX.out.below dK)
 clear dK
 cases b6
 .go_wp2_with fail
  go_ret
  exact⟨by(rw[HV.out];rfl),HB.out⟩
 go_wp2_with fail
 go_ret
 exact⟨by(rw[HV.out];rfl),HB.out⟩
open Go.RowKit Go.Shelf ah YtdekaocdmjndaaaGreatW.aj YtdekaocdmjndaaaGreatW.aH
structure Pj(T0:Nat->Prop)(lo m:Nat)(A B:World):Prop where
 ko:KeepsOthers A B
 blk:∀b,(T0 b\/lo<=b/\b<m)->B.heap[b]?=A.heap[b]?
theorem Pj.refl(T0:Nat->Prop)(lo m:Nat)(A:World):Pj T0 lo m A A:=⟨KeepsOthers.refl A,λ_ _=>rfl⟩
theorem Pj.trans{T0:Nat->Prop}{lo m:Nat}{A B C:World}(h:Pj T0 lo m A B)(k:Pj T0 lo m B C):Pj T0 lo m A C:=⟨h.ko.trans k.ko,λb hb=>(k.blk b hb).trans (h.blk b hb)⟩
theorem Nz{A B:World}(h:Below A.heap.size A B):KeepsOthers A B:=⟨h.size,λk o hk _=>(h.block k (Array.getElem?_eq_some_iff.1 hk).1).trans hk⟩
def Wp{α:Type}(P:Program)(g:Nat)(lb:Array Value)(T0:Nat->Prop)(X:α->Prop)(encs:α->Array Value)(S:List α->Prop)(N:Nat)(w:World):Prop:=
 ∀(l:Nat) (J:Nat->List α->World->Prop) (W:World),Below w.heap.size w W ->
  (∀W1,Below W.heap.size W W1->J W1.heap.size [] W1) ->
  (∀m s A B row,J m s A->A.grownBy B row->(∀r,row=some r->W.heap.size<=r/\r<m)->J m s B) ->
  (∀m pre x W1,W.heap.size<=m->J m pre W1->X x->pre.length<N->YieldAt Fence.wide 0 P l (encs x) W1 λe W'=>e= .returned (.bool true)/\J m (pre++[x]) W'/\Pj T0 W.heap.size m W1 W') ->
  Calls P g (#[.func (.yield l) #[] #[]]++lb) W λe W'=>(∃v,e= .returned v)/\∃m xs,S xs/\J m xs W'
def Nb{α:Type}(T0:Nat->Prop)(lo m:Nat)(I:Nat->List α->World->Prop)(xs:List α)(W:World):Exit->Act->World->Prop
 | .normal,_,W'=>Pj T0 lo m W W'/\I m xs W'
 |_,_,_=>False
theorem Cz{n:Nat}{P:Program}{α:Type}{g:Operand}{ps:Array Tmp}{assign body:Code}{Q:Exit->Act->World->Prop}{a:Act}{w:World}
  (h1:1<=n) {gf:Nat} {lb:Array Value} (hg:a.eval g= .func (.func gf) #[] lb) (eg:∀args w,(callFunc gf args).run P w= .ok (.enter gf args) w)
  {T0:Nat->Prop} {X:α->Prop} {encs:α->Array Value} {S:List α->Prop} {N:Nat} (hseq:Wp P gf lb T0 X encs S N w)
  (hT0:∀b,T0 b->b<w.heap.size) (hps:∀x,(encs x).size=ps.size)
  (fz:Array Value->α->Array Value) (f:Array Value->α->Nat->Array Value) (mk:α->Obj) (hmk:∀x,(mk x).isCells=true) (hz:∀t x,(ps.zip (encs x)).foldl (λt (p,v)=>t.setIfInBounds p v) t=fz t x)
  (I:Nat->List α->World->Prop) (hI:∀m s A B row,I m s A->A.grownBy B row->(∀r,row=some r->w.heap.size<=r/\r<m)->I m s B)
  (h0:∀W1,Below w.heap.size w W1->I W1.heap.size [] W1)
  (hassign:∀(l:Nat) (x:α) (W:World) (K:Act->World->Prop),K {tmps:=f a.tmps x W.heap.size,defers:=[]} (W.alloc (mk x)) ->
   assign.wpIn (Fence.wide.inRound l) (n-1-1) P (Exit.then K (λ_ _ _=>False)) {tmps:=fz a.tmps x,defers:=[]} W)
  (hbody:∀(l m:Nat) (pre:List α) (x:α) (b:Nat) (W:World),I m pre W->X x->pre.length<N->w.heap.size+2<=m->W.heap[b]?=some (mk x)->w.heap.size+2<=b->b<W.heap.size->body.wpIn (Fence.wide.inRound l) (n-1-1) P (Nb T0 (w.heap.size+2) m I (pre++[x]) W) {tmps:=f a.tmps x b,defers:=[]} W)
  (hdone:∀(D m:Nat) (xs:List α) (W:World),D=w.heap.size->w.heap.size+2<=m->S xs->I m xs W->W.heap[D]?=some (.deferred (some []))->Q .normal {a with defers:={target:= .collected D,args:=#[]}::a.defers} W):
  (Code.rangeFunc g ps assign body).wpIn Fence.wide n P Q a w:=by
 refine wpIn_rangeFunc ?_
 intro fn hfn
 rw[show Fence.wide.round=none from rfl]
 obtain⟨rec,hrec⟩:∃rec:LoopState->Option Code->Loop,rec=λst pe=>{state:=st,pending:=pe,fn,tmps:=a.tmps,params:=ps,assign,body,defers:=w.heap.size}:=⟨_,rfl⟩
 obtain⟨W1,hW1⟩:∃W1,(w.alloc (.deferred (some []))).alloc (.loop (rec .ready none))=W1:=⟨_,rfl⟩
 have hL1:W1.heap[w.heap.size+1]?=some (.loop (rec .ready none)):=by
  rw[<- hW1];have:=World.alloc_heap_new (w.alloc (.deferred (some []))) (.loop (rec .ready none));rwa [World.size_alloc] at this
 have hK1:W1.heap[w.heap.size]?=some (.deferred (some [])):=by
  rw[<- hW1];exact(Below.heap_alloc _ _ _ (by simp)).trans (World.alloc_heap_new w _)
 have hb1:Below w.heap.size w W1:=by
  rw[<- hW1];exact(((Below.refl _ w).alloc (Nat.le_refl _) _).alloc (by simp) _)
 have hs1:W1.heap.size=w.heap.size+2:=by rw[<- hW1];simp
 refine⟨w.heap.size+1,[{target:= .collected w.heap.size,args:=#[]}],W1,{target:= .fn (.func gf) lb,args:=#[.func (.yield (w.heap.size+1)) #[] #[]]},W1,gf,
  #[.func (.yield (w.heap.size+1)) #[] #[]]++lb,W1,?_,?_,?_,?_,λ_=>h1,?_⟩
 .rw[<- hW1,hrec];exact run_enterLoop_outer _ _ _ _ _
 .simp only[resolve,hg]
  simp[go_sem]
 .intro f' hf';trivial
 .simp[invoke,go_sem,eg]
 .refine callsIn_wide.2 ((hseq (w.heap.size+1)
   (λm pre W=>I m pre W/\(w.heap.size+2<=m/\m<=W.heap.size)/\W.heap[w.heap.size+1]?=some (.loop (rec .ready none))/\W.heap[w.heap.size]?=some (.deferred (some [])))
   W1 hb1
   (λW2 hb2=>⟨h0 W2 (hb1.trans (hb2.mono hb1.size)),⟨by have:=hb2.size;omega,Nat.le_refl _⟩,(hb2.block _ (by omega)).trans hL1,(hb2.block _ (by omega)).trans hK1⟩)
   (λm s A B row hs hg' hr=>⟨hI m s A B row hs.1 hg' (λr e=>by have:=hr r e;omega),⟨hs.2.1.1,Nat.le_trans hs.2.1.2 hg'.size⟩,?_,?_⟩)
   ?_).mono ?_)
  .exact(hg'.block _ (Array.getElem?_eq_some_iff.1 hs.2.2.1).1 (λe=>by have:=hr _ e.symm;omega)).trans hs.2.2.1
  .exact(hg'.block _ (Array.getElem?_eq_some_iff.1 hs.2.2.2).1 (λe=>by have:=hr _ e.symm;omega)).trans hs.2.2.2
  .
   rintro m pre x W _ ⟨hi,⟨hm,hmW⟩,hl,hk⟩ hx hlen
   have hlt:w.heap.size+1<W.heap.size:=(Array.getElem?_eq_some_iff.1 hl).1
   have hy:=run_yield (P:=P) (args:=encs x) hl (by rw[hrec];exact hps x)
   rw[hrec] at hy
   refine YieldAt.any (m:=n-1-1) ⟨fn,_,assign,body,hy,roundIn_of_wpIn hfn ?_⟩
   rw[hz]
   refine hassign _ x W _ ?_
   clear hy
   have hA:Below W.heap.size W (W.alloc (mk x)):=(Below.refl _ _).alloc (Nat.le_refl _) _
   have hlA:(W.alloc (mk x)).heap[w.heap.size+1]?=some (.loop (rec .ready none)):=(hA.block _ hlt).trans hl
   have hkA:(W.alloc (mk x)).heap[w.heap.size]?=some (.deferred (some [])):=(hA.block _ (by omega)).trans hk
   have hsA:(W.alloc (mk x)).heap.size=W.heap.size+1:=by simp
   have hxA:(W.alloc (mk x)).heap[W.heap.size]?=some (mk x):=World.alloc_heap_new W _
   refine⟨_,run_beginRound hlA (by rw[hrec]),?_⟩
   have hl2:((W.alloc (mk x)).putObj (w.heap.size+1) (.loop {rec .ready none with state:= .busy})).heap[w.heap.size+1]?=some (.loop {rec .ready none with state:= .busy}):=World.putObj_heap_same (by rw[hsA];omega)
   have hk2:((W.alloc (mk x)).putObj (w.heap.size+1) (.loop {rec .ready none with state:= .busy})).heap[w.heap.size]?=some (.deferred (some [])):=(World.putObj_heap_other (by omega)).trans hkA
   have hx2:((W.alloc (mk x)).putObj (w.heap.size+1) (.loop {rec .ready none with state:= .busy})).heap[W.heap.size]?=some (mk x):=(World.putObj_heap_other (by omega)).trans hxA
   have hI2:I m pre ((W.alloc (mk x)).putObj (w.heap.size+1) (.loop {rec .ready none with state:= .busy})):=
    hI m pre _ _ (some (w.heap.size+1)) (hI m pre _ _ none hi (World.grownBy_alloc W _ none) (λr e=>by cases e)) (grownBy_putObj' _ _ _) (λr e=>by cases e;omega)
   have hs2:((W.alloc (mk x)).putObj (w.heap.size+1) (.loop {rec .ready none with state:= .busy})).heap.size=W.heap.size+1:=by simp[World.putObj]
   refine wpIn_mono (hbody _ m pre x W.heap.size _ hI2 hx hlen hm hx2 (by omega) (Nat.lt_of_lt_of_eq (Nat.lt_succ_self _) hs2.symm)) ?_
   rintro e a3 W3 hp
   cases e with
   |normal=>
    obtain⟨hk3,hi3⟩:=hp
    have hl3:=hk3.ko.same _ _ hl2 rfl
    have hr:=run_endRound (P:=P) none hl3
    have hl4:(W3.putObj (w.heap.size+1) (.loop (rec .ready none))).heap[w.heap.size+1]?=some (.loop (rec .ready none)):=World.putObj_heap_same (Array.getElem?_eq_some_iff.1 hl3).1
    have hk4:(W3.putObj (w.heap.size+1) (.loop (rec .ready none))).heap[w.heap.size]?=some (.deferred (some [])):=(World.putObj_heap_other (by omega)).trans (hk3.ko.same _ _ hk2 rfl)
    have hr':(Instr.endRound (w.heap.size+1) none).run P W3= .ok (.bool true) (W3.putObj (w.heap.size+1) (.loop (rec .ready none))):=by
     rw[hrec] at hr ⊢
     exact hr
    refine⟨_,_,hr',rfl,⟨hI m _ _ _ (some (w.heap.size+1)) hi3 (grownBy_putObj' _ _ _) (λr e=>by cases e;omega),⟨hm,?_⟩,hl4,hk4⟩,⟨⟨?_,?_⟩,?_⟩⟩
    .have h1:=hk3.ko.size
     rw[hs2] at h1
     have h2:(W3.putObj (w.heap.size+1) (.loop (rec .ready none))).heap.size=W3.heap.size:=by simp[World.putObj]
     rw[h2]
     omega
    .have h1:=hk3.ko.size
     rw[hs2] at h1
     have h2:(W3.putObj (w.heap.size+1) (.loop (rec .ready none))).heap.size=W3.heap.size:=by simp[World.putObj]
     omega
    .intro k o hko ho
     by_cases e:k=w.heap.size+1
     .subst e
      rw[hl] at hko
      cases hko
      exact hl4
     .have hlk:k<W.heap.size:=(Array.getElem?_eq_some_iff.1 hko).1
      have h3:((W.alloc (mk x)).putObj (w.heap.size+1) (.loop {rec .ready none with state:= .busy})).heap[k]?=some o:=(World.putObj_heap_other e).trans ((hA.block _ hlk).trans hko)
      exact(World.putObj_heap_other e).trans (hk3.ko.same _ _ h3 ho)
    .intro b hb
     have hne:b≠w.heap.size+1:=λe=>by
      rcases hb with hb|hb
      .have:=hT0 b hb
       omega
      .omega
     by_cases hlb:b<W.heap.size
     .rw[World.putObj_heap_other hne,hk3.blk b (hb.imp id (λh=>by omega)),World.putObj_heap_other hne,hA.block _ hlb]
     .exfalso
      rcases hb with hb|hb
      .have:=hT0 b hb
       omega
      .omega
   |_=>exact hp.elim
  .
   rintro e W2 ⟨⟨v,rfl⟩,m,xs,hS,hi,hm,hl,hk⟩
   exact⟨none,_,by have:=run_endLoop (P:=P) hl (by rw[hrec];simp);rw[hrec] at this;exact this,hdone _ m xs _ rfl hm.1 hS (hI m _ _ _ (some (w.heap.size+1)) hi (grownBy_putObj' _ _ _) (λr e=>by cases e;have:=hm.1;omega)) ((World.putObj_heap_other (by omega)).trans hk)⟩
end Go.Proofs.YtdekaocdmjndaaaGreat
namespace Go.Proofs.YtdekaocdmjndaaaGreat
open Go.RowKit Go.Shelf ah YtdekaocdmjndaaaGreatW.aj YtdekaocdmjndaaaGreatW.aH Ag
attribute [local go_sem] Oper.semAt_some
theorem zQ(A:Option Addr)(n c:Nat)(w:World):Calls Tryz.prog 79 #[.slice A n c] w λe w'=>e= .returned (.func (.func 160) #[] #[.pointer (some ⟨w.heap.size,0,none⟩)])/\w'=w.alloc (.cells #[.slice A n c] 69):=by
 go_enter Tryz.func79,Tryz.ntmps79
 go_wp2_with fail
 go_ret
 exact⟨rfl,rfl⟩
def Je(x:Int×Rg):Array Value:=#[.int .i64 x.1,.agg #[.int .i64 x.2.f0,.int .i64 x.2.f1]]
def bkT(gs:Nat)(A:Option Addr)(b:Nat):Prop:=b=gs\/∃ad,A=some ad/\b=ad.block
theorem MP{l:List Rg}{i:Nat}(hi:i<l.length):l.reverse.take (l.length-i)=l.reverse.take (l.length-(i+1))++[l[i]]:=by
 rw[show l.length-i=(l.length-(i+1))+1 by omega,List.take_succ_eq_append_getElem (by simp;omega)]
 congr 2
 rw[List.getElem_reverse]
 congr 1
 omega
set_option maxHeartbeats 4000000 in
theorem Fs{w:World}{gs c:Nat}{A:Option Addr}(l:List Rg)(hg:w.cell? ⟨gs,0,none⟩=some (.slice A l.length c))(hC:nQ.C w A l.length l)(hl:l.length<=10000):
  Wp Tryz.prog 160 #[.pointer (some ⟨gs,0,none⟩)] (bkT gs A) (λx=>x.2 ∈ l) Je (λxs=>xs.map (·.2)=l.reverse) l.length w:=by
 intro L J W Mg hst hown hY
 have h0:=hst W (Below.refl _ _)
 have hgs:gs<w.heap.size:=World.block_lt_of_cell? _ _ hg
 have HG:=aa.mk ((Mg.cell (p:=⟨gs,0,none⟩) hgs).trans hg)
 have HC:=aa.mk (Kd.aC hC Mg)
 have HY:=aa.mk hY
 have H0:=aa.mk h0
 clear h0 hst hown hY hg hC Mg hgs
 simp only[List.append_toArray,List.cons_append,List.nil_append]
 refine callsIn_wide.1 (callsIn_of_wp (F:=Fence.wide) (n:=9) Tryz.func160 rfl trivial ?_ rfl)
 simp only[Tryz.ntmps160,List.size_toArray,List.length_cons,List.length_nil,Nat.reduceAdd,Nat.reduceSub,Array.replicate_succ,Array.replicate_zero,List.push_toArray,List.append_toArray,List.nil_append,List.cons_append]
 have hg0:=HG.out
 gi_wp2_with fail
 gi_loopw [3] (λv3 wr=>∃(j:Nat) (pre:List (Int×Rg)),j<=l.length/\v3= .int .i64 ((j:Int)-1)/\pre.length+j=l.length/\aa (J W.heap.size pre wr)/\aa (pre.map (·.2)=l.reverse.take (l.length-j))/\aa (∀b,bkT gs A b->wr.heap[b]?=W.heap[b]?)) (λv3 _=>(intOf v3+1).toNat)
 case atStart=>exact⟨l.length,[],Nat.le_refl _,rfl,by simp,H0,⟨by simp⟩,⟨λ_ _=>rfl⟩⟩
 case round=>
  clear H0 hg0
  obtain⟨j,pre,hj,rfl,hpl,HJ,HP,HT⟩:=hrel
  have hg0:=(World.cell?_of_block (w:=W) (HT.out gs (.inl rfl))).trans HG.out
  cases j with
  |zero=>
   have HE:=aa.mk (show pre.map (·.2)=l.reverse by rw[HP.out,Nat.sub_zero,List.take_of_length_le (by simp)])
   rw[show(((0:Nat):Int)-1)= -1 from rfl]
   gi_wp2_with fail
   go_end0
   exact⟨⟨_,rfl⟩,_,pre,HE.out,HJ.out⟩
  |succ i=>
   obtain⟨ad,e,hx0,hx1⟩:=kW HC.out (i:Int) (by omega) (by omega)
   cases e
   have hbk:(ad.add (i*2)).block=ad.block:=by unfold Addr.add;split<;>rfl
   have hrd:bS l (i:Int)=l[i]:=by simp[bS,List.getD,show i<l.length by omega]
   rw[Int.toNat_natCast] at hx0 hx1
   rw[hrd] at hx0 hx1
   have hbl:=HT.out ad.block (.inr ⟨ad,rfl,rfl⟩)
   replace hx0:=(World.cell?_of_block (w:=W) (w':=wr) (by rw[hbk];exact hbl)).trans hx0
   replace hx1:=(World.cell?_of_block (w:=W) (w':=wr) (by simp only[hbk];exact hbl)).trans hx1
   have HRT:=aa.mk (MP (l:=l) (i:=i) (by omega))
   have hmem:l[i] ∈ l:=List.getElem_mem _
   obtain⟨r,hr⟩:∃r,l[i]=r:=⟨_,rfl⟩
   rw[hr] at hx0 hx1 hmem HRT
   have hii:(((i+1:Nat):Int)-1)=(i:Int):=by omega
   rw[hii]
   obtain⟨fn,tmps,assign,body,hy,hRR⟩:=YieldAt.any (m':=8) (HY.out W.heap.size pre ((i:Int),r) wr (Nat.le_refl _) HJ.out hmem (by omega))
   dsimp only[Je] at hy
   have hil:(i:Int)<(l.length:Int):=by omega
   clear hr hmem hrd hbk hbl hii
   gi_wp2_with fail
   refine hRR.mono ?_
   rintro e W3 ⟨rfl,hJ3,hk3⟩
   have HJ3:=aa.mk hJ3
   have TL:=aa.mk hk3
   clear hJ3 hk3 hx0 hx1 hg0
   gi_wp2_with fail
   go_roundw
   case rel=>exact⟨i,pre++[((i:Int),r)],by omega,rfl,by simp;omega,HJ3,⟨by rw[List.map_append,HP.out,HRT.out];rfl⟩,⟨λb hb=>(TL.out.blk b (.inl hb)).trans (HT.out b hb)⟩⟩
   case measure=>simp[intOf]
end Go.Proofs.YtdekaocdmjndaaaGreat
