import Derived.Test.YtdekaocdmjndaaaGreatQ11
set_option maxRecDepth 100000
set_option linter.all false
namespace Go.Proofs.YtdekaocdmjndaaaGreat
open Go.RowKit Go.Shelf ah YtdekaocdmjndaaaGreatW.aj YtdekaocdmjndaaaGreatW.aH
def sr.T6:Bool×List (List Nat×List Nat):=(true,[([],[]),([],[]),([],[]),([],[]),([3],[3]),([],[]),([],[]),([6],[6]),([5,7],[5,7]),([8],[8]),([],[]),([],[]),([10,11],[10,11]),([12],[12]),([0,1,0,1,5,6,7,8,9,13],[0,1]),([14,9,0,1,5,6,7,8,9,13],[9,14]),([2,4,0,1,2,3,4,5,6,7,8,9,10,11,12,13,14,15],[2,4]),([16,13,15,0,1,2,3,4,5,6,7,8,9,10,11,12,13,14,15],[13,16])])
def sr.B6:List Nat:=[0,0,0,0,8,0,0,64,224,480,0,0,3072,7168,16355,32739,65535,131071]
theorem sr.adO:eB .any (opsOf Tryz.f339 6)=sr.T6:=by kernel_rfl
theorem sr.ZK:bI sr.T6.2 sr.B6=true:=by kernel_rfl
set_option maxHeartbeats 4000000 in
theorem ng{W:World}{g3 g2 g6:Nat}{aw:Addr}{cw:Nat}{c s:Int}(h0:W.cell? ⟨g3,0,none⟩=some (.int .i64 c))(h1:W.cell? ⟨g2,0,none⟩=some (.slice (some aw) 2 cw))(h2:W.cell? ⟨g6,0,none⟩=some (.int .i64 s))(hs:¬s=0)(i:Nat)(hi:i<2)(x m r:Int)(hx:W.cell? (aw.add i)=some (.int .i64 x))(hm:IntKind.i64.wrap (c*x)=m)(hr:m.tmod s=r):
  Calls Tryz.prog 263 #[.int .i64 (i:Int),.pointer (some ⟨g3,0,none⟩),.pointer (some ⟨g2,0,none⟩),.pointer (some ⟨g6,0,none⟩)] W λe w'=>e= .returned (.int .i64 r)/\∃n,w'=W.drewN n:=by
 have hi1:(i:Int)<2:=by omega
 go_enter Tryz.func263,Tryz.ntmps263
 go_wp2_with fail
 go_quiet (fail)
 go_wp2
 go_ret
 exact⟨rfl,_,rfl⟩
structure ag6(w:World)(g3 g2 g6 g12:Nat)(aw:Addr)(cw:Nat)(c w0 w1 s:Int):Prop where
 c:aV w g3 [.int .i64 c] 3
 l:aV w g2 [.slice (some aw) 2 cw] 30
 s:aV w g6 [.int .i64 s] 3
 f:aV w g12 [.func (.func 263) #[] #[.pointer (some ⟨g3,0,none⟩),.pointer (some ⟨g2,0,none⟩),.pointer (some ⟨g6,0,none⟩)]] 279
 a0:w.cell? (aw.add 0)=some (.int .i64 w0)
 a1:w.cell? (aw.add 1)=some (.int .i64 w1)
structure Tx(c w0 w1 s r0 r1:Int):Prop where
 nz:¬s=0
 hm0:IntKind.i64.wrap (c*w0)=c*w0
 hm1:IntKind.i64.wrap (c*w1)=c*w1
 hr0:(c*w0).tmod s=r0
 hr1:(c*w1).tmod s=r1
 hb0:0<=r0/\r0<100000000
 hb1:0<=r1/\r1<100000000
set_option maxHeartbeats 4000000 in
theorem Lc{W:World}{g3 g2 g6 g12:Nat}{aw:Addr}{cw:Nat}{c w0 w1 s r0 r1:Int}(h:ag6 W g3 g2 g6 g12 aw cw c w0 w1 s)(hr:Tx c w0 w1 s r0 r1):
  Calls Tryz.prog 265 #[.int .i64 1,.int .i64 0,.pointer (some ⟨g12,0,none⟩)] W λe w'=>e= .returned (.int .i64 (r0-r1))/\∃n,w'=W.drewN n:=by
 have h0:=h.c.cell 0
 have h1:=h.l.cell 0
 have h2:=h.s.cell 0
 have h3:=h.f.cell 0
 simp only[List.getElem?_cons_zero] at h0 h1 h2 h3
 have R7:=aa.mk (λn:Nat=>ng (W:=W.drewN n) h0 h1 h2 hr.nz 0 (by omega) w0 (c*w0) r0 h.a0 hr.hm0 hr.hr0)
 have wL:=aa.mk (λn:Nat=>ng (W:=W.drewN n) h0 h1 h2 hr.nz 1 (by omega) w1 (c*w1) r1 h.a1 hr.hm1 hr.hr1)
 have b0:=hr.hb0
 have b1:=hr.hb1
 have hw:IntKind.i64.wrap (r0-r1)=r0-r1:=IntWalk.i64_in _ (by omega)
 clear h hr h0 h1 h2
 simp only[Int.ofNat_zero,Int.ofNat_one] at R7 wL
 have eg:∀args w,(callFunc 263 args).run Tryz.prog w= .ok (.enter 263 args) w:=enters Tryz.func263 (by kernel_rfl) rfl
 go_enter Tryz.func265,Tryz.ntmps265
 go_wp2_with fail
 go_quiet (first|(go_at_fn 263;with_reducible exact Calls.quiet_of (R7.out _))|(go_at_fn 263;with_reducible exact Calls.quiet_of (wL.out _)))
 go_wp2
 go_ret
 exact⟨rfl,_,rfl⟩
def oH(base:Nat)(ok:Nat->Prop)(w:World)(go cap:Nat)(l:List Int):Prop:=(Kd.int .i64).R 3 w base ok (.slice (some ⟨go,0,none⟩) 2 cap) l
theorem oH.c0{base:Nat}{ok:Nat->Prop}{w:World}{go cap:Nat}{a b:Int}(h:oH base ok w go cap [a,b]):w.cell? ⟨go,0,none⟩=some (.int .i64 a):=(Kd.jk (0:Int) h 0 (by omega) (by omega)).1
theorem oH.c1{base:Nat}{ok:Nat->Prop}{w:World}{go cap:Nat}{a b:Int}(h:oH base ok w go cap [a,b]):w.cell? ⟨go,1,none⟩=some (.int .i64 b):=(Kd.jk (0:Int) h 1 (by omega) (by omega)).1
theorem oH.f0{base:Nat}{ok:Nat->Prop}{w:World}{go cap:Nat}{a b:Int}(h:oH base ok w go cap [a,b]):w.frozen? ⟨go,0,none⟩=false:=(Kd.jk (0:Int) h 0 (by omega) (by omega)).2
theorem oH.f1{base:Nat}{ok:Nat->Prop}{w:World}{go cap:Nat}{a b:Int}(h:oH base ok w go cap [a,b]):w.frozen? ⟨go,1,none⟩=false:=(Kd.jk (0:Int) h 1 (by omega) (by omega)).2
theorem oH.p0{base:Nat}{ok:Nat->Prop}{w:World}{go cap:Nat}{a b:Int}(h:oH base ok w go cap [a,b])(x:Int):oH base ok (w.setCell ⟨go,0,none⟩ (.int .i64 x)) go cap [x,b]:=Kd.uQ h 0 x
theorem oH.p1{base:Nat}{ok:Nat->Prop}{w:World}{go cap:Nat}{a b:Int}(h:oH base ok w go cap [a,b])(x:Int):oH base ok (w.setCell ⟨go,1,none⟩ (.int .i64 x)) go cap [a,x]:=Kd.uQ h 1 x
theorem oH.drewN{base:Nat}{ok:Nat->Prop}{w:World}{go cap:Nat}{l:List Int}(h:oH base ok w go cap l)(n:Nat):oH base ok (w.drewN n) go cap l:=Kd.bQ h n
set_option maxHeartbeats 4000000 in
theorem GQ{w:World}{base go cap g:Nat}{ok:Nat->Prop}{cb:Array Value}(d:Int)(hO:oH base ok w go cap [0,1])(eg:∀args w,(callFunc g args).run Tryz.prog w= .ok (.enter g args) w)
  (hc:∀W,aY w.heap.size (λb=>b=go) w W->Calls Tryz.prog g (#[.int .i64 1,.int .i64 0]++cb) W λe w'=>e= .returned (.int .i64 d)/\∃n,w'=W.drewN n):
  Calls Tryz.prog 339 #[.slice (some ⟨go,0,none⟩) 2 cap,.int .i64 0,.int .i64 2,.func (.func g) #[] cb] w λe w'=>e= .returned (.tuple #[])/\oH base ok w' go cap (if d<0 then [1,0] else [0,1])/\aY w.heap.size (λb=>b=go) w w':=by
 have HO:=aa.mk hO
 have HC:=aa.mk hc
 have HF:=aa.mk (show ∃l,(if d<0 then [1,0] else [0,1]:List Int)=l from⟨_,rfl⟩)
 obtain⟨F,hF⟩:=HF.out
 rw[hF]
 have HF:=aa.mk hF
 have EG:=aa.mk eg
 clear hO hc hF eg
 go_enter Tryz.func339,Tryz.ntmps339
 go_wp2_with fail
 go_loopw [8] (λv8 wr=>aa (aY w.heap.size (λb=>b=go) w wr)/\((v8= .int .i64 1/\aa (oH base ok wr go cap [0,1]))\/(v8= .int .i64 2/\aa (oH base ok wr go cap F)))) (λv8 _=>2-(intOf v8).toNat)
 case atStart=>exact⟨⟨aY.refl _ _ _⟩,.inl ⟨rfl,HO⟩⟩
 case round=>
  obtain⟨HK,h⟩:=hrel
  rcases h with⟨rfl,BO⟩|⟨rfl,BO⟩
  .go_wp2_with fail
   go_loopw [9] (λv9 wr=>aa (aY w.heap.size (λb=>b=go) w wr)/\((v9= .int .i64 1/\aa (oH base ok wr go cap [0,1]))\/(v9= .int .i64 0/\aa (oH base ok wr go cap F)))) (λv9 _=>(intOf v9).toNat)
   case atStart=>exact⟨HK,.inl ⟨rfl,BO⟩⟩
   case round=>
    clear HK BO
    obtain⟨HK,h⟩:=hrel
    rcases h with⟨rfl,BO⟩|⟨rfl,BO⟩
    .have h0:=BO.out.c0
     have h1:=BO.out.c1
     have HCn:=aa.mk (λn:Nat=>HC.out (wr.drewN n) (HK.out.drewN n))
     have eg:=EG.out
     by_cases hd:d<0
     .have hdb:decide (d<0)=true:=decide_eq_true hd
      have YX:F=[1,0]:=by have:=HF.out;rw[if_pos hd] at this;exact this.symm
      have HFT:=aa.mk YX
      clear YX hd
      go_wp2_with fail
      go_quiet ((go_at_fn g;with_reducible exact Calls.quiet_of (HCn.out _)))
      replace BO:=aa.mk (BO.out.drewN nq)
      replace HK:=aa.mk (HK.out.drewN nq)
      replace h0:(wr.drewN nq).cell? ⟨go,0,none⟩=some (.int .i64 0):=h0
      replace h1:(wr.drewN nq).cell? ⟨go,1,none⟩=some (.int .i64 1):=h1
      clear HCn eg
      generalize wr.drewN nq=wd at BO HK h0 h1 ⊢
      go_wp2_with fail
      have hwz:wrap64 0=0:=IntWalk.wrap64_in _ (by omega)
      refine fF (n:=18) (S:=λw'=>w'.cell? ⟨go,0,none⟩=some (.int .i64 0)/\w'.cell? ⟨go,1,none⟩=some (.int .i64 1)) (ds:=[15,17]) #[O,O,O,O,O,O,O,O,O,O,O,O,O,O,O,O,O,O] (by kernel_rfl) rfl rfl ⟨h0,h1⟩ (λhHeld=>?_);refine bG sr.adO sr.ZK (λau cz=>?_)
      replace BO:=aa.mk (show oH base ok wd.drew go cap _ from Kd.bX BO.out)
      replace HK:=aa.mk HK.out.drew
      replace h0:wd.drew.cell? ⟨go,0,none⟩=some (.int .i64 0):=h0
      replace h1:wd.drew.cell? ⟨go,1,none⟩=some (.int .i64 1):=h1
      generalize wd.drew=we at BO HK h0 h1 hHeld ⊢
      refine bq 0 37 #[I,O,O,O,O,O,O,O,O,O,O,O,O,O,O,O,O,O] au (h:=?_)
      refine bq 1 38 #[I,I,O,O,O,O,O,O,O,O,O,O,O,O,O,O,O,O] au (h:=?_)
      refine bq 2 39 #[I,I,I,O,O,O,O,O,O,O,O,O,O,O,O,O,O,O] au (h:=?_)
      refine bq 3 40 #[I,I,I,I,O,O,O,O,O,O,O,O,O,O,O,O,O,O] au (h:=?_)
      refine bq 4 41 #[I,I,I,I,I,O,O,O,O,O,O,O,O,O,O,O,O,O] au (h:=?_)
      refine bq 5 42 #[I,I,I,I,I,I,O,O,O,O,O,O,O,O,O,O,O,O] au (h:=?_)
      refine bq 6 43 #[I,I,I,I,I,I,I,O,O,O,O,O,O,O,O,O,O,O] au (h:=?_)
      refine bq 7 44 #[I,I,I,I,I,I,I,I,O,O,O,O,O,O,O,O,O,O] au (h:=?_)
      refine bq 8 45 #[I,I,I,I,I,I,I,I,I,O,O,O,O,O,O,O,O,O] au (h:=?_)
      refine fJ 9 46 #[I,I,I,I,I,I,I,I,I,I,O,O,O,O,O,O,O,O] au cz hHeld (hy:=by(rintro w' ⟨s0,s1⟩;go_simp;with_reducible rfl)) (h:=?_)
      refine bq 10 47 #[I,I,I,I,I,I,I,I,I,I,I,O,O,O,O,O,O,O] au (h:=?_)
      refine bq 11 48 #[I,I,I,I,I,I,I,I,I,I,I,I,O,O,O,O,O,O] au (h:=?_)
      refine bq 12 49 #[I,I,I,I,I,I,I,I,I,I,I,I,I,O,O,O,O,O] au (h:=?_)
      refine fJ 13 50 #[I,I,I,I,I,I,I,I,I,I,I,I,I,I,O,O,O,O] au cz hHeld (hy:=by(rintro w' ⟨s0,s1⟩;go_simp;with_reducible rfl)) (h:=?_)
      refine bq 14 51 #[I,I,I,I,I,I,I,I,I,I,I,I,I,I,I,O,O,O] au (h:=?_)
      refine fB (i:=15) (N:=none) #[I,I,I,I,I,I,I,I,I,I,I,I,I,I,I,I,O,O] rfl rfl (aM au.out (by kernel_rfl)) (by decide) (λK hK=>?_)
      have iD:=h1
      have lG:=BO.out.f1
      refine kg (w1:=?_) (by rfl) rfl ?_ ?_
      rotate_left
      .go_simp
       rfl
      refine hK.out _ _ ?_
      clear hK K iD lG
      have BO1:=aa.mk (BO.out.p1 0)
      have pX:=aa.mk (HK.out.setCell (p:=⟨go,1,none⟩) (.inl rfl) (.int .i64 0))
      clear BO HK h0 h1
      have h0:=BO1.out.c0
      generalize we.setCell ⟨go,1,none⟩ (.int .i64 0)=wf at BO1 pX h0 ⊢
      refine bq 16 52 #[I,I,I,I,I,I,I,I,I,I,I,I,I,I,I,I,I,O] au (h:=?_)
      refine fB (i:=17) (N:=none) #[I,I,I,I,I,I,I,I,I,I,I,I,I,I,I,I,I,I] rfl rfl (aM au.out (by kernel_rfl)) (by decide) (λK hK=>?_)
      have iD:=h0
      have lG:=BO1.out.f0
      refine kg (w1:=?_) (by rfl) rfl ?_ ?_
      rotate_left
      .go_simp
       rfl
      refine hK.out _ _ ?_
      clear hK K iD lG
      have BO2:=aa.mk (BO1.out.p0 1)
      have IB:=aa.mk (pX.out.setCell (p:=⟨go,0,none⟩) (.inl rfl) (.int .i64 1))
      clear BO1 pX h0
      generalize wf.setCell ⟨go,0,none⟩ (.int .i64 1)=wg at BO2 IB ⊢
      refine fM (bP au.out (by kernel_rfl)) ?_
      clear hwz
      go_wp2_with fail
      go_roundw
      case rel=>exact⟨IB,.inr ⟨rfl,by rw[HFT.out];exact BO2⟩⟩
      case measure=>simp[intOf]
     .have hdb:decide (d<0)=false:=decide_eq_false hd
      have YX:F=[0,1]:=by have:=HF.out;rw[if_neg hd] at this;exact this.symm
      have HFT:=aa.mk YX
      clear YX hd
      go_wp2_with fail
      go_quiet ((go_at_fn g;with_reducible exact Calls.quiet_of (HCn.out _)))
      replace BO:=aa.mk (BO.out.drewN nq)
      replace HK:=aa.mk (HK.out.drewN nq)
      clear HCn eg h0 h1
      generalize wr.drewN nq=wd at BO HK ⊢
      go_wp2_with fail
      go_roundw
      case rel=>exact⟨HK,.inr ⟨rfl,by rw[HFT.out];exact BO⟩⟩
      case measure=>simp[intOf]
    .go_wp2_with fail
     go_quiet (fail)
     replace BO:=aa.mk (BO.out.drewN nq)
     replace HK:=aa.mk (HK.out.drewN nq)
     generalize wr.drewN nq=wd at BO HK ⊢
     go_wp2_with fail
     go_roundw
     case rel=>exact⟨HK,.inr ⟨rfl,BO⟩⟩
     case measure=>simp[intOf]
  .go_wp2_with fail
   go_end0
   exact⟨rfl,BO.out,HK.out⟩
set_option maxHeartbeats 4000000 in
theorem AL{w:World}{base go cap g:Nat}{ok:Nat->Prop}{cb:Array Value}(d:Int)(hO:oH base ok w go cap [0,1])(eg:∀args w,(callFunc g args).run Tryz.prog w= .ok (.enter g args) w)
  (hc:∀W,aY w.heap.size (λb=>b=go) w W->Calls Tryz.prog g (#[.int .i64 1,.int .i64 0]++cb) W λe w'=>e= .returned (.int .i64 d)/\∃n,w'=W.drewN n):
  Calls Tryz.prog 319 #[.slice (some ⟨go,0,none⟩) 2 cap,.int .i64 2,.func (.func g) #[] cb] w λe w'=>e= .returned (.tuple #[])/\oH base ok w' go cap (if d<0 then [1,0] else [0,1])/\aY w.heap.size (λb=>b=go) w w':=by
 have HI:=aa.mk (GQ (cap:=cap) (cb:=cb) d hO eg hc)
 obtain⟨F,hF⟩:∃l,(if d<0 then [1,0] else [0,1]:List Int)=l:=⟨_,rfl⟩
 rw[hF] at HI ⊢
 clear hO hc eg hF
 go_enter Tryz.func319,Tryz.ntmps319
 go_wp2_with fail
 go_loopw [7,8] (λv7 v8 wr=>v7= .int .i64 0/\v8= .int .i64 20/\wr=w) (λ_ _ _=>0)
 case atStart=>exact⟨rfl,rfl,rfl⟩
 case round=>
  obtain⟨rfl,rfl,rfl⟩:=hrel
  go_wp2_with fail
  refine HI.out.mono ?_
  rintro e w1 ⟨rfl,hb,hk⟩
  have HB:=aa.mk hb
  have HK:=aa.mk hk
  clear hb hk HI
  go_wp2_with fail
  go_loopw [6] (λv6 w2=>v6= .int .i64 20/\w2=w1) (λ_ _=>0)
  case atStart=>exact⟨rfl,rfl⟩
  case round=>
   obtain⟨rfl,rfl⟩:=hrel
   go_wp2_with fail
   go_end0
   exact⟨rfl,HB.out,HK.out⟩
theorem DY{w:World}{base go cap g:Nat}{ok:Nat->Prop}{cb:Array Value}(d:Int)(hO:oH base ok w go cap [0,1])(eg:∀args w,(callFunc g args).run Tryz.prog w= .ok (.enter g args) w)
  (hc:∀W,aY w.heap.size (λb=>b=go) w W->Calls Tryz.prog g (#[.int .i64 1,.int .i64 0]++cb) W λe w'=>e= .returned (.int .i64 d)/\∃n,w'=W.drewN n):
  Calls Tryz.prog 264 #[.slice (some ⟨go,0,none⟩) 2 cap,.func (.func g) #[] cb] w λe w'=>e= .returned (.tuple #[])/\oH base ok w' go cap (if d<0 then [1,0] else [0,1])/\aY w.heap.size (λb=>b=go) w w':=by
 have HI:=aa.mk (AL (cap:=cap) (cb:=cb) d hO eg hc)
 obtain⟨F,hF⟩:∃l,(if d<0 then [1,0] else [0,1]:List Int)=l:=⟨_,rfl⟩
 rw[hF] at HI ⊢
 clear hO hc eg hF
 go_enter Tryz.func264,Tryz.ntmps264
 go_wp2_with fail
 refine HI.out.mono ?_
 rintro e w1 ⟨rfl,hb,hk⟩
 have HB:=aa.mk hb
 have HK:=aa.mk hk
 clear hb hk HI
 go_wp2_with fail
 go_end0
 exact⟨rfl,HB.out,HK.out⟩
open Go.RowKit Go.Shelf ah YtdekaocdmjndaaaGreatW.aj YtdekaocdmjndaaaGreatW.aH YtdekaocdmjndaaaGreatW.eu
theorem Kg(g:Nat)(first cap:Array Value)(hg:∀args w,(callFunc g args).run Tryz.prog w= .ok (.enter g args) w)(p:Int->Bool)(x:Int)(gp:Nat)(w:World)
  (hc:w.cell? ⟨gp,0,none⟩=some (.func (.func g) first cap)) (hp:fP g first cap p w):
  Calls Tryz.prog 225 ((#[]:Array Value).push (ji x)++#[.pointer (some ⟨gp,0,none⟩)]) w λe w'=>e= .returned (.bool (!p x))/\Below w.heap.size w w':=by
 simp only[Array.empty_append,List.push_toArray,List.append_toArray,List.nil_append,List.cons_append,ji]
 have PW:gp<w.heap.size:=World.block_lt_of_cell? w _ hc
 have HP:=aa.mk hp
 clear hp
 go_enter Tryz.func225,Tryz.ntmps225
 go_wp2_with fail
 have hc:=HP.out _ x (Below.refl _ _)
 simp only[ji] at hc
 refine hc.mono ?_
 rintro e w' ⟨rfl,hb⟩
 obtain⟨b,hb1⟩:∃b,p x=b:=⟨_,rfl⟩
 rw[hb1]
 go_wp2
 go_ret
 exact⟨bB (by rw[hb1]),bA (Below.refl _ _) hb⟩
theorem Ei(g:Nat)(first cap:Array Value)(hg:∀args w,(callFunc g args).run Tryz.prog w= .ok (.enter g args) w)(p:Int->Bool)(A:Option Addr)(c:Nat)(xs:List Int)(w:World)
  (hr:Kd.C (Kd.int .i64) w A xs.length xs) (hlen:xs.length<=9223372036854775807) (hp:fP g first cap p w):
  Calls Tryz.prog 156 #[.slice A xs.length c,.func (.func g) first cap] w λe w'=>e= .returned (.bool (xs.all p))/\Below w.heap.size w w':=by
 go_enter Tryz.func156,Tryz.ntmps156
 have HR:=aa.mk hr
 have HP:=aa.mk hp
 clear hr hp
 go_wp2_with fail
 have hB:Below w.heap.size w (w.alloc (.cells #[.func (.func g) first cap] 192)):=(Below.refl _ _).alloc (Nat.le_refl _) _
 refine(mK 225 #[.pointer (some ⟨w.heap.size,0,none⟩)] (enters Tryz.func225 (by kernel_rfl) rfl) (λx=>!p x) A c xs _ (Kd.aC HR.out hB) hlen ?_).mono ?_
 .intro W x hW
  refine Kg g first cap hg p x w.heap.size W ?_ (HP.out.later (hB.trans (hW.mono hB.size)))
  rw[hW.cell (p:=⟨w.heap.size,0,none⟩) (by simp)]
  simp
 rintro e w' ⟨rfl,hb⟩
 have hn:=aa.mk (List.any_eq_not_all_not (l:=xs) (p:=λx=>!p x))
 obtain⟨j,hj⟩:∃j,(xs.any λx=>!p x)=j:=⟨_,rfl⟩
 rw[hj] at hn ⊢
 clear hj
 go_wp2
 go_ret
 exact⟨bB (by rw[hn.out];simp),bA hB hb⟩
theorem CQ(n:Int)(w:World):Calls Tryz.prog 219 #[.int .i64 n] w λe w'=>e= .returned (.bool (aX n 0 10000))/\Below w.heap.size w w':=by
 refine(jJ.calls n (aX n 0 10000) w ?_).mono ?_
 .unfold jJ.f dU.f aX
  by_cases h:0<=n<;>simp[h]
 .rintro e w' ⟨h1,h2⟩
  exact⟨h1,h2.below⟩
theorem lN(n lo hi:Int)(w:World):
  Calls Tryz.prog 220 #[.int .i64 n,.int .i64 lo,.int .i64 hi] w λe w'=>e= .returned (.bool (aX n lo hi))/\Below w.heap.size w w':=by
 refine(dU.calls n lo hi (aX n lo hi) w ?_).mono ?_
 .unfold dU.f aX
  by_cases h:lo<=n<;>simp[h]
 .rintro e w' ⟨h1,h2⟩
  exact⟨h1,h2.below⟩
structure Two(base:Nat)(w:World)(v1 v2:Value)(l1 l2:List Int):Prop where
 r1:(Kd.int .i64).R 3 w base (λ_=>True) v1 l1
 r2:(Kd.int .i64).R 3 w base (λ_=>True) v2 l2
 ne:∀k,v1.ownBlock=some k->some k≠v2.ownBlock
theorem Two.nil(base:Nat)(w:World):Two base w (.slice none 0 0) (.slice none 0 0) [] []:=⟨Kd.iH _ _ _ _ _,Kd.iH _ _ _ _ _,λk hk=>by simp[Value.ownBlock] at hk⟩
theorem Two.symm{base:Nat}{w:World}{v1 v2:Value}{l1 l2:List Int}(h:Two base w v1 v2 l1 l2):Two base w v2 v1 l2 l1:=⟨h.r2,h.r1,λk hk e=>h.ne k e.symm hk.symm⟩
theorem Two.below{base:Nat}{w w':World}{v1 v2:Value}{l1 l2:List Int}(h:Two base w v1 v2 l1 l2)(hb:Below w.heap.size w w'):Two base w' v1 v2 l1 l2:=⟨Kd.dm h.r1 hb,Kd.dm h.r2 hb,h.ne⟩
theorem Two.app1{base:Nat}{w w':World}{v1 v2 v:Value}{l1 l2 l:List Int}(h:Two base w v1 v2 l1 l2)(hR:(Kd.int .i64).R 3 w' base (λ_=>True) v l)(hg:w.grownBy w' v1.ownBlock)(hat:v.ownBlock=v1.ownBlock\/∃b,v.ownBlock=some b/\w.heap.size<=b):Two base w' v v2 l l2:=by
 refine⟨hR,Kd.Pb h.r2 rfl hg h.ne,λk hk=>?_⟩
 rcases hat with hat|⟨b,hb,hle⟩
 .exact h.ne k (hat▸hk)
 .intro e
  have:=(Kd.bL h.r2).1 k e.symm
  rw[hb] at hk
  injection hk with hk
  omega
theorem Two.OX{base:Nat}{w w':World}{v1 v2 v:Value}{l1 l2 l:List Int}(h:Two base w v1 v2 l1 l2)(hR:(Kd.int .i64).R 3 w' base (λ_=>True) v l)(hg:w.grownBy w' v2.ownBlock)(hat:v.ownBlock=v2.ownBlock\/∃b,v.ownBlock=some b/\w.heap.size<=b):Two base w' v1 v l1 l:=(h.symm.app1 hR hg hat).symm
structure JL(w0 w1 c s q0 q1 r0 r1 left p0 p1:Int):Prop where
 b0:0<=w0/\w0<=1000
 b1:0<=w1/\w1<=1000
 bc:0<=c/\c<=10000
 sum:w0+w1=s
 pos:0<s
 m0:0<=c*w0/\c*w0<=10000000
 m1:0<=c*w1/\c*w1<=10000000
 d0:c*w0/s=q0
 d1:c*w1/s=q1
 e0:0<=q0/\q0<=10000
 e1:0<=q1/\q1<=10000
 t0:c*w0%s=r0
 t1:c*w1%s=r1
 lf:c-q0-q1=left
 l01:left=0\/left=1
 parts:if left=0 then p0=q0/\p1=q1 else if r0-r1<0 then p0=q0/\p1=q1+1 else p0=q0+1/\p1=q1
theorem JL.XR{w0 w1 c s q0 q1 r0 r1 left p0 p1:Int}(h:JL w0 w1 c s q0 q1 r0 r1 left p0 p1):Tx c w0 w1 s r0 r1:=by
 have h1:=h.m0
 have h2:=h.m1
 have h3:=h.pos
 have h4:=h.b0
 have h5:=h.b1
 have h6:=h.sum
 refine⟨by omega,IntWalk.i64_in _ (by omega),IntWalk.i64_in _ (by omega),?_,?_,?_,?_⟩
 .rw[Int.tmod_eq_emod_of_nonneg h1.1,h.t0]
 .rw[Int.tmod_eq_emod_of_nonneg h2.1,h.t1]
 .have:=Int.emod_nonneg (c*w0) (b:=s) (by omega)
  have h7:=Int.emod_lt_of_pos (c*w0) h3
  rw[h.t0] at this h7
  omega
 .have:=Int.emod_nonneg (c*w1) (b:=s) (by omega)
  have h7:=Int.emod_lt_of_pos (c*w1) h3
  rw[h.t1] at this h7
  omega
structure DB(w:World)(g2 g6:Nat)(aw:Addr)(cw:Nat)(c w0 w1 s:Int):Prop where
 l:aV w g2 [.slice (some aw) 2 cw] 30
 c:aV w (g2+1) [.int .i64 c] 3
 s:aV w g6 [.int .i64 s] 3
 a0:w.cell? (aw.add 0)=some (.int .i64 w0)
 a1:w.cell? (aw.add 1)=some (.int .i64 w1)
theorem DB.later{w w':World}{g2 g6:Nat}{aw:Addr}{cw:Nat}{c w0 w1 s:Int}{B:Nat}(h:DB w g2 g6 aw cw c w0 w1 s)(hb:Below B w w')(hB:g2+1<g6/\g6<B/\aw.block<B):DB w' g2 g6 aw cw c w0 w1 s:=
 ⟨h.l.move (hb.block _ (by omega)),h.c.move (hb.block _ (by omega)),h.s.move (hb.block _ (by omega)),(hb.cell (p:=aw.add 0) hB.2.2).trans h.a0,(hb.cell (p:=aw.add 1) hB.2.2).trans h.a1⟩
theorem aV.second(w:World)(o:Obj)(cs:List Value)(t:TypeId):aV ((w.alloc o).alloc (.cells cs.toArray t)) (w.heap.size+1) cs t:=by
 have h:=aV.new (w.alloc o) cs t
 have e:(w.alloc o).heap.size=w.heap.size+1:=by simp
 rw[e] at h
 exact h
theorem PO{w:World}{aw:Addr}{w0 w1:Int}(h:(Kd.int .i64).C w (some aw) 2 [w0,w1]):w.cell? (aw.add 0)=some (.int .i64 w0)/\w.cell? (aw.add 1)=some (.int .i64 w1):=by
 obtain⟨ad,e,h0⟩:=Kd.gu h 0 (by omega) (by omega)
 cases e
 obtain⟨ad,e,h1⟩:=Kd.gu h 1 (by omega) (by omega)
 cases e
 exact⟨h0,h1⟩
theorem add1(a:Addr):a.add 1=⟨a.block,a.off+1,none⟩:=by simp[Addr.add]
theorem add0(a:Addr):a.add 0=a:=by simp[Addr.add]
theorem oU{w:World}{base:Nat}{ok:Nat->Prop}{v:Value}{xs:List Int}(h:(Kd.int .i64).R 3 w base ok v xs)(i:Nat)(hi:i<xs.length):∃g c,v= .slice (some ⟨g,0,none⟩) xs.length c/\w.cell? ⟨g,i,none⟩=some (.int .i64 (xs.getD i 0)):=by
 obtain⟨ad,c,rfl⟩:=Kd.FC h (by omega)
 obtain⟨g,rfl⟩:=Kd.Il h
 have:=(Kd.jk (0:Int) h (i:Int) (by omega) (by omega)).1
 exact⟨g,c,rfl,this⟩
theorem KI(w0 w1:Int)(h0:0<=w0/\w0<=1000)(h1:0<=w1/\w1<=1000):cK.f 3 [w0,w1]=some (w0+w1):=by
 simp[cK.f,cK.l0,rd,wrap64]
 omega
set_option maxHeartbeats 40000000 in
theorem DF{w:World}{aw:Addr}{cw:Nat}{w0 w1 c s q0 q1 r0 r1 left p0 p1:Int}(h:(Kd.int .i64).C w (some aw) 2 [w0,w1])(hcw:2<=cw)(hd:JL w0 w1 c s q0 q1 r0 r1 left p0 p1):
  Calls Tryz.prog 206 #[.slice (some aw) 2 cw,.int .i64 c] w λe w'=>(∃v,e= .returned (.tuple #[v,.int .i64 0])/\(Kd.int .i64).R 3 w' w.heap.size (λ_=>True) v [p0,p1])/\Below w.heap.size w w':=by
 have HC:=aa.mk h
 have HD:=aa.mk hd
 have hpos:=hd.pos
 have hb0:=hd.b0
 have hb1:=hd.b1
 have hbc:=hd.bc
 have HS:=aa.mk hd.sum
 clear h hd
 go_enter Tryz.func206,Tryz.ntmps206
 go_wp2_with fail
 have HB3:=aa.mk (ae (ae (Below.refl w.heap.size w) (.cells #[.slice (some aw) 2 cw] 30)) (.cells #[.int .i64 c] 3))
 have B2:=aa.mk ((aV.new w [.slice (some aw) 2 cw] 30).alloc (.cells #[.int .i64 c] 3))
 have B3:=aa.mk (aV.second w (.cells #[.slice (some aw) 2 cw] 30) [.int .i64 c] 3)
 have hs3:w.heap.size+1<((w.alloc (.cells #[.slice (some aw) 2 cw] 30)).alloc (.cells #[.int .i64 c] 3)).heap.size:=by simp
 generalize(w.alloc (.cells #[.slice (some aw) 2 cw] 30)).alloc (.cells #[.int .i64 c] 3)=w3 at HB3 B2 B3 hs3 ⊢
 have hall:[w0,w1].all (λn=>aX n 0 10000)=true:=by simp[aX];omega
 have hcall:=Ei 219 #[] #[] (enters Tryz.func219 (by kernel_rfl) rfl) (λn=>aX n 0 10000) (some aw) cw [w0,w1] w3 (Kd.aC HC.out HB3.out) (by simp) (λW x _=>CQ x W)
 rw[hall] at hcall
 refine hcall.mono ?_
 clear hall hcall
 rintro e w4 ⟨rfl,hb⟩
 have pY:=aa.mk (HB3.out.trans (hb.mono HB3.out.size))
 have B24:=aa.mk (B2.out.below hb)
 have B34:=aa.mk (B3.out.below hb)
 have hs4:=Nat.lt_of_lt_of_le hs3 hb.size
 clear hb HB3 B2 B3 hs3
 have h20:=B24.out.cell 0
 have tJ:=B34.out.cell 0
 simp only[List.getElem?_cons_zero] at h20 tJ
 go_wp2_with fail
 have hwb:aX c 0 100000=true:=by simp[aX];omega
 have hcall:=lN c 0 100000 w4
 rw[hwb] at hcall
 refine hcall.mono ?_
 clear hcall hwb
 rintro e w5 ⟨rfl,hb⟩
 have wM:=aa.mk (pY.out.trans (hb.mono pY.out.size))
 have B25:=aa.mk (B24.out.below hb)
 have B35:=aa.mk (B34.out.below hb)
 have hs5:=Nat.lt_of_lt_of_le hs4 hb.size
 clear hb pY B24 B34 hs4 h20 tJ
 have h20:=B25.out.cell 0
 have tJ:=B35.out.cell 0
 simp only[List.getElem?_cons_zero] at h20 tJ
 go_wp2_with fail
 refine(cK.calls 3 (some aw) cw [w0,w1] (w0+w1) w5 (Kd.aC HC.out wM.out) (by simpa using hcw) (KI w0 w1 hb0 hb1)).mono ?_
 rintro e w6 ⟨rfl,hb⟩
 replace hb:=hb.below
 rw[HS.out]
 have P7:=aa.mk (wM.out.trans (hb.mono wM.out.size))
 have B26:=aa.mk (B25.out.below hb)
 have B36:=aa.mk (B35.out.below hb)
 have hs6:=Nat.lt_of_lt_of_le hs5 hb.size
 clear hb wM B25 B35 hs5 h20 tJ
 have h20:=(B26.out.alloc (.cells #[.int .i64 s] 3)).cell 0
 have tJ:=(B36.out.alloc (.cells #[.int .i64 s] 3)).cell 0
 have Bd:=(aV.new w6 [.int .i64 s] 3).cell 0
 simp only[List.getElem?_cons_zero] at h20 tJ Bd
 have hnz:(s==0)=false:=by simp;omega
 go_wp2_with fail
 have hsz:w6.heap.size<(w6.alloc (.cells #[.int .i64 s] 3)).heap.size:=by simp
 have HB7:=aa.mk (ae P7.out (.cells #[.int .i64 s] 3))
 have haw:aw.block<w.heap.size:=World.block_lt_of_cell? w (aw.add 0) (PO HC.out).1
 have E7:=aa.mk (DB.mk (B26.out.alloc (.cells #[.int .i64 s] 3)) (B36.out.alloc (.cells #[.int .i64 s] 3)) (aV.new w6 [.int .i64 s] 3) ((HB7.out.cell (p:=aw.add 0) haw).trans (PO HC.out).1) ((HB7.out.cell (p:=aw.add 1) haw).trans (PO HC.out).2))
 clear P7 B26 B36 h20 tJ Bd
 generalize w6.alloc (.cells #[.int .i64 s] 3)=w7 at hsz HB7 E7 ⊢
 generalize w6.heap.size=g6 at hsz hs6 E7 ⊢
 have he7:w.heap.size+1<g6/\g6<w7.heap.size/\aw.block<w7.heap.size:=by omega
 have hw7:w.heap.size<=w7.heap.size:=by omega
 clear haw hsz hs6
 go_loopw [7,8,9,35] (λv7 v8 v9 v35 wr=>w7.heap.size<=wr.heap.size/\aa (Below w.heap.size w wr)/\aa (DB wr w.heap.size g6 aw cw c w0 w1 s)/\((v35= .int .i64 0/\v9= .int .i64 c/\aa (Two w7.heap.size wr v7 v8 [] []))\/(v35= .int .i64 1/\v9= .int .i64 (c-q0)/\aa (Two w7.heap.size wr v7 v8 [q0] [0]))\/(v35= .int .i64 2/\v9= .int .i64 left/\aa (Two w7.heap.size wr v7 v8 [q0,q1] [0,1])))) (λ_ _ _ v35 _=>2-(intOf v35).toNat)
 case atStart=>exact⟨Nat.le_refl _,HB7,E7,.inl ⟨rfl,rfl,⟨Two.nil _ _⟩⟩⟩
 case round=>
  clear HB7 E7
  obtain⟨KM,HB,E,h⟩:=hrel
  have h20:=E.out.l.cell 0
  have tJ:=E.out.c.cell 0
  have Bd:=E.out.s.cell 0
  have ha0:wr.cell? aw=some (.int .i64 w0):=by have:=E.out.a0;rw[add0] at this;exact this
  have ha1:wr.cell? ⟨aw.block,aw.off+1,none⟩=some (.int .i64 w1):=by have:=E.out.a1;rw[add1] at this;exact this
  simp only[List.getElem?_cons_zero] at h20 tJ Bd
  rcases h with⟨rfl,rfl,HT⟩|⟨rfl,rfl,HT⟩|⟨rfl,rfl,HT⟩
  .have hm:=HD.out.m0
   have he:=HD.out.e0
   have hq:=HD.out.d0
   go_wp2_with (first|((with_reducible refine dN (b:= .append) (xs:=#[.tmp 40,.tmp 46]) rfl ?_);at_builtin;refine Kd.jF (Kd.int .i64) (w0:=wr) w7.heap.size rfl (.tmp 40) (.tmp 46) 30 3 (.int .i64 0) 8 rfl Tryz.underlying30 info3 rfl (by decide) (by omega) u7 ([]:List Int) q0 [.int .i64 q0] (λ_=>True) (λ_=>False) rfl rfl rfl (λ_ hk=>hk.elim) (λ_ _=>trivial) HT.out.r1 (Below.refl _ _) KM (by simp) ?_;intro v7 wn hon hbn hgn iP;have HT1:=aa.mk (HT.out.app1 hon hgn iP);have HB1:=aa.mk (HB.out.trans (hbn.mono hw7));have E1:=aa.mk (E.out.later hbn he7);have hsn:=Nat.le_trans KM hbn.size;clear hon hbn hgn iP)|((with_reducible refine dN (b:= .append) (xs:=#[.tmp 48,.tmp 50]) rfl ?_);at_builtin;refine Kd.jF (Kd.int .i64) (w0:=wn) w7.heap.size rfl (.tmp 48) (.tmp 50) 30 3 (.int .i64 0) 8 rfl Tryz.underlying30 info3 rfl (by decide) (by omega) u8 ([]:List Int) 0 [.int .i64 0] (λ_=>True) (λ_=>False) rfl rfl rfl (λ_ hk=>hk.elim) (λ_ _=>trivial) HT1.out.r2 (Below.refl _ _) hsn (by simp) ?_;intro v8 wm hon hbn hgn iP;have HT2:=aa.mk (HT1.out.OX hon hgn iP);have HB2:=aa.mk (HB1.out.trans (hbn.mono hw7));have E2:=aa.mk (E1.out.later hbn he7);have hsm:=Nat.le_trans hsn hbn.size;clear hon hbn hgn iP HT1 HB1 E1;obtain⟨ad,cv,e,hcell⟩:=oU HT2.out.r1 0 (by simp);cases e;simp only[List.nil_append,List.cons_append,List.getD_cons_zero,List.getD_cons_succ] at hcell))
   exact⟨⟨hsm,HB2,E2,.inr (.inl ⟨rfl,rfl,HT2⟩)⟩,by simp[intOf]⟩
  .have hm:=HD.out.m1
   have he:=HD.out.e0
   have he1:=HD.out.e1
   have hq:=HD.out.d1
   have hl:=HD.out.lf
   go_wp2_with (first|((with_reducible refine dN (b:= .append) (xs:=#[.tmp 40,.tmp 46]) rfl ?_);at_builtin;refine Kd.jF (Kd.int .i64) (w0:=wr) w7.heap.size rfl (.tmp 40) (.tmp 46) 30 3 (.int .i64 0) 8 rfl Tryz.underlying30 info3 rfl (by decide) (by omega) u7 [q0] q1 [.int .i64 q1] (λ_=>True) (λ_=>False) rfl rfl rfl (λ_ hk=>hk.elim) (λ_ _=>trivial) HT.out.r1 (Below.refl _ _) KM (by simp) ?_;intro v7 wn hon hbn hgn iP;have HT1:=aa.mk (HT.out.app1 hon hgn iP);have HB1:=aa.mk (HB.out.trans (hbn.mono hw7));have E1:=aa.mk (E.out.later hbn he7);have hsn:=Nat.le_trans KM hbn.size;clear hon hbn hgn iP)|((with_reducible refine dN (b:= .append) (xs:=#[.tmp 48,.tmp 50]) rfl ?_);at_builtin;refine Kd.jF (Kd.int .i64) (w0:=wn) w7.heap.size rfl (.tmp 48) (.tmp 50) 30 3 (.int .i64 0) 8 rfl Tryz.underlying30 info3 rfl (by decide) (by omega) u8 [0] 1 [.int .i64 1] (λ_=>True) (λ_=>False) rfl rfl rfl (λ_ hk=>hk.elim) (λ_ _=>trivial) HT1.out.r2 (Below.refl _ _) hsn (by simp) ?_;intro v8 wm hon hbn hgn iP;have HT2:=aa.mk (HT1.out.OX hon hgn iP);have HB2:=aa.mk (HB1.out.trans (hbn.mono hw7));have E2:=aa.mk (E1.out.later hbn he7);have hsm:=Nat.le_trans hsn hbn.size;clear hon hbn hgn iP HT1 HB1 E1;obtain⟨ad,cv,e,hcell⟩:=oU HT2.out.r1 1 (by simp);cases e;simp only[List.nil_append,List.cons_append,List.getD_cons_zero,List.getD_cons_succ] at hcell))
   exact⟨⟨hsm,HB2,E2,.inr (.inr ⟨rfl,rfl,HT2⟩)⟩,by simp[intOf]⟩
  .obtain⟨g7,c7,rfl,Am⟩:=oU HT.out.r1 0 (by simp)
   obtain⟨g8,c8,rfl,_⟩:=oU HT.out.r2 0 (by simp)
   have hne:g7≠g8:=λe=>HT.out.ne g7 (by simp[Value.ownBlock]) (by simp[Value.ownBlock,e])
   obtain⟨_,hb8,aeZ,_⟩:=(Kd.bL HT.out.r2).1 g8 (by simp[Value.ownBlock])
   obtain⟨_,hb7,ae1,_⟩:=(Kd.bL HT.out.r1).1 g7 (by simp[Value.ownBlock])
   clear Am
   have HR:=aa.mk HD.out.XR
   have HR8:=aa.mk (show oH w7.heap.size (λ_=>True) wr g8 c8 [0,1] from HT.out.r2)
   have HR7:=aa.mk (show(Kd.int .i64).R 3 wr w7.heap.size (λ_=>True) (.slice (some ⟨g7,0,none⟩) 2 c7) [q0,q1] from HT.out.r1)
   have FU:=aa.mk (aV.new wr [.func (.func 263) #[] #[.pointer (some ⟨w.heap.size+1,0,none⟩),.pointer (some ⟨w.heap.size,0,none⟩),.pointer (some ⟨g6,0,none⟩)]] 279)
   have Vq:wr.heap.size<(wr.alloc (.cells #[.func (.func 263) #[] #[.pointer (some ⟨w.heap.size+1,0,none⟩),.pointer (some ⟨w.heap.size,0,none⟩),.pointer (some ⟨g6,0,none⟩)]] 279)).heap.size:=by simp
   have IE:=aa.mk (ae HB.out (.cells #[.func (.func 263) #[] #[.pointer (some ⟨w.heap.size+1,0,none⟩),.pointer (some ⟨w.heap.size,0,none⟩),.pointer (some ⟨g6,0,none⟩)]] 279))
   have JD:=aa.mk (show oH w7.heap.size (λ_=>True) _ g8 c8 [0,1] from Kd.bH HR8.out (.cells #[.func (.func 263) #[] #[.pointer (some ⟨w.heap.size+1,0,none⟩),.pointer (some ⟨w.heap.size,0,none⟩),.pointer (some ⟨g6,0,none⟩)]] 279))
   have Pk:=aa.mk (Kd.bH HR7.out (.cells #[.func (.func 263) #[] #[.pointer (some ⟨w.heap.size+1,0,none⟩),.pointer (some ⟨w.heap.size,0,none⟩),.pointer (some ⟨g6,0,none⟩)]] 279))
   have WQ:=aa.mk (E.out.later (ae (Below.refl wr.heap.size wr) (.cells #[.func (.func 263) #[] #[.pointer (some ⟨w.heap.size+1,0,none⟩),.pointer (some ⟨w.heap.size,0,none⟩),.pointer (some ⟨g6,0,none⟩)]] 279)) (by omega))
   go_wp2_with fail
   clear HT HR8 HR7 E HB h20 tJ Bd ha0 ha1
   generalize wr.alloc (.cells #[.func (.func 263) #[] #[.pointer (some ⟨w.heap.size+1,0,none⟩),.pointer (some ⟨w.heap.size,0,none⟩),.pointer (some ⟨g6,0,none⟩)]] 279)=wa at FU Vq IE JD Pk WQ ⊢
   generalize wr.heap.size=g12 at FU Vq aeZ ae1 KM ⊢
   refine(DY (cap:=c8) (r0-r1) JD.out (enters Tryz.func265 (by kernel_rfl) rfl) (λW hK=>?_)).mono ?_
   .refine Lc (g3:=w.heap.size+1) (g2:=w.heap.size) (g6:=g6) (g12:=g12) (aw:=aw) (cw:=cw) ?_ HR.out
    exact⟨WQ.out.c.move (hK.block _ (by omega) (by omega)),WQ.out.l.move (hK.block _ (by omega) (by omega)),WQ.out.s.move (hK.block _ (by omega) (by omega)),FU.out.move (hK.block _ (by omega) (by omega)),(hK.cell (p:=aw.add 0) (by show aw.block<_;omega) (by show ¬aw.block=_;omega)).trans WQ.out.a0,(hK.cell (p:=aw.add 1) (by show aw.block<_;omega) (by show ¬aw.block=_;omega)).trans WQ.out.a1⟩
   rintro e wb ⟨rfl,hO,hK⟩
   have HBb:=aa.mk (show Below w.heap.size w wb from⟨hK.os.trans IE.out.os,hK.tape.trans IE.out.tape,hK.output.trans IE.out.output,Nat.le_trans IE.out.size hK.size,λk hk=>(hK.block k (by omega) (by omega)).trans (IE.out.block k hk)⟩)
   have Iu:=aa.mk (Kd.gz (Kd.wG rfl Pk.out) (λk hk hlt=>hK.block k hlt (by simp only[Value.ownBlock,Option.some.injEq] at hk;omega)))
   have hc8:2<=c8:=(Kd.eZ JD.out).2.1
   clear IE JD Pk WQ FU Vq
   have HO:=aa.mk hO
   have hl:=HD.out.l01
   have hp:=HD.out.parts
   have e0:=HD.out.e0
   have e1:=HD.out.e1
   have hc0:=(oH.c0 (Iu.out:oH _ _ wb g7 c7 [q0,q1]))
   have hc1:=(oH.c1 (Iu.out:oH _ _ wb g7 c7 [q0,q1]))
   have hf0:=(oH.f0 (Iu.out:oH _ _ wb g7 c7 [q0,q1]))
   have hf1:=(oH.f1 (Iu.out:oH _ _ wb g7 c7 [q0,q1]))
   clear hO hK
   rcases hl with rfl|rfl
   .obtain⟨rfl,rfl⟩:p0=q0/\p1=q1:=by rw[if_pos rfl] at hp;exact hp
    clear hp HD
    go_wp2_with fail
    go_loopw [67] (λv67 wc=>v67= .int .i64 0/\wc=wb) (λ_ _=>0)
    case atStart=>exact⟨rfl,rfl⟩
    case round=>
     obtain⟨rfl,rfl⟩:=hrel
     go_wp2_with fail
     go_ret2
     exact⟨⟨_,rfl,Kd.bM (Kd.dG Iu.out hw7) (λ_ _=>trivial)⟩,HBb.out⟩
   .rw[if_neg (by omega)] at hp
    clear HD
    by_cases hd:r0-r1<0
    .rw[if_pos hd] at hp
     have DD:=aa.mk (show oH w7.heap.size (λ_=>True) wb g8 c8 [1,0] by have:=HO.out;rw[if_pos hd] at this;exact this)
     obtain⟨rfl,rfl⟩:=hp
     have ho:=DD.out.c0
     clear HO DD hd HR
     go_wp2_with fail
     go_loopw [67] (λv67 wc=>(v67= .int .i64 0/\wc=wb)\/(v67= .int .i64 1/\wc=wb.setCell ⟨g7,1,none⟩ (.int .i64 (q1+1)))) (λv67 _=>1-(intOf v67).toNat)
     case atStart=>exact .inl ⟨rfl,rfl⟩
     case round=>
      rcases hrel with⟨rfl,rfl⟩|⟨rfl,rfl⟩
      .go_wp2_with fail
       exact⟨.inr ⟨rfl,trivial⟩,by simp[intOf]⟩
      .have HRf:=aa.mk (oH.p1 (Iu.out:oH _ _ wb g7 c7 [p0,q1]) (q1+1))
       have HBf:=aa.mk (HBb.out.setCell (p:=⟨g7,1,none⟩) (by simp only;omega) (.int .i64 (q1+1)))
       generalize wb.setCell ⟨g7,1,none⟩ (.int .i64 (q1+1))=wf at HRf HBf ⊢
       go_wp2_with fail
       go_ret2
       exact⟨⟨_,rfl,Kd.bM (Kd.dG HRf.out hw7) (λ_ _=>trivial)⟩,HBf.out⟩
    .rw[if_neg hd] at hp
     have DD:=aa.mk (show oH w7.heap.size (λ_=>True) wb g8 c8 [0,1] by have:=HO.out;rw[if_neg hd] at this;exact this)
     obtain⟨rfl,rfl⟩:=hp
     have ho:=DD.out.c0
     clear HO DD hd HR
     go_wp2_with fail
     go_loopw [67] (λv67 wc=>(v67= .int .i64 0/\wc=wb)\/(v67= .int .i64 1/\wc=wb.setCell ⟨g7,0,none⟩ (.int .i64 (q0+1)))) (λv67 _=>1-(intOf v67).toNat)
     case atStart=>exact .inl ⟨rfl,rfl⟩
     case round=>
      rcases hrel with⟨rfl,rfl⟩|⟨rfl,rfl⟩
      .go_wp2_with fail
       exact⟨.inr ⟨rfl,trivial⟩,by simp[intOf]⟩
      .have HRf:=aa.mk (oH.p0 (Iu.out:oH _ _ wb g7 c7 [q0,p1]) (q0+1))
       have HBf:=aa.mk (HBb.out.setCell (p:=⟨g7,0,none⟩) (by simp only;omega) (.int .i64 (q0+1)))
       generalize wb.setCell ⟨g7,0,none⟩ (.int .i64 (q0+1))=wf at HRf HBf ⊢
       go_wp2_with fail
       go_ret2
       exact⟨⟨_,rfl,Kd.bM (Kd.dG HRf.out hw7) (λ_ _=>trivial)⟩,HBf.out⟩
end Go.Proofs.YtdekaocdmjndaaaGreat
