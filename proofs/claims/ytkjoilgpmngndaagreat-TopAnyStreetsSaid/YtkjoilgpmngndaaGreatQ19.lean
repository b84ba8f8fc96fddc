import Derived.BigQuiet
import Derived.Deep.QuietTactic
import Derived.Test.YtkjoilgpmngndaaGreatQ13
set_option linter.all false
namespace Go.Proofs.YtkjoilgpmngndaaGreat
open Go.RowKit Go.Shelf Go.Proofs.YtkjoilgpmngndaaGreat.av Go.Proofs.YtkjoilgpmngndaaGreatW.aA Go.Proofs.YtkjoilgpmngndaaGreatW.aJ
def sr.T6:Bool×List (List Nat×List Nat):=(true,[([],[]),([],[]),([],[]),([],[]),([3],[3]),([],[]),([],[]),([6],[6]),([5,7],[5,7]),([8],[8]),([],[]),([],[]),([10,11],[10,11]),([12],[12]),([0,1,0,1,5,6,7,8,9,13],[0,1]),([14,9,0,1,5,6,7,8,9,13],[9,14]),([2,4,0,1,2,3,4,5,6,7,8,9,10,11,12,13,14,15],[2,4]),([16,13,15,0,1,2,3,4,5,6,7,8,9,10,11,12,13,14,15],[13,16])])
def sr.B6:List Nat:=[0,0,0,0,8,0,0,64,224,480,0,0,3072,7168,16355,32739,65535,131071]
theorem sr.Zb:eu .any (opsOf Tryz.f166 6)=sr.T6:=by kernel_rfl
theorem sr.Tm:bO sr.T6.2 sr.B6=true:=by kernel_rfl
set_option maxRecDepth 100000 in
set_option maxHeartbeats 4000000 in
theorem nR{W:World}{g3 g2 g6:Nat}{aw:Addr}{cw:Nat}{c s:Int}(h0:W.cell? ⟨g3,0,none⟩=some (.int .i64 c))(h1:W.cell? ⟨g2,0,none⟩=some (.slice (some aw) 2 cw))(h2:W.cell? ⟨g6,0,none⟩=some (.int .i64 s))(hs:¬s=0)(i:Nat)(hi:i<2)(x m r:Int)(hx:W.cell? (aw.add i)=some (.int .i64 x))(hm:IntKind.i64.wrap (c*x)=m)(hr:m.tmod s=r):
  Calls Tryz.prog 138 #[.int .i64 (i:Int),.pointer (some ⟨g3,0,none⟩),.pointer (some ⟨g2,0,none⟩),.pointer (some ⟨g6,0,none⟩)] W fun e w'=>e= .returned (.int .i64 r)/\∃n,w'=W.drewN n:=by
 have hi1:(i:Int)<2:=by omega
 go_enter Tryz.func138,Tryz.ntmps138
 go_wp2_with fail
 go_quiet (fail)
 go_wp2
 go_ret
 exact⟨rfl,_,rfl⟩
structure alN(w:World)(g3 g2 g6 g12:Nat)(aw:Addr)(cw:Nat)(c w0 w1 s:Int):Prop where
 c:aR w g3 [.int .i64 c] 3
 l:aR w g2 [.slice (some aw) 2 cw] 22
 s:aR w g6 [.int .i64 s] 3
 f:aR w g12 [.func (.func 138) #[] #[.pointer (some ⟨g3,0,none⟩),.pointer (some ⟨g2,0,none⟩),.pointer (some ⟨g6,0,none⟩)]] 229
 a0:w.cell? (aw.add 0)=some (.int .i64 w0)
 a1:w.cell? (aw.add 1)=some (.int .i64 w1)
structure Yx(c w0 w1 s r0 r1:Int):Prop where
 nz:¬s=0
 hm0:IntKind.i64.wrap (c*w0)=c*w0
 hm1:IntKind.i64.wrap (c*w1)=c*w1
 hr0:(c*w0).tmod s=r0
 hr1:(c*w1).tmod s=r1
 hb0:0<=r0/\r0<100000000
 hb1:0<=r1/\r1<100000000
set_option maxRecDepth 100000 in
set_option maxHeartbeats 4000000 in
theorem Qr{W:World}{g3 g2 g6 g12:Nat}{aw:Addr}{cw:Nat}{c w0 w1 s r0 r1:Int}(h:alN W g3 g2 g6 g12 aw cw c w0 w1 s)(hr:Yx c w0 w1 s r0 r1):
  Calls Tryz.prog 140 #[.int .i64 1,.int .i64 0,.pointer (some ⟨g12,0,none⟩)] W fun e w'=>e= .returned (.int .i64 (r0-r1))/\∃n,w'=W.drewN n:=by
 have h0:=h.c.cell 0
 have h1:=h.l.cell 0
 have h2:=h.s.cell 0
 have h3:=h.f.cell 0
 simp only[List.getElem?_cons_zero] at h0 h1 h2 h3
 have Xv:=aa.mk (fun n:Nat=>nR (W:=W.drewN n) h0 h1 h2 hr.nz 0 (by omega) w0 (c*w0) r0 h.a0 hr.hm0 hr.hr0)
 have QO:=aa.mk (fun n:Nat=>nR (W:=W.drewN n) h0 h1 h2 hr.nz 1 (by omega) w1 (c*w1) r1 h.a1 hr.hm1 hr.hr1)
 have b0:=hr.hb0
 have b1:=hr.hb1
 have hw:IntKind.i64.wrap (r0-r1)=r0-r1:=IntWalk.i64_in _ (by omega)
 clear h hr h0 h1 h2
 simp only[Int.ofNat_zero,Int.ofNat_one] at Xv QO
 have eg:∀args w,(callFunc 138 args).run Tryz.prog w= .ok (.enter 138 args) w:=enters Tryz.func138 (by kernel_rfl) rfl
 go_enter Tryz.func140,Tryz.ntmps140
 go_wp2_with fail
 go_quiet (first|(go_at_fn 138;with_reducible exact Calls.quiet_of (Xv.out _))|(go_at_fn 138;with_reducible exact Calls.quiet_of (QO.out _)))
 go_wp2
 go_ret
 exact⟨rfl,_,rfl⟩
def pz(base:Nat)(ok:Nat->Prop)(w:World)(go cap:Nat)(l:List Int):Prop:=(Kd.int .i64).R 3 w base ok (.slice (some ⟨go,0,none⟩) 2 cap) l
theorem pz.c0{base:Nat}{ok:Nat->Prop}{w:World}{go cap:Nat}{a b:Int}(h:pz base ok w go cap [a,b]):w.cell? ⟨go,0,none⟩=some (.int .i64 a):=(Kd.iR (0:Int) h 0 (by omega) (by omega)).1
theorem pz.c1{base:Nat}{ok:Nat->Prop}{w:World}{go cap:Nat}{a b:Int}(h:pz base ok w go cap [a,b]):w.cell? ⟨go,1,none⟩=some (.int .i64 b):=(Kd.iR (0:Int) h 1 (by omega) (by omega)).1
theorem pz.f0{base:Nat}{ok:Nat->Prop}{w:World}{go cap:Nat}{a b:Int}(h:pz base ok w go cap [a,b]):w.frozen? ⟨go,0,none⟩=false:=(Kd.iR (0:Int) h 0 (by omega) (by omega)).2
theorem pz.f1{base:Nat}{ok:Nat->Prop}{w:World}{go cap:Nat}{a b:Int}(h:pz base ok w go cap [a,b]):w.frozen? ⟨go,1,none⟩=false:=(Kd.iR (0:Int) h 1 (by omega) (by omega)).2
theorem pz.p0{base:Nat}{ok:Nat->Prop}{w:World}{go cap:Nat}{a b:Int}(h:pz base ok w go cap [a,b])(x:Int):pz base ok (w.setCell ⟨go,0,none⟩ (.int .i64 x)) go cap [x,b]:=Kd.rX h 0 x
theorem pz.p1{base:Nat}{ok:Nat->Prop}{w:World}{go cap:Nat}{a b:Int}(h:pz base ok w go cap [a,b])(x:Int):pz base ok (w.setCell ⟨go,1,none⟩ (.int .i64 x)) go cap [a,x]:=Kd.rX h 1 x
theorem pz.drewN{base:Nat}{ok:Nat->Prop}{w:World}{go cap:Nat}{l:List Int}(h:pz base ok w go cap l)(n:Nat):pz base ok (w.drewN n) go cap l:=Kd.gM h n
set_option maxRecDepth 100000 in
set_option maxHeartbeats 4000000 in
theorem MS{w:World}{base go cap g:Nat}{ok:Nat->Prop}{cb:Array Value}(d:Int)(hO:pz base ok w go cap [0,1])(eg:∀args w,(callFunc g args).run Tryz.prog w= .ok (.enter g args) w)
  (hc:∀W,bq w.heap.size (fun b=>b=go) w W->Calls Tryz.prog g (#[.int .i64 1,.int .i64 0]++cb) W fun e w'=>e= .returned (.int .i64 d)/\∃n,w'=W.drewN n):
  Calls Tryz.prog 166 #[.slice (some ⟨go,0,none⟩) 2 cap,.int .i64 0,.int .i64 2,.func (.func g) #[] cb] w fun e w'=>e= .returned (.tuple #[])/\pz base ok w' go cap (if d<0 then [1,0] else [0,1])/\bq w.heap.size (fun b=>b=go) w w':=by
 have HO:=aa.mk hO
 have HC:=aa.mk hc
 have HF:=aa.mk (show ∃l,(if d<0 then [1,0] else [0,1]:List Int)=l from⟨_,rfl⟩)
 obtain⟨F,hF⟩:=HF.out
 rw[hF]
 have HF:=aa.mk hF
 have EG:=aa.mk eg
 clear hO hc hF eg
 go_enter Tryz.func166,Tryz.ntmps166
 go_wp2_with fail
 go_loopw [8] (fun v8 wr=>aa (bq w.heap.size (fun b=>b=go) w wr)/\((v8= .int .i64 1/\aa (pz base ok wr go cap [0,1]))\/(v8= .int .i64 2/\aa (pz base ok wr go cap F)))) (fun v8 _=>2-(intOf v8).toNat)
 case atStart=>exact⟨⟨bq.refl _ _ _⟩,.inl ⟨rfl,HO⟩⟩
 case round=>
  obtain⟨HK,h⟩:=hrel
  rcases h with⟨rfl,BO⟩|⟨rfl,BO⟩
  .go_wp2_with fail
   go_loopw [9] (fun v9 wr=>aa (bq w.heap.size (fun b=>b=go) w wr)/\((v9= .int .i64 1/\aa (pz base ok wr go cap [0,1]))\/(v9= .int .i64 0/\aa (pz base ok wr go cap F)))) (fun v9 _=>(intOf v9).toNat)
   case atStart=>exact⟨HK,.inl ⟨rfl,BO⟩⟩
   case round=>
    clear HK BO
    obtain⟨HK,h⟩:=hrel
    rcases h with⟨rfl,BO⟩|⟨rfl,BO⟩
    .have h0:=BO.out.c0
     have h1:=BO.out.c1
     have HCn:=aa.mk (fun n:Nat=>HC.out (wr.drewN n) (HK.out.drewN n))
     have eg:=EG.out
     by_cases hd:d<0
     .have hdb:decide (d<0)=true:=decide_eq_true hd
      have hFt:F=[1,0]:=by have:=HF.out;rw[if_pos hd] at this;exact this.symm
      have HFT:=aa.mk hFt
      clear hFt hd
      go_wp2_with fail
      go_quiet ((go_at_fn g;with_reducible exact Calls.quiet_of (HCn.out _)))
      replace BO:=aa.mk (BO.out.drewN nq)
      replace HK:=aa.mk (HK.out.drewN nq)
      replace h0:(wr.drewN nq).cell? ⟨go,0,none⟩=some (.int .i64 0):=h0
      replace h1:(wr.drewN nq).cell? ⟨go,1,none⟩=some (.int .i64 1):=h1
      clear HCn eg
      generalize wr.drewN nq=wd at BO HK h0 h1 ⊢
      go_wp2_with fail
      have hwz:wrap64 0=0:=IntWalk.wrap64_in _ (by omega)
      refine gz (n:=18) (S:=fun w'=>w'.cell? ⟨go,0,none⟩=some (.int .i64 0)/\w'.cell? ⟨go,1,none⟩=some (.int .i64 1)) (ds:=[15,17]) #[O,O,O,O,O,O,O,O,O,O,O,O,O,O,O,O,O,O] (by kernel_rfl) rfl rfl ⟨h0,h1⟩ (fun hHeld=>?_);refine bK sr.Zb sr.Tm (fun aC bW=>?_)
      replace BO:=aa.mk (show pz base ok wd.drew go cap _ from Kd.fE BO.out)
      replace HK:=aa.mk HK.out.drew
      replace h0:wd.drew.cell? ⟨go,0,none⟩=some (.int .i64 0):=h0
      replace h1:wd.drew.cell? ⟨go,1,none⟩=some (.int .i64 1):=h1
      generalize wd.drew=we at BO HK h0 h1 hHeld ⊢
      refine bI 0 37 #[I,O,O,O,O,O,O,O,O,O,O,O,O,O,O,O,O,O] aC (h:=?_)
      refine bI 1 38 #[I,I,O,O,O,O,O,O,O,O,O,O,O,O,O,O,O,O] aC (h:=?_)
      refine bI 2 39 #[I,I,I,O,O,O,O,O,O,O,O,O,O,O,O,O,O,O] aC (h:=?_)
      refine bI 3 40 #[I,I,I,I,O,O,O,O,O,O,O,O,O,O,O,O,O,O] aC (h:=?_)
      refine bI 4 41 #[I,I,I,I,I,O,O,O,O,O,O,O,O,O,O,O,O,O] aC (h:=?_)
      refine bI 5 42 #[I,I,I,I,I,I,O,O,O,O,O,O,O,O,O,O,O,O] aC (h:=?_)
      refine bI 6 43 #[I,I,I,I,I,I,I,O,O,O,O,O,O,O,O,O,O,O] aC (h:=?_)
      refine bI 7 44 #[I,I,I,I,I,I,I,I,O,O,O,O,O,O,O,O,O,O] aC (h:=?_)
      refine bI 8 45 #[I,I,I,I,I,I,I,I,I,O,O,O,O,O,O,O,O,O] aC (h:=?_)
      refine eP 9 46 #[I,I,I,I,I,I,I,I,I,I,O,O,O,O,O,O,O,O] aC bW hHeld (hy:=by(rintro w' ⟨s0,s1⟩;go_simp;with_reducible rfl)) (h:=?_)
      refine bI 10 47 #[I,I,I,I,I,I,I,I,I,I,I,O,O,O,O,O,O,O] aC (h:=?_)
      refine bI 11 48 #[I,I,I,I,I,I,I,I,I,I,I,I,O,O,O,O,O,O] aC (h:=?_)
      refine bI 12 49 #[I,I,I,I,I,I,I,I,I,I,I,I,I,O,O,O,O,O] aC (h:=?_)
      refine eP 13 50 #[I,I,I,I,I,I,I,I,I,I,I,I,I,I,O,O,O,O] aC bW hHeld (hy:=by(rintro w' ⟨s0,s1⟩;go_simp;with_reducible rfl)) (h:=?_)
      refine bI 14 51 #[I,I,I,I,I,I,I,I,I,I,I,I,I,I,I,O,O,O] aC (h:=?_)
      refine dW (i:=15) (N:=none) #[I,I,I,I,I,I,I,I,I,I,I,I,I,I,I,I,O,O] rfl rfl (aN aC.out (by kernel_rfl)) (by decide) (fun K hK=>?_)
      have eB:=h1
      have gP:=BO.out.f1
      refine ib (w1:=?_) (by rfl) rfl ?_ ?_
      rotate_left
      .go_simp
       rfl
      refine hK.out _ _ ?_
      clear hK K eB gP
      have BO1:=aa.mk (BO.out.p1 0)
      have qU:=aa.mk (HK.out.setCell (p:=⟨go,1,none⟩) (.inl rfl) (.int .i64 0))
      clear BO HK h0 h1
      have h0:=BO1.out.c0
      generalize we.setCell ⟨go,1,none⟩ (.int .i64 0)=wf at BO1 qU h0 ⊢
      refine bI 16 52 #[I,I,I,I,I,I,I,I,I,I,I,I,I,I,I,I,I,O] aC (h:=?_)
      refine dW (i:=17) (N:=none) #[I,I,I,I,I,I,I,I,I,I,I,I,I,I,I,I,I,I] rfl rfl (aN aC.out (by kernel_rfl)) (by decide) (fun K hK=>?_)
      have eB:=h0
      have gP:=BO1.out.f0
      refine ib (w1:=?_) (by rfl) rfl ?_ ?_
      rotate_left
      .go_simp
       rfl
      refine hK.out _ _ ?_
      clear hK K eB gP
      have BO2:=aa.mk (BO1.out.p0 1)
      have UD:=aa.mk (qU.out.setCell (p:=⟨go,0,none⟩) (.inl rfl) (.int .i64 1))
      clear BO1 qU h0
      generalize wf.setCell ⟨go,0,none⟩ (.int .i64 1)=wg at BO2 UD ⊢
      refine fF (bQ aC.out (by kernel_rfl)) ?_
      clear hwz
      go_wp2_with fail
      go_roundw
      case rel=>exact⟨UD,.inr ⟨rfl,by rw[HFT.out];exact BO2⟩⟩
      case measure=>simp[intOf]
     .have hdb:decide (d<0)=false:=decide_eq_false hd
      have hFt:F=[0,1]:=by have:=HF.out;rw[if_neg hd] at this;exact this.symm
      have HFT:=aa.mk hFt
      clear hFt hd
      go_wp2_with fail
      go_quiet ((go_at_fn g;with_reducible exact Calls.quiet_of (HCn.out _)))
      replace BO:=aa.mk (BO.out.drewN nq)
      replace HK:=aa.mk (HK.out.drewN nq)
      clear HCn eg h0 h1
      generalize wr.drewN nq=wd at BO HK ⊢
      go_wp2_with fail
      go_roundw
      case rel=>exact⟨HK,.inr ⟨rfl,by rw[HFT.out];exact BO⟩⟩
      case measure=>simp[intOf]
    .go_wp2_with fail
     go_quiet (fail)
     replace BO:=aa.mk (BO.out.drewN nq)
     replace HK:=aa.mk (HK.out.drewN nq)
     generalize wr.drewN nq=wd at BO HK ⊢
     go_wp2_with fail
     go_roundw
     case rel=>exact⟨HK,.inr ⟨rfl,BO⟩⟩
     case measure=>simp[intOf]
  .go_wp2_with fail
   go_end0
   exact⟨rfl,BO.out,HK.out⟩
set_option maxRecDepth 100000 in
set_option maxHeartbeats 4000000 in
theorem Cj{w:World}{base go cap g:Nat}{ok:Nat->Prop}{cb:Array Value}(d:Int)(hO:pz base ok w go cap [0,1])(eg:∀args w,(callFunc g args).run Tryz.prog w= .ok (.enter g args) w)
  (hc:∀W,bq w.heap.size (fun b=>b=go) w W->Calls Tryz.prog g (#[.int .i64 1,.int .i64 0]++cb) W fun e w'=>e= .returned (.int .i64 d)/\∃n,w'=W.drewN n):
  Calls Tryz.prog 159 #[.slice (some ⟨go,0,none⟩) 2 cap,.int .i64 2,.func (.func g) #[] cb] w fun e w'=>e= .returned (.tuple #[])/\pz base ok w' go cap (if d<0 then [1,0] else [0,1])/\bq w.heap.size (fun b=>b=go) w w':=by
 have HI:=aa.mk (MS (cap:=cap) (cb:=cb) d hO eg hc)
 obtain⟨F,hF⟩:∃l,(if d<0 then [1,0] else [0,1]:List Int)=l:=⟨_,rfl⟩
 rw[hF] at HI ⊢
 clear hO hc eg hF
 go_enter Tryz.func159,Tryz.ntmps159
 go_wp2_with fail
 go_loopw [7,8] (fun v7 v8 wr=>v7= .int .i64 0/\v8= .int .i64 20/\wr=w) (fun _ _ _=>0)
 case atStart=>exact⟨rfl,rfl,rfl⟩
 case round=>
  obtain⟨rfl,rfl,rfl⟩:=hrel
  go_wp2_with fail
  refine HI.out.mono ?_
  rintro e w1 ⟨rfl,hb,hk⟩
  have HB:=aa.mk hb
  have HK:=aa.mk hk
  clear hb hk HI
  go_wp2_with fail
  go_loopw [6] (fun v6 w2=>v6= .int .i64 20/\w2=w1) (fun _ _=>0)
  case atStart=>exact⟨rfl,rfl⟩
  case round=>
   obtain⟨rfl,rfl⟩:=hrel
   go_wp2_with fail
   go_end0
   exact⟨rfl,HB.out,HK.out⟩
theorem Jj{w:World}{base go cap g:Nat}{ok:Nat->Prop}{cb:Array Value}(d:Int)(hO:pz base ok w go cap [0,1])(eg:∀args w,(callFunc g args).run Tryz.prog w= .ok (.enter g args) w)
  (hc:∀W,bq w.heap.size (fun b=>b=go) w W->Calls Tryz.prog g (#[.int .i64 1,.int .i64 0]++cb) W fun e w'=>e= .returned (.int .i64 d)/\∃n,w'=W.drewN n):
  Calls Tryz.prog 139 #[.slice (some ⟨go,0,none⟩) 2 cap,.func (.func g) #[] cb] w fun e w'=>e= .returned (.tuple #[])/\pz base ok w' go cap (if d<0 then [1,0] else [0,1])/\bq w.heap.size (fun b=>b=go) w w':=by
 have HI:=aa.mk (Cj (cap:=cap) (cb:=cb) d hO eg hc)
 obtain⟨F,hF⟩:∃l,(if d<0 then [1,0] else [0,1]:List Int)=l:=⟨_,rfl⟩
 rw[hF] at HI ⊢
 clear hO hc eg hF
 go_enter Tryz.func139,Tryz.ntmps139
 go_wp2_with fail
 refine HI.out.mono ?_
 rintro e w1 ⟨rfl,hb,hk⟩
 have HB:=aa.mk hb
 have HK:=aa.mk hk
 clear hb hk HI
 go_wp2_with fail
 go_end0
 exact⟨rfl,HB.out,HK.out⟩
end Go.Proofs.YtkjoilgpmngndaaGreat
namespace Go.Proofs.YtkjoilgpmngndaaGreat
open Go.RowKit Go.Shelf Go.Proofs.YtkjoilgpmngndaaGreat.av Go.Proofs.YtkjoilgpmngndaaGreatW.aA Go.Proofs.YtkjoilgpmngndaaGreatW.aJ Go.Proofs.YtkjoilgpmngndaaGreatW.dn
theorem PE(g:Nat)(first cap:Array Value)(hg:∀args w,(callFunc g args).run Tryz.prog w= .ok (.enter g args) w)(p:Int->Bool)(x:Int)(gp:Nat)(w:World)
  (hc:w.cell? ⟨gp,0,none⟩=some (.func (.func g) first cap)) (hp:gQ g first cap p w):
  Calls Tryz.prog 158 ((#[]:Array Value).push (jO x)++#[.pointer (some ⟨gp,0,none⟩)]) w fun e w'=>e= .returned (.bool (!p x))/\Below w.heap.size w w':=by
 simp only[Array.empty_append,List.push_toArray,List.append_toArray,List.nil_append,List.cons_append,jO]
 have Ow:gp<w.heap.size:=World.block_lt_of_cell? w _ hc
 have HP:=aa.mk hp
 clear hp
 go_enter Tryz.func158,Tryz.ntmps158
 go_wp2_with fail
 have hc:=HP.out _ x (Below.refl _ _)
 simp only[jO] at hc
 refine hc.mono ?_
 rintro e w' ⟨rfl,hb⟩
 obtain⟨b,hb1⟩:∃b,p x=b:=⟨_,rfl⟩
 rw[hb1]
 go_wp2
 go_ret
 exact⟨bP (by rw[hb1]),bR (Below.refl _ _) hb⟩
theorem Jz(g:Nat)(first cap:Array Value)(hg:∀args w,(callFunc g args).run Tryz.prog w= .ok (.enter g args) w)(p:Int->Bool)(A:Option Addr)(c:Nat)(xs:List Int)(w:World)
  (hr:Kd.C (Kd.int .i64) w A xs.length xs) (hlen:xs.length<=9223372036854775807) (hp:gQ g first cap p w):
  Calls Tryz.prog 134 #[.slice A xs.length c,.func (.func g) first cap] w fun e w'=>e= .returned (.bool (xs.all p))/\Below w.heap.size w w':=by
 go_enter Tryz.func134,Tryz.ntmps134
 have HR:=aa.mk hr
 have HP:=aa.mk hp
 clear hr hp
 go_wp2_with fail
 have hB:Below w.heap.size w (w.alloc (.cells #[.func (.func g) first cap] 118)):=(Below.refl _ _).alloc (Nat.le_refl _) _
 refine(nI 158 #[.pointer (some ⟨w.heap.size,0,none⟩)] (enters Tryz.func158 (by kernel_rfl) rfl) (fun x=>!p x) A c xs _ (Kd.aK HR.out hB) hlen ?_).mono ?_
 .intro W x hW
  refine PE g first cap hg p x w.heap.size W ?_ (HP.out.later (hB.trans (hW.mono hB.size)))
  rw[hW.cell (p:=⟨w.heap.size,0,none⟩) (by simp)]
  simp
 rintro e w' ⟨rfl,hb⟩
 have hn:=aa.mk (List.any_eq_not_all_not (l:=xs) (p:=fun x=>!p x))
 obtain⟨j,hj⟩:∃j,(xs.any fun x=>!p x)=j:=⟨_,rfl⟩
 rw[hj] at hn ⊢
 clear hj
 go_wp2
 go_ret
 exact⟨bP (by rw[hn.out];simp),bR hB hb⟩
theorem DX(n:Int)(w:World):Calls Tryz.prog 135 #[.int .i64 n] w fun e w'=>e= .returned (.bool (aY n 0 10000))/\Below w.heap.size w w':=by
 refine(kg.calls n (aY n 0 10000) w ?_).mono ?_
 .unfold kg.f eH.f aY
  by_cases h:0<=n<;>simp[h]
 .rintro e w' ⟨h1,h2⟩
  exact⟨h1,h2.below⟩
theorem mF(n lo hi:Int)(w:World):
  Calls Tryz.prog 136 #[.int .i64 n,.int .i64 lo,.int .i64 hi] w fun e w'=>e= .returned (.bool (aY n lo hi))/\Below w.heap.size w w':=by
 refine(eH.calls n lo hi (aY n lo hi) w ?_).mono ?_
 .unfold eH.f aY
  by_cases h:lo<=n<;>simp[h]
 .rintro e w' ⟨h1,h2⟩
  exact⟨h1,h2.below⟩
structure Two(base:Nat)(w:World)(v1 v2:Value)(l1 l2:List Int):Prop where
 r1:(Kd.int .i64).R 3 w base (fun _=>True) v1 l1
 r2:(Kd.int .i64).R 3 w base (fun _=>True) v2 l2
 ne:∀k,v1.ownBlock=some k->some k≠v2.ownBlock
theorem Two.nil(base:Nat)(w:World):Two base w (.slice none 0 0) (.slice none 0 0) [] []:=⟨Kd.jL _ _ _ _ _,Kd.jL _ _ _ _ _,fun k hk=>by simp[Value.ownBlock] at hk⟩
theorem Two.symm{base:Nat}{w:World}{v1 v2:Value}{l1 l2:List Int}(h:Two base w v1 v2 l1 l2):Two base w v2 v1 l2 l1:=⟨h.r2,h.r1,fun k hk e=>h.ne k e.symm hk.symm⟩
theorem Two.below{base:Nat}{w w':World}{v1 v2:Value}{l1 l2:List Int}(h:Two base w v1 v2 l1 l2)(hb:Below w.heap.size w w'):Two base w' v1 v2 l1 l2:=⟨Kd.fC h.r1 hb,Kd.fC h.r2 hb,h.ne⟩
theorem Two.app1{base:Nat}{w w':World}{v1 v2 v:Value}{l1 l2 l:List Int}(h:Two base w v1 v2 l1 l2)(hR:(Kd.int .i64).R 3 w' base (fun _=>True) v l)(hg:w.grownBy w' v1.ownBlock)(hat:v.ownBlock=v1.ownBlock\/∃b,v.ownBlock=some b/\w.heap.size<=b):Two base w' v v2 l l2:=by
 refine⟨hR,Kd.TP h.r2 rfl hg h.ne,fun k hk=>?_⟩
 rcases hat with hat|⟨b,hb,hle⟩
 .exact h.ne k (hat▸hk)
 .intro e
  have:=(Kd.dP h.r2).1 k e.symm
  rw[hb] at hk
  injection hk with hk
  omega
theorem Two.Tz{base:Nat}{w w':World}{v1 v2 v:Value}{l1 l2 l:List Int}(h:Two base w v1 v2 l1 l2)(hR:(Kd.int .i64).R 3 w' base (fun _=>True) v l)(hg:w.grownBy w' v2.ownBlock)(hat:v.ownBlock=v2.ownBlock\/∃b,v.ownBlock=some b/\w.heap.size<=b):Two base w' v1 v l1 l:=(h.symm.app1 hR hg hat).symm
structure O1(w0 w1 c s q0 q1 r0 r1 left p0 p1:Int):Prop where
 b0:0<=w0/\w0<=1000
 b1:0<=w1/\w1<=1000
 bc:0<=c/\c<=10000
 sum:w0+w1=s
 pos:0<s
 m0:0<=c*w0/\c*w0<=10000000
 m1:0<=c*w1/\c*w1<=10000000
 d0:c*w0/s=q0
 d1:c*w1/s=q1
 e0:0<=q0/\q0<=10000
 e1:0<=q1/\q1<=10000
 t0:c*w0%s=r0
 t1:c*w1%s=r1
 lf:c-q0-q1=left
 l01:left=0\/left=1
 parts:if left=0 then p0=q0/\p1=q1 else if r0-r1<0 then p0=q0/\p1=q1+1 else p0=q0+1/\p1=q1
theorem O1.acB{w0 w1 c s q0 q1 r0 r1 left p0 p1:Int}(h:O1 w0 w1 c s q0 q1 r0 r1 left p0 p1):Yx c w0 w1 s r0 r1:=by
 have h1:=h.m0
 have h2:=h.m1
 have h3:=h.pos
 have h4:=h.b0
 have h5:=h.b1
 have h6:=h.sum
 refine⟨by omega,IntWalk.i64_in _ (by omega),IntWalk.i64_in _ (by omega),?_,?_,?_,?_⟩
 .rw[Int.tmod_eq_emod_of_nonneg h1.1,h.t0]
 .rw[Int.tmod_eq_emod_of_nonneg h2.1,h.t1]
 .have:=Int.emod_nonneg (c*w0) (b:=s) (by omega)
  have h7:=Int.emod_lt_of_pos (c*w0) h3
  rw[h.t0] at this h7
  omega
 .have:=Int.emod_nonneg (c*w1) (b:=s) (by omega)
  have h7:=Int.emod_lt_of_pos (c*w1) h3
  rw[h.t1] at this h7
  omega
structure DB(w:World)(g2 g6:Nat)(aw:Addr)(cw:Nat)(c w0 w1 s:Int):Prop where
 l:aR w g2 [.slice (some aw) 2 cw] 22
 c:aR w (g2+1) [.int .i64 c] 3
 s:aR w g6 [.int .i64 s] 3
 a0:w.cell? (aw.add 0)=some (.int .i64 w0)
 a1:w.cell? (aw.add 1)=some (.int .i64 w1)
theorem DB.later{w w':World}{g2 g6:Nat}{aw:Addr}{cw:Nat}{c w0 w1 s:Int}{B:Nat}(h:DB w g2 g6 aw cw c w0 w1 s)(hb:Below B w w')(hB:g2+1<g6/\g6<B/\aw.block<B):DB w' g2 g6 aw cw c w0 w1 s:=
 ⟨h.l.move (hb.block _ (by omega)),h.c.move (hb.block _ (by omega)),h.s.move (hb.block _ (by omega)),(hb.cell (p:=aw.add 0) hB.2.2).trans h.a0,(hb.cell (p:=aw.add 1) hB.2.2).trans h.a1⟩
theorem aR.second(w:World)(o:Obj)(cs:List Value)(t:TypeId):aR ((w.alloc o).alloc (.cells cs.toArray t)) (w.heap.size+1) cs t:=by
 have h:=aR.new (w.alloc o) cs t
 have e:(w.alloc o).heap.size=w.heap.size+1:=by simp
 rw[e] at h
 exact h
theorem Uk{w:World}{aw:Addr}{w0 w1:Int}(h:(Kd.int .i64).C w (some aw) 2 [w0,w1]):w.cell? (aw.add 0)=some (.int .i64 w0)/\w.cell? (aw.add 1)=some (.int .i64 w1):=by
 obtain⟨ad,e,h0⟩:=Kd.dz h 0 (by omega) (by omega)
 cases e
 obtain⟨ad,e,h1⟩:=Kd.dz h 1 (by omega) (by omega)
 cases e
 exact⟨h0,h1⟩
theorem add1(a:Addr):a.add 1=⟨a.block,a.off+1,none⟩:=by simp[Addr.add]
theorem add0(a:Addr):a.add 0=a:=by simp[Addr.add]
theorem pM{w:World}{base:Nat}{ok:Nat->Prop}{v:Value}{xs:List Int}(h:(Kd.int .i64).R 3 w base ok v xs)(i:Nat)(hi:i<xs.length):∃g c,v= .slice (some ⟨g,0,none⟩) xs.length c/\w.cell? ⟨g,i,none⟩=some (.int .i64 (xs.getD i 0)):=by
 obtain⟨ad,c,rfl⟩:=Kd.KT h (by omega)
 obtain⟨g,rfl⟩:=Kd.NF h
 have:=(Kd.iR (0:Int) h (i:Int) (by omega) (by omega)).1
 exact⟨g,c,rfl,this⟩
theorem P8(w0 w1:Int)(h0:0<=w0/\w0<=1000)(h1:0<=w1/\w1<=1000):dF.f 3 [w0,w1]=some (w0+w1):=by
 simp[dF.f,dF.l0,rd,wrap64]
 omega
set_option maxRecDepth 100000 in
set_option maxHeartbeats 40000000 in
theorem IJ{w:World}{aw:Addr}{cw:Nat}{w0 w1 c s q0 q1 r0 r1 left p0 p1:Int}(h:(Kd.int .i64).C w (some aw) 2 [w0,w1])(hcw:2<=cw)(hd:O1 w0 w1 c s q0 q1 r0 r1 left p0 p1):
  Calls Tryz.prog 113 #[.slice (some aw) 2 cw,.int .i64 c] w fun e w'=>(∃v,e= .returned (.tuple #[v,.int .i64 0])/\(Kd.int .i64).R 3 w' w.heap.size (fun _=>True) v [p0,p1])/\Below w.heap.size w w':=by
 have HC:=aa.mk h
 have HD:=aa.mk hd
 have hpos:=hd.pos
 have hb0:=hd.b0
 have hb1:=hd.b1
 have hbc:=hd.bc
 have HS:=aa.mk hd.sum
 clear h hd
 go_enter Tryz.func113,Tryz.ntmps113
 go_wp2_with fail
 have HB3:=aa.mk (ae (ae (Below.refl w.heap.size w) (.cells #[.slice (some aw) 2 cw] 22)) (.cells #[.int .i64 c] 3))
 have B2:=aa.mk ((aR.new w [.slice (some aw) 2 cw] 22).alloc (.cells #[.int .i64 c] 3))
 have B3:=aa.mk (aR.second w (.cells #[.slice (some aw) 2 cw] 22) [.int .i64 c] 3)
 have hs3:w.heap.size+1<((w.alloc (.cells #[.slice (some aw) 2 cw] 22)).alloc (.cells #[.int .i64 c] 3)).heap.size:=by simp
 generalize(w.alloc (.cells #[.slice (some aw) 2 cw] 22)).alloc (.cells #[.int .i64 c] 3)=w3 at HB3 B2 B3 hs3 ⊢
 have hall:[w0,w1].all (fun n=>aY n 0 10000)=true:=by simp[aY];omega
 have hcall:=Jz 135 #[] #[] (enters Tryz.func135 (by kernel_rfl) rfl) (fun n=>aY n 0 10000) (some aw) cw [w0,w1] w3 (Kd.aK HC.out HB3.out) (by simp) (fun W x _=>DX x W)
 rw[hall] at hcall
 refine hcall.mono ?_
 clear hall hcall
 rintro e w4 ⟨rfl,hb⟩
 have kY:=aa.mk (HB3.out.trans (hb.mono HB3.out.size))
 have B24:=aa.mk (B2.out.below hb)
 have Ur:=aa.mk (B3.out.below hb)
 have hs4:=Nat.lt_of_lt_of_le hs3 hb.size
 clear hb HB3 B2 B3 hs3
 have h20:=B24.out.cell 0
 have kQ:=Ur.out.cell 0
 simp only[List.getElem?_cons_zero] at h20 kQ
 go_wp2_with fail
 have hwb:aY c 0 100000=true:=by simp[aY];omega
 have hcall:=mF c 0 100000 w4
 rw[hwb] at hcall
 refine hcall.mono ?_
 clear hcall hwb
 rintro e w5 ⟨rfl,hb⟩
 have uY:=aa.mk (kY.out.trans (hb.mono kY.out.size))
 have B25:=aa.mk (B24.out.below hb)
 have B35:=aa.mk (Ur.out.below hb)
 have hs5:=Nat.lt_of_lt_of_le hs4 hb.size
 clear hb kY B24 Ur hs4 h20 kQ
 have h20:=B25.out.cell 0
 have kQ:=B35.out.cell 0
 simp only[List.getElem?_cons_zero] at h20 kQ
 go_wp2_with fail
 refine(dF.calls 3 (some aw) cw [w0,w1] (w0+w1) w5 (Kd.aK HC.out uY.out) (by simpa using hcw) (P8 w0 w1 hb0 hb1)).mono ?_
 rintro e w6 ⟨rfl,hb⟩
 replace hb:=hb.below
 rw[HS.out]
 have IG:=aa.mk (uY.out.trans (hb.mono uY.out.size))
 have YZ:=aa.mk (B25.out.below hb)
 have O8:=aa.mk (B35.out.below hb)
 have hs6:=Nat.lt_of_lt_of_le hs5 hb.size
 clear hb uY B25 B35 hs5 h20 kQ
 have h20:=(YZ.out.alloc (.cells #[.int .i64 s] 3)).cell 0
 have kQ:=(O8.out.alloc (.cells #[.int .i64 s] 3)).cell 0
 have zz:=(aR.new w6 [.int .i64 s] 3).cell 0
 simp only[List.getElem?_cons_zero] at h20 kQ zz
 have hnz:(s==0)=false:=by simp;omega
 go_wp2_with fail
 have hsz:w6.heap.size<(w6.alloc (.cells #[.int .i64 s] 3)).heap.size:=by simp
 have xD:=aa.mk (ae IG.out (.cells #[.int .i64 s] 3))
 have haw:aw.block<w.heap.size:=World.block_lt_of_cell? w (aw.add 0) (Uk HC.out).1
 have E7:=aa.mk (DB.mk (YZ.out.alloc (.cells #[.int .i64 s] 3)) (O8.out.alloc (.cells #[.int .i64 s] 3)) (aR.new w6 [.int .i64 s] 3) ((xD.out.cell (p:=aw.add 0) haw).trans (Uk HC.out).1) ((xD.out.cell (p:=aw.add 1) haw).trans (Uk HC.out).2))
 clear IG YZ O8 h20 kQ zz
 generalize w6.alloc (.cells #[.int .i64 s] 3)=w7 at hsz xD E7 ⊢
 generalize w6.heap.size=g6 at hsz hs6 E7 ⊢
 have he7:w.heap.size+1<g6/\g6<w7.heap.size/\aw.block<w7.heap.size:=by omega
 have hw7:w.heap.size<=w7.heap.size:=by omega
 clear haw hsz hs6
 go_loopw [7,8,9,35] (fun v7 v8 v9 v35 wr=>w7.heap.size<=wr.heap.size/\aa (Below w.heap.size w wr)/\aa (DB wr w.heap.size g6 aw cw c w0 w1 s)/\((v35= .int .i64 0/\v9= .int .i64 c/\aa (Two w7.heap.size wr v7 v8 [] []))\/(v35= .int .i64 1/\v9= .int .i64 (c-q0)/\aa (Two w7.heap.size wr v7 v8 [q0] [0]))\/(v35= .int .i64 2/\v9= .int .i64 left/\aa (Two w7.heap.size wr v7 v8 [q0,q1] [0,1])))) (fun _ _ _ v35 _=>2-(intOf v35).toNat)
 case atStart=>exact⟨Nat.le_refl _,xD,E7,.inl ⟨rfl,rfl,⟨Two.nil _ _⟩⟩⟩
 case round=>
  clear xD E7
  obtain⟨oH,HB,E,h⟩:=hrel
  have h20:=E.out.l.cell 0
  have kQ:=E.out.c.cell 0
  have zz:=E.out.s.cell 0
  have ha0:wr.cell? aw=some (.int .i64 w0):=by have:=E.out.a0;rw[add0] at this;exact this
  have ha1:wr.cell? ⟨aw.block,aw.off+1,none⟩=some (.int .i64 w1):=by have:=E.out.a1;rw[add1] at this;exact this
  simp only[List.getElem?_cons_zero] at h20 kQ zz
  rcases h with⟨rfl,rfl,HT⟩|⟨rfl,rfl,HT⟩|⟨rfl,rfl,HT⟩
  .have hm:=HD.out.m0
   have he:=HD.out.e0
   have hq:=HD.out.d0
   go_wp2_with (first|((with_reducible refine cO (b:= .append) (xs:=#[.tmp 40,.tmp 46]) rfl ?_);at_builtin;refine Kd.jk (Kd.int .i64) (w0:=wr) w7.heap.size rfl (.tmp 40) (.tmp 46) 22 3 (.int .i64 0) 8 rfl Tryz.underlying22 info3 rfl (by decide) (by omega) u7 ([]:List Int) q0 [.int .i64 q0] (fun _=>True) (fun _=>False) rfl rfl rfl (fun _ hk=>hk.elim) (fun _ _=>trivial) HT.out.r1 (Below.refl _ _) oH (by simp) ?_;intro v7 wn hon hbn hgn fP;have HT1:=aa.mk (HT.out.app1 hon hgn fP);have HB1:=aa.mk (HB.out.trans (hbn.mono hw7));have E1:=aa.mk (E.out.later hbn he7);have hsn:=Nat.le_trans oH hbn.size;clear hon hbn hgn fP)|((with_reducible refine cO (b:= .append) (xs:=#[.tmp 48,.tmp 50]) rfl ?_);at_builtin;refine Kd.jk (Kd.int .i64) (w0:=wn) w7.heap.size rfl (.tmp 48) (.tmp 50) 22 3 (.int .i64 0) 8 rfl Tryz.underlying22 info3 rfl (by decide) (by omega) u8 ([]:List Int) 0 [.int .i64 0] (fun _=>True) (fun _=>False) rfl rfl rfl (fun _ hk=>hk.elim) (fun _ _=>trivial) HT1.out.r2 (Below.refl _ _) hsn (by simp) ?_;intro v8 wm hon hbn hgn fP;have HT2:=aa.mk (HT1.out.Tz hon hgn fP);have HB2:=aa.mk (HB1.out.trans (hbn.mono hw7));have E2:=aa.mk (E1.out.later hbn he7);have hsm:=Nat.le_trans hsn hbn.size;clear hon hbn hgn fP HT1 HB1 E1;obtain⟨ad,cv,e,hcell⟩:=pM HT2.out.r1 0 (by simp);cases e;simp only[List.nil_append,List.cons_append,List.getD_cons_zero,List.getD_cons_succ] at hcell))
   exact⟨⟨hsm,HB2,E2,.inr (.inl ⟨rfl,rfl,HT2⟩)⟩,by simp[intOf]⟩
  .have hm:=HD.out.m1
   have he:=HD.out.e0
   have he1:=HD.out.e1
   have hq:=HD.out.d1
   have hl:=HD.out.lf
   go_wp2_with (first|((with_reducible refine cO (b:= .append) (xs:=#[.tmp 40,.tmp 46]) rfl ?_);at_builtin;refine Kd.jk (Kd.int .i64) (w0:=wr) w7.heap.size rfl (.tmp 40) (.tmp 46) 22 3 (.int .i64 0) 8 rfl Tryz.underlying22 info3 rfl (by decide) (by omega) u7 [q0] q1 [.int .i64 q1] (fun _=>True) (fun _=>False) rfl rfl rfl (fun _ hk=>hk.elim) (fun _ _=>trivial) HT.out.r1 (Below.refl _ _) oH (by simp) ?_;intro v7 wn hon hbn hgn fP;have HT1:=aa.mk (HT.out.app1 hon hgn fP);have HB1:=aa.mk (HB.out.trans (hbn.mono hw7));have E1:=aa.mk (E.out.later hbn he7);have hsn:=Nat.le_trans oH hbn.size;clear hon hbn hgn fP)|((with_reducible refine cO (b:= .append) (xs:=#[.tmp 48,.tmp 50]) rfl ?_);at_builtin;refine Kd.jk (Kd.int .i64) (w0:=wn) w7.heap.size rfl (.tmp 48) (.tmp 50) 22 3 (.int .i64 0) 8 rfl Tryz.underlying22 info3 rfl (by decide) (by omega) u8 [0] 1 [.int .i64 1] (fun _=>True) (fun _=>False) rfl rfl rfl (fun _ hk=>hk.elim) (fun _ _=>trivial) HT1.out.r2 (Below.refl _ _) hsn (by simp) ?_;intro v8 wm hon hbn hgn fP;have HT2:=aa.mk (HT1.out.Tz hon hgn fP);have HB2:=aa.mk (HB1.out.trans (hbn.mono hw7));have E2:=aa.mk (E1.out.later hbn he7);have hsm:=Nat.le_trans hsn hbn.size;clear hon hbn hgn fP HT1 HB1 E1;obtain⟨ad,cv,e,hcell⟩:=pM HT2.out.r1 1 (by simp);cases e;simp only[List.nil_append,List.cons_append,List.getD_cons_zero,List.getD_cons_succ] at hcell))
   exact⟨⟨hsm,HB2,E2,.inr (.inr ⟨rfl,rfl,HT2⟩)⟩,by simp[intOf]⟩
  .obtain⟨g7,c7,rfl,M5⟩:=pM HT.out.r1 0 (by simp)
   obtain⟨g8,c8,rfl,_⟩:=pM HT.out.r2 0 (by simp)
   have hne:g7≠g8:=fun e=>HT.out.ne g7 (by simp[Value.ownBlock]) (by simp[Value.ownBlock,e])
   obtain⟨_,hb8,ajS,_⟩:=(Kd.dP HT.out.r2).1 g8 (by simp[Value.ownBlock])
   obtain⟨_,WL,ajU,_⟩:=(Kd.dP HT.out.r1).1 g7 (by simp[Value.ownBlock])
   clear M5
   have HR:=aa.mk HD.out.acB
   have HR8:=aa.mk (show pz w7.heap.size (fun _=>True) wr g8 c8 [0,1] from HT.out.r2)
   have HR7:=aa.mk (show(Kd.int .i64).R 3 wr w7.heap.size (fun _=>True) (.slice (some ⟨g7,0,none⟩) 2 c7) [q0,q1] from HT.out.r1)
   have BP:=aa.mk (aR.new wr [.func (.func 138) #[] #[.pointer (some ⟨w.heap.size+1,0,none⟩),.pointer (some ⟨w.heap.size,0,none⟩),.pointer (some ⟨g6,0,none⟩)]] 229)
   have aas:wr.heap.size<(wr.alloc (.cells #[.func (.func 138) #[] #[.pointer (some ⟨w.heap.size+1,0,none⟩),.pointer (some ⟨w.heap.size,0,none⟩),.pointer (some ⟨g6,0,none⟩)]] 229)).heap.size:=by simp
   have NW:=aa.mk (ae HB.out (.cells #[.func (.func 138) #[] #[.pointer (some ⟨w.heap.size+1,0,none⟩),.pointer (some ⟨w.heap.size,0,none⟩),.pointer (some ⟨g6,0,none⟩)]] 229))
   have OY:=aa.mk (show pz w7.heap.size (fun _=>True) _ g8 c8 [0,1] from Kd.dA HR8.out (.cells #[.func (.func 138) #[] #[.pointer (some ⟨w.heap.size+1,0,none⟩),.pointer (some ⟨w.heap.size,0,none⟩),.pointer (some ⟨g6,0,none⟩)]] 229))
   have TZ:=aa.mk (Kd.dA HR7.out (.cells #[.func (.func 138) #[] #[.pointer (some ⟨w.heap.size+1,0,none⟩),.pointer (some ⟨w.heap.size,0,none⟩),.pointer (some ⟨g6,0,none⟩)]] 229))
   have E12:=aa.mk (E.out.later (ae (Below.refl wr.heap.size wr) (.cells #[.func (.func 138) #[] #[.pointer (some ⟨w.heap.size+1,0,none⟩),.pointer (some ⟨w.heap.size,0,none⟩),.pointer (some ⟨g6,0,none⟩)]] 229)) (by omega))
   go_wp2_with fail
   clear HT HR8 HR7 E HB h20 kQ zz ha0 ha1
   generalize wr.alloc (.cells #[.func (.func 138) #[] #[.pointer (some ⟨w.heap.size+1,0,none⟩),.pointer (some ⟨w.heap.size,0,none⟩),.pointer (some ⟨g6,0,none⟩)]] 229)=wa at BP aas NW OY TZ E12 ⊢
   generalize wr.heap.size=g12 at BP aas ajS ajU oH ⊢
   refine(Jj (cap:=c8) (r0-r1) OY.out (enters Tryz.func140 (by kernel_rfl) rfl) (fun W hK=>?_)).mono ?_
   .refine Qr (g3:=w.heap.size+1) (g2:=w.heap.size) (g6:=g6) (g12:=g12) (aw:=aw) (cw:=cw) ?_ HR.out
    exact⟨E12.out.c.move (hK.block _ (by omega) (by omega)),E12.out.l.move (hK.block _ (by omega) (by omega)),E12.out.s.move (hK.block _ (by omega) (by omega)),BP.out.move (hK.block _ (by omega) (by omega)),(hK.cell (p:=aw.add 0) (by show aw.block<_;omega) (by show ¬aw.block=_;omega)).trans E12.out.a0,(hK.cell (p:=aw.add 1) (by show aw.block<_;omega) (by show ¬aw.block=_;omega)).trans E12.out.a1⟩
   rintro e wb ⟨rfl,hO,hK⟩
   have HBb:=aa.mk (show Below w.heap.size w wb from⟨hK.os.trans NW.out.os,hK.tape.trans NW.out.tape,hK.output.trans NW.out.output,Nat.le_trans NW.out.size hK.size,fun k hk=>(hK.block k (by omega) (by omega)).trans (NW.out.block k hk)⟩)
   have NK:=aa.mk (Kd.fJ (Kd.zC rfl TZ.out) (fun k hk hlt=>hK.block k hlt (by simp only[Value.ownBlock,Option.some.injEq] at hk;omega)))
   have hc8:2<=c8:=(Kd.iQ OY.out).2.1
   clear NW OY TZ E12 BP aas
   have HO:=aa.mk hO
   have hl:=HD.out.l01
   have hp:=HD.out.parts
   have e0:=HD.out.e0
   have e1:=HD.out.e1
   have hc0:=(pz.c0 (NK.out:pz _ _ wb g7 c7 [q0,q1]))
   have hc1:=(pz.c1 (NK.out:pz _ _ wb g7 c7 [q0,q1]))
   have hf0:=(pz.f0 (NK.out:pz _ _ wb g7 c7 [q0,q1]))
   have hf1:=(pz.f1 (NK.out:pz _ _ wb g7 c7 [q0,q1]))
   clear hO hK
   rcases hl with rfl|rfl
   .obtain⟨rfl,rfl⟩:p0=q0/\p1=q1:=by rw[if_pos rfl] at hp;exact hp
    clear hp HD
    go_wp2_with fail
    go_loopw [67] (fun v67 wc=>v67= .int .i64 0/\wc=wb) (fun _ _=>0)
    case atStart=>exact⟨rfl,rfl⟩
    case round=>
     obtain⟨rfl,rfl⟩:=hrel
     go_wp2_with fail
     go_ret2
     exact⟨⟨_,rfl,Kd.cK (Kd.jD NK.out hw7) (fun _ _=>trivial)⟩,HBb.out⟩
   .rw[if_neg (by omega)] at hp
    clear HD
    by_cases hd:r0-r1<0
    .rw[if_pos hd] at hp
     have IE:=aa.mk (show pz w7.heap.size (fun _=>True) wb g8 c8 [1,0] by have:=HO.out;rw[if_pos hd] at this;exact this)
     obtain⟨rfl,rfl⟩:=hp
     have ho:=IE.out.c0
     clear HO IE hd HR
     go_wp2_with fail
     go_loopw [67] (fun v67 wc=>(v67= .int .i64 0/\wc=wb)\/(v67= .int .i64 1/\wc=wb.setCell ⟨g7,1,none⟩ (.int .i64 (q1+1)))) (fun v67 _=>1-(intOf v67).toNat)
     case atStart=>exact .inl ⟨rfl,rfl⟩
     case round=>
      rcases hrel with⟨rfl,rfl⟩|⟨rfl,rfl⟩
      .go_wp2_with fail
       exact⟨.inr ⟨rfl,trivial⟩,by simp[intOf]⟩
      .have HRf:=aa.mk (pz.p1 (NK.out:pz _ _ wb g7 c7 [p0,q1]) (q1+1))
       have xM:=aa.mk (HBb.out.setCell (p:=⟨g7,1,none⟩) (by simp only;omega) (.int .i64 (q1+1)))
       generalize wb.setCell ⟨g7,1,none⟩ (.int .i64 (q1+1))=wf at HRf xM ⊢
       go_wp2_with fail
       go_ret2
       exact⟨⟨_,rfl,Kd.cK (Kd.jD HRf.out hw7) (fun _ _=>trivial)⟩,xM.out⟩
    .rw[if_neg hd] at hp
     have IE:=aa.mk (show pz w7.heap.size (fun _=>True) wb g8 c8 [0,1] by have:=HO.out;rw[if_neg hd] at this;exact this)
     obtain⟨rfl,rfl⟩:=hp
     have ho:=IE.out.c0
     clear HO IE hd HR
     go_wp2_with fail
     go_loopw [67] (fun v67 wc=>(v67= .int .i64 0/\wc=wb)\/(v67= .int .i64 1/\wc=wb.setCell ⟨g7,0,none⟩ (.int .i64 (q0+1)))) (fun v67 _=>1-(intOf v67).toNat)
     case atStart=>exact .inl ⟨rfl,rfl⟩
     case round=>
      rcases hrel with⟨rfl,rfl⟩|⟨rfl,rfl⟩
      .go_wp2_with fail
       exact⟨.inr ⟨rfl,trivial⟩,by simp[intOf]⟩
      .have HRf:=aa.mk (pz.p0 (NK.out:pz _ _ wb g7 c7 [q0,p1]) (q0+1))
       have xM:=aa.mk (HBb.out.setCell (p:=⟨g7,0,none⟩) (by simp only;omega) (.int .i64 (q0+1)))
       generalize wb.setCell ⟨g7,0,none⟩ (.int .i64 (q0+1))=wf at HRf xM ⊢
       go_wp2_with fail
       go_ret2
       exact⟨⟨_,rfl,Kd.cK (Kd.jD HRf.out hw7) (fun _ _=>trivial)⟩,xM.out⟩
end Go.Proofs.YtkjoilgpmngndaaGreat
