import Derived.Test.YtkjoilgpmngndaaGreatQ39
set_option linter.all false
namespace Go.Proofs.YtkjoilgpmngndaaGreat.Wk
open Go.RowKit Go.Shelf au YtkjoilgpmngndaaGreatW.aj YtkjoilgpmngndaaGreatW.aJ YtkjoilgpmngndaaGreatW.ek
def lk.T8:Bool×List (List Nat×List Nat):=(true,[([],[]),([0],[0]),([1],[1]),([],[]),([],[]),([3,4],[3,4]),([5],[5]),([2,6],[2,6]),([7],[7]),([],[]),([9,8,0,1,2,3,4,5,6,7,8,9],[8,9])])
def lk.B8:List Nat:=[0,1,3,0,0,24,56,127,255,0,1023]
theorem lk.Jh:dW .any (opsOf Tryz.f4 8)=lk.T8:=by kernel_rfl
theorem lk.Co:bJ lk.T8.2 lk.B8=true:=by kernel_rfl
def lk.T13:Bool×List (List Nat×List Nat):=(true,[([],[]),([0],[0]),([],[]),([],[]),([3],[3]),([4],[4]),([],[]),([],[]),([6,7],[6,7]),([8],[8]),([5,9],[5,9]),([10],[10]),([1,2,0,1,2,3,4,5,6,7,8,9,10,11],[1,2]),([12,11,0,1,2,3,4,5,6,7,8,9,10,11],[11,12])])
def lk.TI:List Nat:=[0,1,0,0,8,24,0,0,192,448,1016,2040,4095,8191]
theorem lk.Mj:dW .any (opsOf Tryz.f4 13)=lk.T13:=by kernel_rfl
theorem lk.FR:bJ lk.T13.2 lk.TI=true:=by kernel_rfl
theorem Ei:(Tryz.prog.info? 74).map (λi=>(i.zero,i.size,i.bytes))=some (some (.agg #[.int .i64 0,.int .i64 0,.int .i64 0,.int .i64 0]),4,32):=by kernel_rfl
def xS(r:pO):pO:=⟨r.f1,r.f0,r.f2⟩
def Ck(r:pO):List Value:=[.int .i64 r.f0,.int .i64 r.f1,.int .i64 r.f2.f0,.int .i64 r.f2.f1]
def Told(l1:List pO)(s:Nat->Nat)(xs:List pO)(i:Nat):Prop:=∀m,m<i->xs.getD m z74=l1.getD (s m) z74\/xs.getD m z74=xS (l1.getD (s m) z74)
theorem Told.snoc{l1 xs:List pO}{s:Nat->Nat}{i:Nat}(hl:xs.length=i)(h:Told l1 s xs i){r:pO}(hr:r=l1.getD (s i) z74\/r=xS (l1.getD (s i) z74)):Told l1 s (xs++[r]) (i+1):=by
 intro m hm
 by_cases e:m<i
 .have:=h m e
  have e2:(xs++[r]).getD m z74=xs.getD m z74:=by
   simp only[List.getD]
   rw[List.getElem?_append_left (by omega)]
  rw[e2]
  exact this
 .obtain rfl:m=i:=by omega
  have e2:(xs++[r]).getD m z74=r:=by
   simp only[List.getD]
   rw[List.getElem?_append_right (by omega),hl]
   simp
  rw[e2]
  exact hr
theorem TV{W:List dP}{l1 xs:List pO}{s t:Nat->Nat}(hr:Ren l1.length s t)(hl:xs.length=l1.length)(ht:Told l1 s xs l1.length){tr kg:List Int}(hl2:kg.length=tr.length)(htr:tr.length=l1.length->∀m:Nat,m<l1.length->rd kg (m:Int)=rd tr (s m:Int))(rt cs tw ps:List Int)(PL:List qI)(fr jH limit many:Int){R R2:List aV}(hR:l1.map sJ=R)(hR2:xs.map sJ=R2):Same W R R2 rt cs tw tr kg ps PL fr jH limit many:=by
 subst hR
 subst hR2
 have g:∀(l:List pO) (i:Nat),i<l.length->(l.map sJ).getD i z141=sJ (l.getD i z74):=by
  intro l i hi
  simp[hi]
 have hp:lU (l1.map sJ) (xs.map sJ) s t:=by
  refine⟨by rw[List.length_map];exact hr,by rw[List.length_map,List.length_map,hl],λi hi=>?_⟩
  rw[List.length_map] at hi
  rw[g xs i (by omega),g l1 (s i) (hr.EL i hi)]
  rcases ht i hi with e|e
  .exact .inl (by rw[e])
  .exact .inr (by rw[e];rfl)
 have ht2:tr.length=(l1.map sJ).length->∀i:Nat,i<(l1.map sJ).length->rd kg (i:Int)=rd tr (s i:Int):=by
  rw[List.length_map]
  exact htr
 exact⟨by unfold nT;rw[hp.faults],hp.faults W PL limit,hp.same.reach limit,hp.same.few limit,hp.same.least many,hp.time W rt cs tw hl2 ht2,hp.bounds W rt cs,hp.same.way fr jH,hp.same.agv ps,hp.same.TA W⟩
theorem GH{tr kg:List Int}{s:Nat->Nat}{i q n:Nat}(hi:i<n)(hl:kg.length=tr.length)(he:tr.length=n)(h:tr.length=n->∀m:Nat,m<i->rd kg (m:Int)=rd tr (s m:Int))(hq:s i=q):tr.length=n->∀m:Nat,m<i+1->rd (kg.set i (rd tr (q:Int))) (m:Int)=rd tr (s m:Int):=by
 intro _ m hm
 have e2:rd (kg.set i (rd tr (q:Int))) (m:Int)=if i=m then rd tr (q:Int) else rd kg (m:Int):=by
  have hil:i<kg.length:=by omega
  generalize rd tr (q:Int)=x
  unfold rd
  simp only[Int.toNat_natCast,List.getD,List.getElem?_set]
  by_cases e:i=m
  .subst e
   simp[hil]
  .simp[e]
 rw[e2]
 by_cases e:m<i
 .rw[if_neg (by omega),h he m e]
 .obtain rfl:m=i:=by omega
  rw[if_pos rfl,hq]
structure LP(w0 wr:World)(n0 b7 b8 bf bt:Nat)(v7 v8 VF v2 VT:Value)(o7 kg:List Int)(ok:Nat->Prop)(xs:List pO)(mx:List Value):Prop where
 b:Below w0.heap.size w0 wr
 m7:aR wr b7 [v7,v2] 62
 m8:aR wr b8 [v8,VT] 66
 rf:(Kd.int .i64).R 3 wr bf (λk=>k<n0/\k≠b7/\some k≠VT.ownBlock) VF o7
 rx:Dv.R 74 wr n0 ok v2 xs
 rt:(Kd.int .i64).R 3 wr bt (λk=>some k=VT.ownBlock) VT kg
 okn:∀k,ok k->n0<=k
 sz:n0<=wr.heap.size
 VV:w0.heap.size<=n0
 bx:aR wr w0.heap.size mx 69
 g7:w0.heap.size<b7/\b7<n0
 g8:b8<n0/\b7≠b8/\w0.heap.size<b8
 gT:∀k,VT.ownBlock=some k->w0.heap.size<k/\k<n0/\k≠b7/\k≠b8
section
variable {w0 wr w':World} {n0 b7 b8 bf bt:Nat} {v7 v8 VF v2 VT:Value} {o7 kg:List Int} {ok:Nat->Prop} {xs:List pO} {mx:List Value}
theorem LP.later(h:LP w0 wr n0 b7 b8 bf bt v7 v8 VF v2 VT o7 kg ok xs mx)(hb:Below wr.heap.size wr w'):LP w0 w' n0 b7 b8 bf bt v7 v8 VF v2 VT o7 kg ok xs mx:=
 ⟨h.b.trans (hb.mono h.b.size),h.m7.below hb,h.m8.below hb,Kd.bV h.rf hb,Kd.bV h.rx hb,Kd.bV h.rt hb,h.okn,Nat.le_trans h.sz hb.size,h.VV,h.bx.below hb,h.g7,h.g8,h.gT⟩
theorem LP.own(h:LP w0 wr n0 b7 b8 bf bt v7 v8 VF v2 VT o7 kg ok xs mx):LP w0 wr n0 b7 b8 bf bt v7 v8 VF v2 VT o7 kg (λk=>n0<=k/\k<wr.heap.size) xs mx:=
 ⟨h.b,h.m7,h.m8,h.rf,Kd.bB (Kd.bE h.rx) (λk hk=>⟨hk.2.1,hk.2.2.1⟩),h.rt,λ_ hk=>hk.1,h.sz,h.VV,h.bx,h.g7,h.g8,h.gT⟩
theorem LP.aa4(h:LP w0 wr n0 b7 b8 bf bt v7 v8 VF v2 VT o7 kg ok xs mx){g:Nat}(hg:n0<=g)(hok:∀k,ok k->k≠g)(i:Nat)(u:Value):LP w0 (wr.setCell ⟨g,i,none⟩ u) n0 b7 b8 bf bt v7 v8 VF v2 VT o7 kg ok xs mx:=
 have e7:b7≠g:=by have:=h.g7;omega
 have e8:b8≠g:=by have:=h.g8;omega
 ⟨h.b.setCell (p:=⟨g,i,none⟩) (Nat.le_trans h.VV hg) u,h.m7.move (Below.heap_setCell _ ⟨g,i,none⟩ _ _ e7),h.m8.move (Below.heap_setCell _ ⟨g,i,none⟩ _ _ e8),Kd.dx h.rf (p:=⟨g,i,none⟩) (λk hk=>by have:=hk.1;simp only;omega) u,Kd.dx h.rx (p:=⟨g,i,none⟩) hok u,Kd.dx h.rt (p:=⟨g,i,none⟩) (λk hk=>by have:=(h.gT k hk.symm).2.1;simp only;omega) u,h.okn,by rw[size_set];exact h.sz,h.VV,h.bx.move (Below.heap_setCell _ ⟨g,i,none⟩ _ _ (λe=>by have:=h.VV;have:=h.g7;have:w0.heap.size=g:=e;omega)),h.g7,h.g8,h.gT⟩
theorem LP.app(h:LP w0 wr n0 b7 b8 bf bt v7 v8 VF v2 VT o7 kg ok xs mx){VY:Value}{xs':List pO}(hb:Below n0 wr w')(hr:Dv.R 74 w' n0 (λk=>n0<=k) VY xs'):LP w0 (w'.setCell ⟨b7,1,none⟩ VY) n0 b7 b8 bf bt v7 v8 VF VY VT o7 kg (λk=>n0<=k) xs' mx:=by
 have m7:aR w' b7 [v7,v2] 62:=h.m7.move (hb.block _ h.g7.2)
 have m8:aR w' b8 [v8,VT] 66:=h.m8.move (hb.block _ h.g8.1)
 have rf:=Kd.gQ h.rf (w1:=w') (λk hk _=>hb.block k hk.1)
 have rt:=Kd.gQ h.rt (w1:=w') (λk hk _=>hb.block k (h.gT k hk.symm).2.1)
 refine⟨(h.b.trans (hb.mono h.VV)).setCell (p:=⟨b7,1,none⟩) (Nat.le_of_lt h.g7.1) VY,df m7 1 VY,m8.move (Below.heap_setCell _ ⟨b7,1,none⟩ _ _ (Ne.symm h.g8.2.1)),Kd.dx rf (p:=⟨b7,1,none⟩) (λk hk=>hk.2.1) VY,Kd.dx hr (p:=⟨b7,1,none⟩) (λk hk=>by have:=h.g7;simp only;omega) VY,Kd.dx rt (p:=⟨b7,1,none⟩) (λk hk=>(h.gT k hk.symm).2.2.1) VY,λ_ hk=>hk,by rw[size_set];exact Nat.le_trans h.sz hb.size,h.VV,aR.move (h.bx.move (hb.block _ (Nat.lt_trans h.g7.1 h.g7.2))) (Below.heap_setCell _ ⟨b7,1,none⟩ _ _ (Nat.ne_of_lt h.g7.1)),h.g7,h.g8,h.gT⟩
theorem LP.xn{gT n cap:Nat}(h:LP w0 wr n0 b7 b8 bf bt v7 v8 VF v2 (.slice (some ⟨gT,0,none⟩) n cap) o7 kg ok xs mx)(i:Nat)(x:Int):LP w0 (wr.setCell ⟨gT,i,none⟩ (.int .i64 x)) n0 b7 b8 bf bt v7 v8 VF v2 (.slice (some ⟨gT,0,none⟩) n cap) o7 (kg.set i x) ok xs mx:=by
 have e:(Value.slice (some ⟨gT,0,none⟩) n cap).ownBlock=some gT:=by simp[Value.ownBlock]
 have hT:=h.gT gT e
 have rt:=Kd.uy h.rt (i:Int) x
 rw[Int.toNat_natCast] at rt
 exact⟨h.b.setCell (p:=⟨gT,i,none⟩) (Nat.le_of_lt hT.1) _,h.m7.move (Below.heap_setCell _ ⟨gT,i,none⟩ _ _ (Ne.symm hT.2.2.1)),h.m8.move (Below.heap_setCell _ ⟨gT,i,none⟩ _ _ (Ne.symm hT.2.2.2)),Kd.dx h.rf (p:=⟨gT,i,none⟩) (λk hk hkg=>hk.2.2 (by rw[e];exact congrArg some hkg)) _,Kd.dx h.rx (p:=⟨gT,i,none⟩) (λk hk=>by have:=h.okn k hk;simp only;omega) _,rt,h.okn,by rw[size_set];exact h.sz,h.VV,h.bx.move (Below.heap_setCell _ ⟨gT,i,none⟩ _ _ (Nat.ne_of_lt hT.1)),h.g7,h.g8,h.gT⟩
end
set_option maxRecDepth 100000 in
set_option maxHeartbeats 40000000 in
theorem agK{w0 w:World}{l0:List vC}{l1:List pO}{rt cs tw tr ps o7 ws:List Int}{pl:List S64}{fr jH limit many:Int}{b7 b8 bf bt:Nat}{A0 A1 A2 A3 A4 A5 A6 A7 T1 Af Aw:Option Addr}{c0 c1 c2 c3 c4 c5 c6 c7 t1 cf cw:Nat}(a:Act)(ha:a={tmps:=DF (.slice Aw ws.length cw) (.pointer (some ⟨w0.heap.size,0,none⟩)) (.slice Af o7.length cf) (.pointer (some ⟨b7,0,none⟩)) (.pointer (some ⟨b8,0,none⟩)) (a.tmps.getD 11 undef) (a.tmps.getD 12 undef) (a.tmps.getD 13 undef) (a.tmps.getD 14 undef) (λi=>a.tmps.getD i undef),defers:=[]})
  (L:LP w0 w w.heap.size b7 b8 bf bt (.slice A0 l0.length c0) (.slice A4 tw.length c4) (.slice Af o7.length cf) (.slice none 0 0) (.slice T1 tr.length t1) o7 tr (λk=>w.heap.size<=k) [] [.slice A0 l0.length c0,.slice A1 l1.length c1,.slice A2 rt.length c2,.slice A3 cs.length c3,.slice A4 tw.length c4,.slice A5 tr.length c5,.slice A6 pl.length c6,.slice A7 ps.length c7,.int .i64 fr,.int .i64 jH,.int .i64 limit,.int .i64 many])
  (k0:Hw.C w0 A0 l0.length l0) (hc0:l0.length<=c0) (k1:Dv.C w0 A1 l1.length l1) (hc1:l1.length<=c1) (kr:(Kd.int .i64).C w0 A2 rt.length rt) (kc:(Kd.int .i64).C w0 A3 cs.length cs) (kw:(Kd.int .i64).C w0 A4 tw.length tw) (kt:(Kd.int .i64).C w0 A5 tr.length tr) (ks:(Kd.int .i64).C w0 A7 ps.length ps) (kp:IX.C w0 A6 pl.length pl)
  (kW:(Kd.int .u16).C w0 Aw ws.length ws) (hcw:ws.length<=cw) (h0:l0.length<=11) (h1:l1.length<=24) (hrt:rt.length<=1000) (hcs:cs.length<=1000) (ug:tw.length<=1000) (htr:tr.length<=1000) (Gg:ps.length<=c7) (hps:ps.length<=1000) (hpl:pl.length<=1000) (hsm:uw pl)
  {s t:Nat->Nat} (hR:Ren l1.length s t) (hT:uu l1.length s o7):Code.wp Tryz.prog (jK 4) (lL w0) a w:=by
 have HL:=aa.mk L
 have K0:=aa.mk k0
 have K1:=aa.mk k1
 have KR:=aa.mk kr
 have KC:=aa.mk kc
 have KW:=aa.mk kw
 have KT:=aa.mk kt
 have KS:=aa.mk ks
 have KP:=aa.mk kp
 have KU:=aa.mk kW
 have FZ:=aa.mk hsm
 have HR:=aa.mk hR
 have HT:=aa.mk hT
 have TG:=aa.mk hT.len
 clear L k0 k1 kr kc kw kt ks kp kW hsm hR hT
 obtain⟨u,hu⟩:∃u:Nat->Value,a={tmps:=DF (.slice Aw ws.length cw) (.pointer (some ⟨w0.heap.size,0,none⟩)) (.slice Af o7.length cf) (.pointer (some ⟨b7,0,none⟩)) (.pointer (some ⟨b8,0,none⟩)) (u 11) (u 12) (u 13) (u 14) u,defers:=[]}:=⟨λi=>a.tmps.getD i undef,ha⟩
 clear ha
 subst hu
 unfold DF
 refine dR 4 (by kernel_rfl) (λK hK=>?_)
 unfold jK
 conv=>arg 2;whnf
 unfold lL
 obtain⟨n0,hn0⟩:∃n,w.heap.size=n:=⟨_,rfl⟩
 rw[hn0] at HL
 clear hn0
 go_wp2_with fail
 go_loopw [9] (λv9 wr=>∃(i:Nat) (v2:Value) (xs:List pO) (kg:List Int),i<=o7.length/\v9= .int .i64 i/\aa (xs.length=i)/\aa (Told l1 s xs i)/\aa (kg.length=tr.length)/\aa (tr.length=o7.length->∀m:Nat,m<i->rd kg (m:Int)=rd tr (s m:Int))/\aa (LP w0 wr n0 b7 b8 bf bt (.slice A0 l0.length c0) (.slice A4 tw.length c4) (.slice Af o7.length cf) v2 (.slice T1 tr.length t1) o7 kg (λk=>n0<=k) xs [.slice A0 l0.length c0,.slice A1 l1.length c1,.slice A2 rt.length c2,.slice A3 cs.length c3,.slice A4 tw.length c4,.slice A5 tr.length c5,.slice A6 pl.length c6,.slice A7 ps.length c7,.int .i64 fr,.int .i64 jH,.int .i64 limit,.int .i64 many])) (λv9 _=>o7.length-(intOf v9).toNat)
 case atStart=>exact⟨0,.slice none 0 0,[],tr,Nat.zero_le _,rfl,⟨rfl⟩,⟨λm hm=>absurd hm (Nat.not_lt_zero _)⟩,⟨rfl⟩,⟨λ_ m hm=>absurd hm (Nat.not_lt_zero _)⟩,HL⟩
 case round=>
  clear HL
  obtain⟨i,v2,xs,kg,hi,rfl,ZJ,HTO,Sz,Nt,HL⟩:=hrel
  by_cases hil:i<o7.length
  .have YB:i<l1.length:=by have:=TG.out;omega
   have hqn:=HR.out.EL i YB
   have htj:=HT.out.at_ i YB
   obtain⟨q,hq⟩:∃q,s i=q:=⟨_,rfl⟩
   rw[hq] at hqn htj
   obtain⟨af,e,hf0⟩:=Kd.cK (Kd.dL HL.out.rf).2.2 (i:Int) (by omega) (by omega)
   cases e
   rw[htj] at hf0
   obtain⟨ad,e,hq0,hq1,hq2,hq3⟩:=RX (Kd.av K1.out HL.out.b) (q:Int) (by omega) (by omega)
   cases e
   simp only[Int.toNat_natCast] at hq0 hq1 hq2 hq3 hf0
   have hre:l1.getD q z74=bA l1 (q:Int):=by simp[bA]
   obtain⟨r,hr⟩:∃r,bA l1 (q:Int)=r:=⟨_,rfl⟩
   rw[hr] at hq0 hq1 hq2 hq3 hre
   have Xf:=aa.mk (λ(r':pO) (h:r'=r\/r'=xS r)=>HTO.out.snoc ZJ.out (r:=r') (by rw[hq,hre];exact h))
   have HQ:=aa.mk hq
   have hiF:(i:Int)<(o7.length:Int):=by omega
   have hqI:(q:Int)<l1.length:=by omega
   have hi0:(0:Int)<=(i:Int):=by omega
   have abE:(0:Int)<=(q:Int):=by omega
   have VA:=aa.mk (show(xs.length+1)*32<=140737488355328 by have:=ZJ.out;have:=TG.out;omega)
   have HI1:=aa.mk (show i+1<=o7.length by omega)
   have SI:=aa.mk (show i<=1000 by have:=TG.out;omega)
   have HME:=aa.mk (show o7.length-(intOf (.int .i64 ((i:Int)+1))).toNat<o7.length-(intOf (.int .i64 (i:Int))).toNat by simp[intOf];omega)
   have hx1:wr.cell? ⟨w0.heap.size,1,none⟩=some (.slice (some ad) l1.length c1):=by simpa using HL.out.bx.cell 1
   clear hr hre hq htj hqn YB
   go_wp2_with fail
   refine dB (n:=11) (S:=λw'=>w'.cell? ⟨w0.heap.size,1,none⟩=some (.slice (some ad) l1.length c1)/\w'.cell? (af.add i)=some (.int .i64 (q:Int))/\w'.cell? (ad.add (q*4))=some (.int .i64 r.f0)/\w'.cell? ⟨(ad.add (q*4)).block,(ad.add (q*4)).off+1,none⟩=some (.int .i64 r.f1)/\w'.cell? ⟨(ad.add (q*4)).block,(ad.add (q*4)).off+2,none⟩=some (.int .i64 r.f2.f0)/\w'.cell? ⟨(ad.add (q*4)).block,(ad.add (q*4)).off+3,none⟩=some (.int .i64 r.f2.f1)) (ds:=[10]) #[O,O,O,O,O,O,O,O,O,O,O] (by kernel_rfl) rfl rfl ⟨hx1,hf0,hq0,hq1,hq2,hq3⟩ (λhHeld=>?_);refine bu lk.Jh lk.Co (λak bN=>?_)
   have LD:=aa.mk (HL.out.later (aM (Below.refl _ _)))
   have hgd:n0<=wr.drew.heap.size:=HL.out.sz
   clear HL hx1 hf0 hq0 hq1 hq2 hq3
   generalize wr.drew=wd at LD hgd hHeld ⊢
   refine aZ 0 118 #[I,O,O,O,O,O,O,O,O,O,O] ak (h:=?_)
   refine aZ 1 119 #[I,I,O,O,O,O,O,O,O,O,O] ak (h:=?_)
   refine dG 2 120 #[I,I,I,O,O,O,O,O,O,O,O] ak bN hHeld (hy:=by(rintro w' ⟨s0,s1,s2,s3,s4,s5⟩;go_simp;with_reducible rfl)) (h:=?_)
   refine aZ 3 121 #[I,I,I,I,O,O,O,O,O,O,O] ak (h:=?_)
   refine aZ 4 122 #[I,I,I,I,I,O,O,O,O,O,O] ak (h:=?_)
   refine aZ 5 123 #[I,I,I,I,I,I,O,O,O,O,O] ak (h:=?_)
   refine dG 6 124 #[I,I,I,I,I,I,I,O,O,O,O] ak bN hHeld (hy:=by(rintro w' ⟨s0,s1,s2,s3,s4,s5⟩;go_simp;with_reducible rfl)) (h:=?_)
   refine aZ 7 125 #[I,I,I,I,I,I,I,I,O,O,O] ak (h:=?_)
   refine dG 8 126 #[I,I,I,I,I,I,I,I,I,O,O] ak bN hHeld (hy:=by(rintro w' ⟨s0,s1,s2,s3,s4,s5⟩;go_simp;with_reducible rfl)) (h:=?_)
   refine dO (i:=9) (N:=some 10) #[I,I,I,I,I,I,I,I,I,I,O] rfl rfl (aI ak.out (by kernel_rfl)) (by decide) (λK hK=>?_)
   refine bT (w1:=?_) (v:=?_) (by rfl) rfl ?_ ?_
   rotate_left 2
   .go_simp
    constructor<;>rfl
   refine hK.out _ _ ⟨((ae (Below.refl _ _) (.cells #[.int .i64 0,.int .i64 0,.int .i64 0,.int .i64 0] 74)).cell (World.block_lt_of_cell? _ _ hHeld.1)).trans hHeld.1,((ae (Below.refl _ _) (.cells #[.int .i64 0,.int .i64 0,.int .i64 0,.int .i64 0] 74)).cell (World.block_lt_of_cell? _ _ hHeld.2.1)).trans hHeld.2.1,((ae (Below.refl _ _) (.cells #[.int .i64 0,.int .i64 0,.int .i64 0,.int .i64 0] 74)).cell (World.block_lt_of_cell? _ _ hHeld.2.2.1)).trans hHeld.2.2.1,((ae (Below.refl _ _) (.cells #[.int .i64 0,.int .i64 0,.int .i64 0,.int .i64 0] 74)).cell (World.block_lt_of_cell? _ _ hHeld.2.2.2.1)).trans hHeld.2.2.2.1,((ae (Below.refl _ _) (.cells #[.int .i64 0,.int .i64 0,.int .i64 0,.int .i64 0] 74)).cell (World.block_lt_of_cell? _ _ hHeld.2.2.2.2.1)).trans hHeld.2.2.2.2.1,((ae (Below.refl _ _) (.cells #[.int .i64 0,.int .i64 0,.int .i64 0,.int .i64 0] 74)).cell (World.block_lt_of_cell? _ _ hHeld.2.2.2.2.2)).trans hHeld.2.2.2.2.2⟩ (λhHeld=>?_)
   clear hK K
   have VO:=aa.mk (aR.new wd [.int .i64 0,.int .i64 0,.int .i64 0,.int .i64 0] 74)
   have hz0:=VO.out.cell 0
   have hz1:=VO.out.cell 1
   have hz2:=VO.out.cell 2
   have hz3:=VO.out.cell 3
   have abp:=VO.out.frozen 0
   have agU:=VO.out.frozen 1
   have agT:=VO.out.frozen 2
   have agS:=VO.out.frozen 3
   simp only[eP,eO] at hz0 hz1 hz2 hz3
   refine iY ?_
   refine dE (i:=10) (N:=none) #[I,I,I,I,I,I,I,I,I,I,I] rfl rfl (aI ak.out (by kernel_rfl)) (by decide) (λK hK=>?_)
   have eY:=hz0
   have ig:=abp
   refine gW (w1:=?_) (by rfl) rfl ?_ ?_
   rotate_left
   .go_simp
    rfl
   refine hK.out _ _ ?_
   clear hK K eY ig hz0 hz1 hz2 hz3 abp agU agT agS
   have BY:=aa.mk (show aR (wd.alloc (.cells #[.int .i64 r.f0,.int .i64 r.f1,.int .i64 r.f2.f0,.int .i64 r.f2.f1] 74)) wd.heap.size (Ck r) 74 from aR.new wd (Ck r) _)
   have LY:=aa.mk ((LD.out.own).later (ae (Below.refl _ _) (.cells #[.int .i64 r.f0,.int .i64 r.f1,.int .i64 r.f2.f0,.int .i64 r.f2.f1] 74)))
   clear LD VO
   generalize wd.alloc (.cells #[.int .i64 r.f0,.int .i64 r.f1,.int .i64 r.f2.f0,.int .i64 r.f2.f1] 74)=wy at BY LY ⊢
   generalize wd.heap.size=gy at BY LY hgd ⊢
   have hgy:=hgd
   clear hgd
   refine dK (bG ak.out (by kernel_rfl)) ?_
   clear ak bN
   obtain⟨tu,htu⟩:=Gp ws i SI.out
   have HTU:=aa.mk htu
   clear htu
   go_wp2_with fail
   refine(gG.calls Aw cw ws (i:Int) tu wy (Kd.av KU.out LY.out.b) hcw HTU.out).mono ?_
   rintro e wg ⟨rfl,aca⟩
   have hbx:=aca.below
   replace LY:=aa.mk (LY.out.later hbx)
   replace BY:=aa.mk (BY.out.below hbx)
   clear hbx aca
   generalize hwf:wg=wf at LY BY ⊢
   clear hwf
   have hy0:=BY.out.cell 0
   have hy1:=BY.out.cell 1
   have hy2:=BY.out.cell 2
   have hy3:=BY.out.cell 3
   have anW:=BY.out.frozen 0
   have anV:=BY.out.frozen 1
   have Ky:=LY.out.m7.cell 1
   have aie:=LY.out.m7.frozen 1
   simp only[Ck,eP,eO] at hy0 hy1 hy2 hy3 Ky
   cases tu
   .go_upto_region 12 with((with_reducible refine cz (b:= .append) (xs:=#[.tmp 137,.tmp 139]) rfl ?_);refine Kd.jk Dv (w0:=wf) n0 rfl (.tmp 137) (.tmp 139) 60 74 (.agg #[.int .i64 0,.int .i64 0,.int .i64 0,.int .i64 0]) 32 rfl Tryz.underlying60 Ei rfl (by decide) (by decide) v2 xs r [.int .i64 r.f0,.int .i64 r.f1,.int .i64 r.f2.f0,.int .i64 r.f2.f1] (λb=>n0<=b) (λ_=>False) rfl rfl (Mv _ _ _ r) (λ_ hk=>hk.elim) (λb hb=>Nat.le_trans LY.out.sz hb) (Kd.bB LY.out.rx (λ_ h=>h.1)) (Below.refl _ _) LY.out.sz VA.out ?_;intro vn wn hon hbn hgn fP;obtain⟨An,nn,cn,rfl⟩:=iy hon;have LZ:=aa.mk (LY.out.app hbn hon);have B7n:=aa.mk (LY.out.m7.move (hbn.block _ LY.out.g7.2));clear hon hbn hgn fP;have Y2:=B7n.out.cell 1;have aio:=B7n.out.frozen 1;simp only[eP,eO] at Y2)
    generalize wn.setCell ⟨b7,1,none⟩ (.slice An nn cn)=wz at LZ ⊢
    have hx5:=LZ.out.bx.cell 5
    simp only[eP,eO] at hx5
    by_cases hte:tr.length=o7.length
    .have Yn:((tr.length:Int)==(o7.length:Int))=true:=by simp[hte]
     have PH:=aa.mk hte
     clear hte
     obtain⟨gT,aiG,eT,_,_,_⟩:=Kd.zg LZ.out.rt (by have:=Sz.out;have:=PH.out;have:=HI1.out;omega)
     injection eT with eT1 eT2 eT3
     subst eT1
     clear eT2 eT3
     have hmT:(i:Int)<tr.length:=by have:=PH.out;have:=HI1.out;omega
     have hqT:(q:Int)<tr.length:=by have:=PH.out;have:=TG.out;omega
     obtain⟨at5,e5,Y5⟩:=Kd.cK (Kd.av KT.out LZ.out.b) (q:Int) abE hqT
     cases e5
     obtain⟨af2,e6,hfz⟩:=Kd.cK (Kd.dL LZ.out.rf).2.2 (i:Int) hi0 hiF
     cases e6
     rw[HT.out.at_ i (by have:=TG.out;omega),HQ.out] at hfz
     simp only[Int.toNat_natCast] at Y5 hfz
     obtain⟨Rq,Rn⟩:=Kd.jE 0 LZ.out.rt (i:Int) hi0 hmT
     simp only[Int.toNat_natCast] at Rq Rn
     have YZ:=LZ.out.m8.cell 1
     simp only[eP,eO] at YZ
     go_wp2_with fail
     refine dB (n:=14) (S:=λw'=>w'.cell? ⟨b8,1,none⟩=some (.slice (some ⟨gT,0,none⟩) tr.length t1)/\w'.cell? ⟨w0.heap.size,5,none⟩=some (.slice (some at5) tr.length c5)/\w'.cell? (af.add i)=some (.int .i64 (q:Int))/\w'.cell? (at5.add q)=some (.int .i64 (rd tr (q:Int)))) (ds:=[13]) #[O,O,O,O,O,O,O,O,O,O,O,O,O,O] (by kernel_rfl) rfl rfl ⟨YZ,hx5,hfz,Y5⟩ (λhHeld=>?_);refine bu lk.Mj lk.FR (λak bN=>?_)
     have LU:=aa.mk (LZ.out.later (aM (Below.refl _ _)))
     replace Rq:wz.drew.cell? ⟨gT,i,none⟩=_:=Rq
     replace Rn:wz.drew.frozen? ⟨gT,i,none⟩=false:=Rn
     clear LZ hx5 hfz Y5 YZ
     generalize wz.drew=wd2 at LU Rq Rn hHeld ⊢
     refine aZ 0 149 #[I,O,O,O,O,O,O,O,O,O,O,O,O,O] ak (h:=?_)
     refine dG 1 150 #[I,I,O,O,O,O,O,O,O,O,O,O,O,O] ak bN hHeld (hy:=by(rintro w' ⟨s0,s1,s2,s3⟩;go_simp;with_reducible rfl)) (h:=?_)
     refine aZ 2 151 #[I,I,I,O,O,O,O,O,O,O,O,O,O,O] ak (h:=?_)
     refine aZ 3 152 #[I,I,I,I,O,O,O,O,O,O,O,O,O,O] ak (h:=?_)
     refine aZ 4 153 #[I,I,I,I,I,O,O,O,O,O,O,O,O,O] ak (h:=?_)
     refine dG 5 154 #[I,I,I,I,I,I,O,O,O,O,O,O,O,O] ak bN hHeld (hy:=by(rintro w' ⟨s0,s1,s2,s3⟩;go_simp;with_reducible rfl)) (h:=?_)
     refine aZ 6 155 #[I,I,I,I,I,I,I,O,O,O,O,O,O,O] ak (h:=?_)
     refine aZ 7 156 #[I,I,I,I,I,I,I,I,O,O,O,O,O,O] ak (h:=?_)
     refine aZ 8 157 #[I,I,I,I,I,I,I,I,I,O,O,O,O,O] ak (h:=?_)
     refine dG 9 158 #[I,I,I,I,I,I,I,I,I,I,O,O,O,O] ak bN hHeld (hy:=by(rintro w' ⟨s0,s1,s2,s3⟩;go_simp;with_reducible rfl)) (h:=?_)
     refine aZ 10 159 #[I,I,I,I,I,I,I,I,I,I,I,O,O,O] ak (h:=?_)
     refine dG 11 160 #[I,I,I,I,I,I,I,I,I,I,I,I,O,O] ak bN hHeld (hy:=by(rintro w' ⟨s0,s1,s2,s3⟩;go_simp;with_reducible rfl)) (h:=?_)
     refine aZ 12 161 #[I,I,I,I,I,I,I,I,I,I,I,I,I,O] ak (h:=?_)
     refine dE (i:=13) (N:=none) #[I,I,I,I,I,I,I,I,I,I,I,I,I,I] rfl rfl (aI ak.out (by kernel_rfl)) (by decide) (λK hK=>?_)
     have eY:=Rq
     have ig:=Rn
     refine gW (w1:=?_) (by rfl) rfl ?_ ?_
     rotate_left
     .go_simp
      rfl
     refine hK.out _ _ ?_
     clear hK K eY ig
     have LV:=aa.mk (LU.out.xn i (rd tr (q:Int)))
     clear LU
     generalize wd2.setCell ⟨gT,i,none⟩ (.int .i64 (rd tr (q:Int)))=wv at LV ⊢
     refine dK (bG ak.out (by kernel_rfl)) ?_
     clear ak bN
     have hiw:=SI.out
     go_wp2_with fail
     exact⟨⟨i+1,.slice An nn cn,xs++[r],kg.set i (rd tr (q:Int)),HI1.out,congrArg (Value.int .i64) (Int.natCast_succ i).symm,⟨by rw[List.length_append,ZJ.out];rfl⟩,⟨Xf.out _ (.inl rfl)⟩,⟨by rw[List.length_set];exact Sz.out⟩,⟨GH HI1.out Sz.out PH.out Nt.out HQ.out⟩,LV⟩,HME.out⟩
    .have Yn:((tr.length:Int)==(o7.length:Int))=false:=by rw[beq_eq_false_iff_ne];omega
     have PH:=aa.mk hte
     clear hte
     have hiw:=SI.out
     go_wp2_with fail
     exact⟨⟨i+1,.slice An nn cn,xs++[r],kg,HI1.out,congrArg (Value.int .i64) (Int.natCast_succ i).symm,⟨by rw[List.length_append,ZJ.out];rfl⟩,⟨Xf.out _ (.inl rfl)⟩,Sz,⟨λh=>absurd h PH.out⟩,LZ⟩,HME.out⟩
   .obtain⟨w8,hw8⟩:∃w8,(wf.setCell ⟨gy,0,none⟩ (.int .i64 r.f1)).setCell ⟨gy,1,none⟩ (.int .i64 r.f0)=w8:=⟨_,rfl⟩
    have lY8:=(LY.out.aa4 hgy (λk hk=>Nat.ne_of_lt hk.2) 0 (.int .i64 r.f1)).aa4 hgy (λk hk=>Nat.ne_of_lt hk.2) 1 (.int .i64 r.f0)
    rw[hw8] at lY8
    have Xd:=aa.mk lY8
    clear lY8
    have BY8:=aa.mk (show aR w8 gy (Ck (xS r)) 74 by rw[<- hw8];exact df (df BY.out 0 _) 1 _)
    have hy0':=BY8.out.cell 0
    have agY:=BY8.out.cell 1
    have agX:=BY8.out.cell 2
    have agW:=BY8.out.cell 3
    have aif:=Xd.out.m7.cell 1
    have alL:=Xd.out.m7.frozen 1
    simp only[Ck,xS,eP,eO] at hy0' agY agX agW aif
    go_upto_region 12 with((with_reducible refine cz (b:= .append) (xs:=#[.tmp 137,.tmp 139]) rfl ?_);refine Kd.jk Dv (w0:=w8) n0 rfl (.tmp 137) (.tmp 139) 60 74 (.agg #[.int .i64 0,.int .i64 0,.int .i64 0,.int .i64 0]) 32 rfl Tryz.underlying60 Ei rfl (by decide) (by decide) v2 xs (xS r) [.int .i64 r.f1,.int .i64 r.f0,.int .i64 r.f2.f0,.int .i64 r.f2.f1] (λb=>n0<=b) (λ_=>False) rfl rfl (Mv _ _ _ (xS r)) (λ_ hk=>hk.elim) (λb hb=>Nat.le_trans Xd.out.sz hb) (Kd.bB Xd.out.rx (λ_ h=>h.1)) (Below.refl _ _) Xd.out.sz VA.out ?_;intro vn wn hon hbn hgn fP;obtain⟨An,nn,cn,rfl⟩:=iy hon;have LZ:=aa.mk (Xd.out.app hbn hon);have B7n:=aa.mk (Xd.out.m7.move (hbn.block _ Xd.out.g7.2));clear hon hbn hgn fP;have Y2:=B7n.out.cell 1;have aio:=B7n.out.frozen 1;simp only[eP,eO] at Y2)
    generalize wn.setCell ⟨b7,1,none⟩ (.slice An nn cn)=wz at LZ ⊢
    have hx5:=LZ.out.bx.cell 5
    simp only[eP,eO] at hx5
    by_cases hte:tr.length=o7.length
    .have Yn:((tr.length:Int)==(o7.length:Int))=true:=by simp[hte]
     have PH:=aa.mk hte
     clear hte
     obtain⟨gT,aiG,eT,_,_,_⟩:=Kd.zg LZ.out.rt (by have:=Sz.out;have:=PH.out;have:=HI1.out;omega)
     injection eT with eT1 eT2 eT3
     subst eT1
     clear eT2 eT3
     have hmT:(i:Int)<tr.length:=by have:=PH.out;have:=HI1.out;omega
     have hqT:(q:Int)<tr.length:=by have:=PH.out;have:=TG.out;omega
     obtain⟨at5,e5,Y5⟩:=Kd.cK (Kd.av KT.out LZ.out.b) (q:Int) abE hqT
     cases e5
     obtain⟨af2,e6,hfz⟩:=Kd.cK (Kd.dL LZ.out.rf).2.2 (i:Int) hi0 hiF
     cases e6
     rw[HT.out.at_ i (by have:=TG.out;omega),HQ.out] at hfz
     simp only[Int.toNat_natCast] at Y5 hfz
     obtain⟨Rq,Rn⟩:=Kd.jE 0 LZ.out.rt (i:Int) hi0 hmT
     simp only[Int.toNat_natCast] at Rq Rn
     have YZ:=LZ.out.m8.cell 1
     simp only[eP,eO] at YZ
     go_wp2_with fail
     refine dB (n:=14) (S:=λw'=>w'.cell? ⟨b8,1,none⟩=some (.slice (some ⟨gT,0,none⟩) tr.length t1)/\w'.cell? ⟨w0.heap.size,5,none⟩=some (.slice (some at5) tr.length c5)/\w'.cell? (af.add i)=some (.int .i64 (q:Int))/\w'.cell? (at5.add q)=some (.int .i64 (rd tr (q:Int)))) (ds:=[13]) #[O,O,O,O,O,O,O,O,O,O,O,O,O,O] (by kernel_rfl) rfl rfl ⟨YZ,hx5,hfz,Y5⟩ (λhHeld=>?_);refine bu lk.Mj lk.FR (λak bN=>?_)
     have LU:=aa.mk (LZ.out.later (aM (Below.refl _ _)))
     replace Rq:wz.drew.cell? ⟨gT,i,none⟩=_:=Rq
     replace Rn:wz.drew.frozen? ⟨gT,i,none⟩=false:=Rn
     clear LZ hx5 hfz Y5 YZ
     generalize wz.drew=wd2 at LU Rq Rn hHeld ⊢
     refine aZ 0 149 #[I,O,O,O,O,O,O,O,O,O,O,O,O,O] ak (h:=?_)
     refine dG 1 150 #[I,I,O,O,O,O,O,O,O,O,O,O,O,O] ak bN hHeld (hy:=by(rintro w' ⟨s0,s1,s2,s3⟩;go_simp;with_reducible rfl)) (h:=?_)
     refine aZ 2 151 #[I,I,I,O,O,O,O,O,O,O,O,O,O,O] ak (h:=?_)
     refine aZ 3 152 #[I,I,I,I,O,O,O,O,O,O,O,O,O,O] ak (h:=?_)
     refine aZ 4 153 #[I,I,I,I,I,O,O,O,O,O,O,O,O,O] ak (h:=?_)
     refine dG 5 154 #[I,I,I,I,I,I,O,O,O,O,O,O,O,O] ak bN hHeld (hy:=by(rintro w' ⟨s0,s1,s2,s3⟩;go_simp;with_reducible rfl)) (h:=?_)
     refine aZ 6 155 #[I,I,I,I,I,I,I,O,O,O,O,O,O,O] ak (h:=?_)
     refine aZ 7 156 #[I,I,I,I,I,I,I,I,O,O,O,O,O,O] ak (h:=?_)
     refine aZ 8 157 #[I,I,I,I,I,I,I,I,I,O,O,O,O,O] ak (h:=?_)
     refine dG 9 158 #[I,I,I,I,I,I,I,I,I,I,O,O,O,O] ak bN hHeld (hy:=by(rintro w' ⟨s0,s1,s2,s3⟩;go_simp;with_reducible rfl)) (h:=?_)
     refine aZ 10 159 #[I,I,I,I,I,I,I,I,I,I,I,O,O,O] ak (h:=?_)
     refine dG 11 160 #[I,I,I,I,I,I,I,I,I,I,I,I,O,O] ak bN hHeld (hy:=by(rintro w' ⟨s0,s1,s2,s3⟩;go_simp;with_reducible rfl)) (h:=?_)
     refine aZ 12 161 #[I,I,I,I,I,I,I,I,I,I,I,I,I,O] ak (h:=?_)
     refine dE (i:=13) (N:=none) #[I,I,I,I,I,I,I,I,I,I,I,I,I,I] rfl rfl (aI ak.out (by kernel_rfl)) (by decide) (λK hK=>?_)
     have eY:=Rq
     have ig:=Rn
     refine gW (w1:=?_) (by rfl) rfl ?_ ?_
     rotate_left
     .go_simp
      rfl
     refine hK.out _ _ ?_
     clear hK K eY ig
     have LV:=aa.mk (LU.out.xn i (rd tr (q:Int)))
     clear LU
     generalize wd2.setCell ⟨gT,i,none⟩ (.int .i64 (rd tr (q:Int)))=wv at LV ⊢
     refine dK (bG ak.out (by kernel_rfl)) ?_
     clear ak bN
     have hiw:=SI.out
     go_wp2_with fail
     exact⟨⟨i+1,.slice An nn cn,xs++[(xS r)],kg.set i (rd tr (q:Int)),HI1.out,congrArg (Value.int .i64) (Int.natCast_succ i).symm,⟨by rw[List.length_append,ZJ.out];rfl⟩,⟨Xf.out _ (.inr rfl)⟩,⟨by rw[List.length_set];exact Sz.out⟩,⟨GH HI1.out Sz.out PH.out Nt.out HQ.out⟩,LV⟩,HME.out⟩
    .have Yn:((tr.length:Int)==(o7.length:Int))=false:=by rw[beq_eq_false_iff_ne];omega
     have PH:=aa.mk hte
     clear hte
     have hiw:=SI.out
     go_wp2_with fail
     exact⟨⟨i+1,.slice An nn cn,xs++[(xS r)],kg,HI1.out,congrArg (Value.int .i64) (Int.natCast_succ i).symm,⟨by rw[List.length_append,ZJ.out];rfl⟩,⟨Xf.out _ (.inr rfl)⟩,Sz,⟨λh=>absurd h PH.out⟩,LZ⟩,HME.out⟩
  .obtain rfl:i=o7.length:=by omega
   obtain⟨X1,nx,x1,rfl⟩:=iy HL.out.rx
   obtain⟨rfl,hx,hCx⟩:=Kd.dL HL.out.rx
   obtain⟨_,_,hCt⟩:=Kd.dL HL.out.rt
   obtain⟨W_,hW⟩:∃l,l0.map U4=l:=⟨_,rfl⟩
   obtain⟨R,xM⟩:∃l,l1.map sJ=l:=⟨_,rfl⟩
   obtain⟨R2,hR2⟩:∃l,xs.map sJ=l:=⟨_,rfl⟩
   obtain⟨PL,WI⟩:∃l,pl.map M4=l:=⟨_,rfl⟩
   have hxl:xs.length=l1.length:=ZJ.out.trans TG.out
   have HE:=aa.mk (TV (W:=W_) HR.out hxl (by have:=HTO.out;rw[TG.out] at this;exact this) Sz.out (by have:=Nt.out;rw[TG.out] at this;exact this) rt cs tw ps PL fr jH limit many xM hR2)
   have m8:=HL.out.m8
   rw[<- Sz.out] at m8
   have LXX:=aa.mk (show LX w0 wr l0 l1 xs rt cs tw tr kg ps pl fr jH limit many b7 b8 A0 A1 A2 A3 A4 A5 A6 A7 X1 T1 c0 c1 c2 c3 c4 c5 c6 c7 x1 t1 from⟨HL.out.b,HL.out.bx,HL.out.m7,m8,Kd.av K0.out HL.out.b,Kd.av K1.out HL.out.b,hCx,Kd.av KR.out HL.out.b,Kd.av KC.out HL.out.b,Kd.av KW.out HL.out.b,Kd.av KT.out HL.out.b,hCt,Kd.av KS.out HL.out.b,Kd.av KP.out HL.out.b⟩)
   have HH:=aa.mk (show l0.map U4=W_/\l1.map sJ=R/\xs.map sJ=R2/\pl.map M4=PL from⟨hW,xM,hR2,WI⟩)
   have hx24:xs.length<=1000:=by omega
   have ht2:kg.length<=1000:=by have:=Sz.out;omega
   have HX:=aa.mk hx
   have ai9:=aa.mk hx24
   have HT2:=aa.mk ht2
   clear hW xM hR2 WI m8 hCx hCt hxl hx24 ht2 hx
   go_wp2_with fail
   refine agJ _ ?_ LXX.out HH.out.1 HH.out.2.1 HH.out.2.2.1 (Nat.le_trans h0 (by decide)) (Nat.le_trans h1 (by decide)) ai9.out hc0 hc1 HX.out HH.out.2.2.2 FZ.out hpl hrt hcs ug htr HT2.out Gg hps HE.out
   rfl
end Go.Proofs.YtkjoilgpmngndaaGreat.Wk
