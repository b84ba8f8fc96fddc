import Derived.Test.YtdekaocdmjndaaaGreatQ28
set_option linter.all false
namespace Go.Proofs.YtdekaocdmjndaaaGreat.Wk
open Go.RowKit Go.Shelf ah YtdekaocdmjndaaaGreatW.aj YtdekaocdmjndaaaGreatW.aH
attribute [local go_sem] Oper.semAt_some
set_option maxRecDepth 100000 in
set_option maxHeartbeats 40000000 in
theorem OT{A0:Option Addr}{c0:Nat}{Wk:List fG}{A1:Option Addr}{c1:Nat}{R:List dJ}{w:World}(h:IsMap w A0 c0 Wk A1 c1 R)(hN:Wk.length<=8)(hR:∀r ∈ R,o6 Wk.length r):
  CallsIn Fence.wide 9 Tryz.prog 138 #[.agg #[.slice A0 Wk.length c0,.slice A1 R.length c1]] w λe w'=>∃ga mb,e= .returned (.pointer (some ⟨ga,0,none⟩))/\Ai w' ga (.slice A0 Wk.length c0) (.slice A1 R.length c1) (tm R Wk.length) (fs R Wk.length) mb/\w'.heap[mb]?=some (.map #[] 0)/\w.heap.size<=ga/\w.heap.size<=mb/\Below w.heap.size w w':=by
 have H:=aa.mk h
 have Xq:=aa.mk hR
 have hbr:=h.br
 clear h hR
 have hmm:=@run_makeMap Tryz.prog
 refine bV Tryz.func138 rfl trivial ?_ rfl
 simp only[Tryz.ntmps138,List.size_toArray,List.length_cons,List.length_nil,Nat.reduceAdd,Nat.reduceSub,Array.replicate_succ,Array.replicate_zero,List.push_toArray,List.append_toArray,List.nil_append,List.cons_append]
 refine wpIn_wide.2 ?_
 go_wp2_with (with_reducible refine wpIn_wide.2 ?_)
 clear hmm
 have HAW:aa (AW w ((((w.alloc (.cells #[.slice A0 Wk.length c0,.slice A1 R.length c1] 155)).alloc (.map #[] 0)).alloc (.cells (((Tryz.zeroCells341.setIfInBounds 0 (.slice A0 Wk.length c0)).setIfInBounds 1 (.slice A1 R.length c1)).setIfInBounds 130 (.map (some (w.heap.size+1)))) 341)).alloc (.cells #[.pointer (some ⟨w.heap.size+1+1,0,none⟩)] 268)) (w.heap.size) (w.heap.size+1) (w.heap.size+1+1) (w.heap.size+1+1+1) (.slice A0 Wk.length c0) (.slice A1 R.length c1) (TT R Wk.length 0) (FF R Wk.length 0)):=by
  have h1:=Rz ((w.alloc (.cells #[.slice A0 Wk.length c0,.slice A1 R.length c1] 155)).alloc (.map #[] 0)) (.slice A0 Wk.length c0) (.slice A1 R.length c1) (w.heap.size+1) R Wk.length rfl
  simp only[World.size_alloc] at h1
  refine⟨⟨ae (ae (ae (ae (Below.refl _ _) _) _) _) _,(((aV.new w [.slice A0 Wk.length c0,.slice A1 R.length c1] 155).alloc _).alloc _).alloc _,?_,?_,?_,Nat.le_refl _,by omega,by omega,by omega⟩⟩
  .have:=heap_alloc_new (((w.alloc (.cells #[.slice A0 Wk.length c0,.slice A1 R.length c1] 155)).alloc (.map #[] 0)).alloc (.cells (((Tryz.zeroCells341.setIfInBounds 0 (.slice A0 Wk.length c0)).setIfInBounds 1 (.slice A1 R.length c1)).setIfInBounds 130 (.map (some (w.heap.size+1)))) 341)) (.cells #[.pointer (some ⟨w.heap.size+1+1,0,none⟩)] 268)
   simp only[World.size_alloc] at this
   exact this
  .have:=heap_alloc_new (w.alloc (.cells #[.slice A0 Wk.length c0,.slice A1 R.length c1] 155)) (.map #[] 0)
   simp only[World.size_alloc] at this
   exact ay (ay this _) _
  .exact h1.move (Below.heap_alloc _ _ _ (by simp))
 generalize Value.agg (((Tryz.zeroCells341.setIfInBounds 0 (.slice A0 Wk.length c0)).setIfInBounds 1 (.slice A1 R.length c1)).setIfInBounds 130 (.map (some (w.heap.size+1))))=v14
 refine wp_loop (λa' wr=>∃(ds:List Deferred) (k:Nat),k<=Wk.length/\aa (AW w wr (w.heap.size) (w.heap.size+1) (w.heap.size+1+1) (w.heap.size+1+1+1) (.slice A0 Wk.length c0) (.slice A1 R.length c1) (TT R Wk.length k) (FF R Wk.length k))/\aa (Marks w.heap.size wr ds)/\a'={tmps:=#[.agg #[.slice A0 Wk.length c0,.slice A1 R.length c1],.pointer (some ⟨w.heap.size,0,none⟩),.pointer none,.pointer (some ⟨w.heap.size+1+1+1,0,none⟩),(a'.tmps.getD 4 undef),(a'.tmps.getD 5 undef),(a'.tmps.getD 6 undef),(a'.tmps.getD 7 undef),(a'.tmps.getD 8 undef),(a'.tmps.getD 9 undef),(a'.tmps.getD 10 undef),(a'.tmps.getD 11 undef),.agg #[.slice A0 Wk.length c0,.slice A1 R.length c1],.map (some (w.heap.size+1)),v14,.pointer (some ⟨w.heap.size+1+1,0,none⟩),.pointer (some ⟨w.heap.size,0,none⟩),.slice A0 Wk.length c0,.int .i64 (Wk.length:Int),.int .i64 (k:Int),(a'.tmps.getD 20 undef),(a'.tmps.getD 21 undef),(a'.tmps.getD 22 undef),(a'.tmps.getD 23 undef),(a'.tmps.getD 24 undef),(a'.tmps.getD 25 undef),(a'.tmps.getD 26 undef),(a'.tmps.getD 27 undef),(a'.tmps.getD 28 undef),(a'.tmps.getD 29 undef),(a'.tmps.getD 30 undef),(a'.tmps.getD 31 undef),(a'.tmps.getD 32 undef),(a'.tmps.getD 33 undef),(a'.tmps.getD 34 undef),(a'.tmps.getD 35 undef),(a'.tmps.getD 36 undef),(a'.tmps.getD 37 undef),(a'.tmps.getD 38 undef),(a'.tmps.getD 39 undef),(a'.tmps.getD 40 undef),(a'.tmps.getD 41 undef),(a'.tmps.getD 42 undef),(a'.tmps.getD 43 undef),(a'.tmps.getD 44 undef),(a'.tmps.getD 45 undef),(a'.tmps.getD 46 undef),(a'.tmps.getD 47 undef),(a'.tmps.getD 48 undef),(a'.tmps.getD 49 undef),(a'.tmps.getD 50 undef),(a'.tmps.getD 51 undef),(a'.tmps.getD 52 undef),(a'.tmps.getD 53 undef),(a'.tmps.getD 54 undef),(a'.tmps.getD 55 undef),(a'.tmps.getD 56 undef),(a'.tmps.getD 57 undef),(a'.tmps.getD 58 undef),(a'.tmps.getD 59 undef),(a'.tmps.getD 60 undef),(a'.tmps.getD 61 undef),(a'.tmps.getD 62 undef),(a'.tmps.getD 63 undef),(a'.tmps.getD 64 undef),(a'.tmps.getD 65 undef),(a'.tmps.getD 66 undef),(a'.tmps.getD 67 undef),(a'.tmps.getD 68 undef),(a'.tmps.getD 69 undef),(a'.tmps.getD 70 undef),(a'.tmps.getD 71 undef),(a'.tmps.getD 72 undef),(a'.tmps.getD 73 undef),(a'.tmps.getD 74 undef),(a'.tmps.getD 75 undef),(a'.tmps.getD 76 undef),(a'.tmps.getD 77 undef),(a'.tmps.getD 78 undef),(a'.tmps.getD 79 undef),(a'.tmps.getD 80 undef),(a'.tmps.getD 81 undef),(a'.tmps.getD 82 undef),(a'.tmps.getD 83 undef),(a'.tmps.getD 84 undef),(a'.tmps.getD 85 undef),(a'.tmps.getD 86 undef),(a'.tmps.getD 87 undef),(a'.tmps.getD 88 undef),(a'.tmps.getD 89 undef),(a'.tmps.getD 90 undef),(a'.tmps.getD 91 undef),(a'.tmps.getD 92 undef),(a'.tmps.getD 93 undef),(a'.tmps.getD 94 undef),(a'.tmps.getD 95 undef),(a'.tmps.getD 96 undef),(a'.tmps.getD 97 undef),(a'.tmps.getD 98 undef),(a'.tmps.getD 99 undef),(a'.tmps.getD 100 undef),(a'.tmps.getD 101 undef),(a'.tmps.getD 102 undef),(a'.tmps.getD 103 undef),(a'.tmps.getD 104 undef),(a'.tmps.getD 105 undef),(a'.tmps.getD 106 undef),(a'.tmps.getD 107 undef),(a'.tmps.getD 108 undef),(a'.tmps.getD 109 undef),(a'.tmps.getD 110 undef),(a'.tmps.getD 111 undef),(a'.tmps.getD 112 undef),(a'.tmps.getD 113 undef),(a'.tmps.getD 114 undef),(a'.tmps.getD 115 undef),(a'.tmps.getD 116 undef),(a'.tmps.getD 117 undef),(a'.tmps.getD 118 undef),(a'.tmps.getD 119 undef),(a'.tmps.getD 120 undef),(a'.tmps.getD 121 undef),(a'.tmps.getD 122 undef),(a'.tmps.getD 123 undef),(a'.tmps.getD 124 undef),(a'.tmps.getD 125 undef),(a'.tmps.getD 126 undef),(a'.tmps.getD 127 undef),(a'.tmps.getD 128 undef),(a'.tmps.getD 129 undef),(a'.tmps.getD 130 undef),(a'.tmps.getD 131 undef),(a'.tmps.getD 132 undef),(a'.tmps.getD 133 undef),(a'.tmps.getD 134 undef),(a'.tmps.getD 135 undef),undef],defers:=ds}) (λa' _=>Wk.length-(intOf (a'.tmps.getD 19 undef)).toNat) ?start ?round
 case start=>exact⟨[],0,Nat.zero_le _,HAW,⟨trivial⟩,rfl⟩
 case round=>
  rintro a' w0 ⟨ds,k,hk,HA,HM,hfr⟩
  obtain⟨u,hu⟩:∃u:Nat->Value,a'={tmps:=#[.agg #[.slice A0 Wk.length c0,.slice A1 R.length c1],.pointer (some ⟨w.heap.size,0,none⟩),.pointer none,.pointer (some ⟨w.heap.size+1+1+1,0,none⟩),(u 4),(u 5),(u 6),(u 7),(u 8),(u 9),(u 10),(u 11),.agg #[.slice A0 Wk.length c0,.slice A1 R.length c1],.map (some (w.heap.size+1)),v14,.pointer (some ⟨w.heap.size+1+1,0,none⟩),.pointer (some ⟨w.heap.size,0,none⟩),.slice A0 Wk.length c0,.int .i64 (Wk.length:Int),.int .i64 (k:Int),(u 20),(u 21),(u 22),(u 23),(u 24),(u 25),(u 26),(u 27),(u 28),(u 29),(u 30),(u 31),(u 32),(u 33),(u 34),(u 35),(u 36),(u 37),(u 38),(u 39),(u 40),(u 41),(u 42),(u 43),(u 44),(u 45),(u 46),(u 47),(u 48),(u 49),(u 50),(u 51),(u 52),(u 53),(u 54),(u 55),(u 56),(u 57),(u 58),(u 59),(u 60),(u 61),(u 62),(u 63),(u 64),(u 65),(u 66),(u 67),(u 68),(u 69),(u 70),(u 71),(u 72),(u 73),(u 74),(u 75),(u 76),(u 77),(u 78),(u 79),(u 80),(u 81),(u 82),(u 83),(u 84),(u 85),(u 86),(u 87),(u 88),(u 89),(u 90),(u 91),(u 92),(u 93),(u 94),(u 95),(u 96),(u 97),(u 98),(u 99),(u 100),(u 101),(u 102),(u 103),(u 104),(u 105),(u 106),(u 107),(u 108),(u 109),(u 110),(u 111),(u 112),(u 113),(u 114),(u 115),(u 116),(u 117),(u 118),(u 119),(u 120),(u 121),(u 122),(u 123),(u 124),(u 125),(u 126),(u 127),(u 128),(u 129),(u 130),(u 131),(u 132),(u 133),(u 134),(u 135),undef],defers:=ds}:=⟨λi=>a'.tmps.getD i undef,hfr⟩
  clear hfr
  subst hu
  clear HAW
  dsimp only
  by_cases hlt:k<Wk.length
  .have hgm:=HA.out.m.lt
   have hgv:=HA.out.v.lt
   have hz0:=HA.out.m.cell 0
   have hz1:=HA.out.m.cell 1
   simp only[dZ,dY] at hz0 hz1
   go_wp2_with (with_reducible refine wpIn_wide.2 ?_)
   have WM:aa (GW w ((w0.alloc (.cells #[.int .i64 (k:Int)] 3)).alloc (.cells #[.bool false,.bool false,.bool false,.bool false,.bool false,.bool false,.bool false,.bool false] 252)) (w.heap.size) (w.heap.size+1) (w.heap.size+1+1) (w.heap.size+1+1+1) (.slice A0 Wk.length c0) (.slice A1 R.length c1) (TT R Wk.length k) (FF R Wk.length k) w0.heap.size (w0.heap.size+1) k (λ_=>false)):=by
    refine⟨⟨(HA.out.alloc _).alloc _,(aV.new w0 [.int .i64 (k:Int)] 3).alloc _,?_,hgv,by omega⟩⟩
    have:=Lm (w0.alloc (.cells #[.int .i64 (k:Int)] 3)) rfl
    simp only[World.size_alloc] at this
    exact this
   have FY:=aa.mk ((HM.out.alloc (.cells #[.int .i64 (k:Int)] 3)).alloc (.cells #[.bool false,.bool false,.bool false,.bool false,.bool false,.bool false,.bool false,.bool false] 252))
   clear hz0 hz1 hgm hgv HM
   generalize(w0.alloc (.cells #[.int .i64 (k:Int)] 3)).alloc (.cells #[.bool false,.bool false,.bool false,.bool false,.bool false,.bool false,.bool false,.bool false] 252)=w1 at WM FY ⊢
   go_loopw [25] (λv wr=>∃i:Nat,i<=Wk.length/\v= .int .i64 i/\aa (GW w wr (w.heap.size) (w.heap.size+1) (w.heap.size+1+1) (w.heap.size+1+1+1) (.slice A0 Wk.length c0) (.slice A1 R.length c1) (dV (TT R Wk.length k) k (λn=>if n<i then 1048576 else 0)) (FF R Wk.length k) w0.heap.size (w0.heap.size+1) k (λ_=>false))/\aa (Marks w.heap.size wr ds)) (λv _=>Wk.length-(intOf v).toNat)
   case atStart=>exact⟨0,Nat.zero_le _,rfl,⟨by rw[K6];exact WM.out⟩,FY⟩
   case round=>
    clear WM FY
    obtain⟨i,hi,rfl,HG,HM⟩:=hrel
    by_cases hil:i<Wk.length
    .have hv:=HG.out.uY
     have hg:=HG.out.vO
     have hT:=HG.out.aw.jO.time (i:=i) (j:=k) (by omega) (by omega)
     have hF:=HG.out.aw.jO.frozen (2+i*8+k)
     go_wp2_with fail
     go_region
     go_wp2_with fail
     go_roundw
     case rel=>exact⟨i+1,by omega,by go_num,⟨by rw[<- La];exact(HG.out.y5 (by omega) (by omega) _).drew⟩,⟨(HM.out.setCell _ _).drew⟩⟩
     case measure=>simp[intOf];omega
    .obtain rfl:i=Wk.length:=by omega
     go_wp2_with fail
     have hk8:(k:Int)<8:=by omega
     refine fF (n:=17) (S:=λw'=>w'.cell? ⟨w.heap.size+1+1+1,0,none⟩=some (.pointer (some ⟨w.heap.size+1+1,0,none⟩))/\w'.cell? ⟨w0.heap.size,0,none⟩=some (.int .i64 (k:Int))) (ds:=[16]) #[O,O,O,O,O,O,O,O,O,O,O,O,O,O,O,O,O] (by kernel_rfl) rfl rfl ⟨HG.out.drew.uY,HG.out.drew.vO⟩ (λhHeld=>?_);refine bG fC.ME fC.Dt (λau cz=>?_)
     have IC:=aa.mk HG.out.drew
     have HMd:=aa.mk HM.out.drew
     clear HG HM
     generalize wr.drew=wd at IC HMd hHeld ⊢
     refine fJ 0 36 #[I,O,O,O,O,O,O,O,O,O,O,O,O,O,O,O,O] au cz hHeld (hy:=by(rintro w' ⟨s0,s1⟩;go_simp;with_reducible rfl)) (h:=?_)
     refine fJ 1 37 #[I,I,O,O,O,O,O,O,O,O,O,O,O,O,O,O,O] au cz hHeld (hy:=by(rintro w' ⟨s0,s1⟩;go_simp;with_reducible rfl)) (h:=?_)
     refine fJ 2 38 #[I,I,I,O,O,O,O,O,O,O,O,O,O,O,O,O,O] au cz hHeld (hy:=by(rintro w' ⟨s0,s1⟩;go_simp;with_reducible rfl)) (h:=?_)
     refine fJ 3 39 #[I,I,I,I,O,O,O,O,O,O,O,O,O,O,O,O,O] au cz hHeld (hy:=by(rintro w' ⟨s0,s1⟩;go_simp;with_reducible rfl)) (h:=?_)
     refine fJ 4 40 #[I,I,I,I,I,O,O,O,O,O,O,O,O,O,O,O,O] au cz hHeld (hy:=by(rintro w' ⟨s0,s1⟩;go_simp;with_reducible rfl)) (h:=?_)
     refine fJ 5 41 #[I,I,I,I,I,I,O,O,O,O,O,O,O,O,O,O,O] au cz hHeld (hy:=by(rintro w' ⟨s0,s1⟩;go_simp;with_reducible rfl)) (h:=?_)
     refine fJ 6 42 #[I,I,I,I,I,I,I,O,O,O,O,O,O,O,O,O,O] au cz hHeld (hy:=by(rintro w' ⟨s0,s1⟩;go_simp;with_reducible rfl)) (h:=?_)
     refine bq 7 43 #[I,I,I,I,I,I,I,I,O,O,O,O,O,O,O,O,O] au (h:=?_)
     refine bq 8 44 #[I,I,I,I,I,I,I,I,I,O,O,O,O,O,O,O,O] au (h:=?_)
     refine bq 9 45 #[I,I,I,I,I,I,I,I,I,I,O,O,O,O,O,O,O] au (h:=?_)
     refine bq 10 46 #[I,I,I,I,I,I,I,I,I,I,I,O,O,O,O,O,O] au (h:=?_)
     refine bq 12 47 #[I,I,I,I,I,I,I,I,I,I,I,O,I,O,O,O,O] au (h:=?_)
     refine bq 13 48 #[I,I,I,I,I,I,I,I,I,I,I,O,I,I,O,O,O] au (h:=?_)
     refine bq 14 49 #[I,I,I,I,I,I,I,I,I,I,I,O,I,I,I,O,O] au (h:=?_)
     refine gB (i:=11) (N:=none) #[I,I,I,I,I,I,I,I,I,I,I,I,I,I,I,O,O] rfl rfl (aM au.out (by kernel_rfl)) (by decide) (λK hK=>?_)
     have iD:=IC.out.aw.jO.time (i:=k) (j:=k) (by omega) (by omega)
     have lG:=IC.out.aw.jO.frozen (2+k*8+k)
     refine kg (w1:=?_) (by rfl) rfl ?_ ?_
     rotate_left
     .go_simp
      rfl
     refine hK.out _ _ ⟨(IC.out.y5 (i:=k) (j:=k) (by omega) (by omega) 0).uY,(IC.out.y5 (i:=k) (j:=k) (by omega) (by omega) 0).vO⟩ (λhHeld=>?_)
     clear hK K iD lG
     have Pp:=aa.mk (IC.out.y5 (i:=k) (j:=k) (by omega) (by omega) 0)
     have HMe:=aa.mk (HMd.out.setCell ⟨w.heap.size+1+1,2+k*8+k,none⟩ (.int .i64 0))
     clear IC HMd
     generalize wd.setCell ⟨w.heap.size+1+1,2+k*8+k,none⟩ (.int .i64 0)=we at Pp HMe hHeld ⊢
     refine bq 15 50 #[I,I,I,I,I,I,I,I,I,I,I,I,I,I,I,I,O] au (h:=?_)
     refine fB (i:=16) (N:=none) #[I,I,I,I,I,I,I,I,I,I,I,I,I,I,I,I,I] rfl rfl (aM au.out (by kernel_rfl)) (by decide) (λK hK=>?_)
     have iD:=Pp.out.aw.jO.first (i:=k) (j:=k) (by omega) (by omega)
     have lG:=Pp.out.aw.jO.frozen (66+k*8+k)
     refine kg (w1:=?_) (by rfl) rfl ?_ ?_
     rotate_left
     .go_simp
      rfl
     refine hK.out _ _ ?_
     clear hK K iD lG
     have R5:=aa.mk (Pp.out.J3 (i:=k) (j:=k) (by omega) (by omega) (k:Int))
     have HMf:=aa.mk (HMe.out.setCell ⟨w.heap.size+1+1,66+k*8+k,none⟩ (.int .i64 (k:Int)))
     clear Pp HMe hHeld
     generalize we.setCell ⟨w.heap.size+1+1,66+k*8+k,none⟩ (.int .i64 (k:Int))=w1 at R5 HMf ⊢
     refine fM (bP au.out (by kernel_rfl)) ?_
     rw[OE,Lb] at R5
     have hz0:=R5.out.m0
     have hgl:=R5.out.aw.m.lt
     go_wp2_with (with_reducible refine wpIn_wide.2 ?_)
     clear hz0 hgl
     refine wp_loop (λa' wr=>∃(ds:List Deferred) (i:Nat),i<=Wk.length/\aa (GW w wr (w.heap.size) (w.heap.size+1) (w.heap.size+1+1) (w.heap.size+1+1+1) (.slice A0 Wk.length c0) (.slice A1 R.length c1) (dV (TT R Wk.length k) k (gW R Wk.length k i).c) (dV (FF R Wk.length k) k (gW R Wk.length k i).f) w0.heap.size (w0.heap.size+1) k ((gW R Wk.length k i).st))/\aa (Marks w.heap.size wr ds)/\a'={tmps:=#[.agg #[.slice A0 Wk.length c0,.slice A1 R.length c1],.pointer (some ⟨w.heap.size,0,none⟩),.pointer none,.pointer (some ⟨w.heap.size+1+1+1,0,none⟩),.pointer (some ⟨w0.heap.size,0,none⟩),.pointer (some ⟨w0.heap.size+1,0,none⟩),(a'.tmps.getD 6 undef),(a'.tmps.getD 7 undef),(a'.tmps.getD 8 undef),(a'.tmps.getD 9 undef),(a'.tmps.getD 10 undef),(a'.tmps.getD 11 undef),.agg #[.slice A0 Wk.length c0,.slice A1 R.length c1],.map (some (w.heap.size+1)),v14,.pointer (some ⟨w.heap.size+1+1,0,none⟩),.pointer (some ⟨w.heap.size,0,none⟩),.slice A0 Wk.length c0,.int .i64 (Wk.length:Int),.int .i64 (k:Int),(a'.tmps.getD 20 undef),(a'.tmps.getD 21 undef),(a'.tmps.getD 22 undef),(a'.tmps.getD 23 undef),(a'.tmps.getD 24 undef),(a'.tmps.getD 25 undef),(a'.tmps.getD 26 undef),(a'.tmps.getD 27 undef),(a'.tmps.getD 28 undef),(a'.tmps.getD 29 undef),(a'.tmps.getD 30 undef),(a'.tmps.getD 31 undef),(a'.tmps.getD 32 undef),(a'.tmps.getD 33 undef),(a'.tmps.getD 34 undef),(a'.tmps.getD 35 undef),(a'.tmps.getD 36 undef),(a'.tmps.getD 37 undef),(a'.tmps.getD 38 undef),(a'.tmps.getD 39 undef),(a'.tmps.getD 40 undef),(a'.tmps.getD 41 undef),(a'.tmps.getD 42 undef),(a'.tmps.getD 43 undef),(a'.tmps.getD 44 undef),(a'.tmps.getD 45 undef),(a'.tmps.getD 46 undef),(a'.tmps.getD 47 undef),(a'.tmps.getD 48 undef),(a'.tmps.getD 49 undef),(a'.tmps.getD 50 undef),(a'.tmps.getD 51 undef),(a'.tmps.getD 52 undef),.int .i64 (Wk.length:Int),.int .i64 (i:Int),(a'.tmps.getD 55 undef),(a'.tmps.getD 56 undef),(a'.tmps.getD 57 undef),(a'.tmps.getD 58 undef),(a'.tmps.getD 59 undef),(a'.tmps.getD 60 undef),(a'.tmps.getD 61 undef),(a'.tmps.getD 62 undef),(a'.tmps.getD 63 undef),(a'.tmps.getD 64 undef),(a'.tmps.getD 65 undef),(a'.tmps.getD 66 undef),(a'.tmps.getD 67 undef),(a'.tmps.getD 68 undef),(a'.tmps.getD 69 undef),(a'.tmps.getD 70 undef),(a'.tmps.getD 71 undef),(a'.tmps.getD 72 undef),(a'.tmps.getD 73 undef),(a'.tmps.getD 74 undef),(a'.tmps.getD 75 undef),(a'.tmps.getD 76 undef),(a'.tmps.getD 77 undef),(a'.tmps.getD 78 undef),(a'.tmps.getD 79 undef),(a'.tmps.getD 80 undef),(a'.tmps.getD 81 undef),(a'.tmps.getD 82 undef),(a'.tmps.getD 83 undef),(a'.tmps.getD 84 undef),(a'.tmps.getD 85 undef),(a'.tmps.getD 86 undef),(a'.tmps.getD 87 undef),(a'.tmps.getD 88 undef),(a'.tmps.getD 89 undef),(a'.tmps.getD 90 undef),(a'.tmps.getD 91 undef),(a'.tmps.getD 92 undef),(a'.tmps.getD 93 undef),(a'.tmps.getD 94 undef),(a'.tmps.getD 95 undef),(a'.tmps.getD 96 undef),(a'.tmps.getD 97 undef),(a'.tmps.getD 98 undef),(a'.tmps.getD 99 undef),(a'.tmps.getD 100 undef),(a'.tmps.getD 101 undef),(a'.tmps.getD 102 undef),(a'.tmps.getD 103 undef),(a'.tmps.getD 104 undef),(a'.tmps.getD 105 undef),(a'.tmps.getD 106 undef),(a'.tmps.getD 107 undef),(a'.tmps.getD 108 undef),(a'.tmps.getD 109 undef),(a'.tmps.getD 110 undef),(a'.tmps.getD 111 undef),(a'.tmps.getD 112 undef),(a'.tmps.getD 113 undef),(a'.tmps.getD 114 undef),(a'.tmps.getD 115 undef),(a'.tmps.getD 116 undef),(a'.tmps.getD 117 undef),(a'.tmps.getD 118 undef),(a'.tmps.getD 119 undef),(a'.tmps.getD 120 undef),(a'.tmps.getD 121 undef),(a'.tmps.getD 122 undef),(a'.tmps.getD 123 undef),(a'.tmps.getD 124 undef),(a'.tmps.getD 125 undef),(a'.tmps.getD 126 undef),(a'.tmps.getD 127 undef),(a'.tmps.getD 128 undef),(a'.tmps.getD 129 undef),(a'.tmps.getD 130 undef),(a'.tmps.getD 131 undef),(a'.tmps.getD 132 undef),(a'.tmps.getD 133 undef),(a'.tmps.getD 134 undef),(a'.tmps.getD 135 undef),undef],defers:=ds}) (λa' _=>Wk.length-(intOf (a'.tmps.getD 54 undef)).toNat) ?start ?round
     case start=>exact⟨ds,0,Nat.zero_le _,R5,HMf,rfl⟩
     case round=>
      clear R5 HMf
      rintro a' w2 ⟨ds2,i,hi,HG,HM,hfr⟩
      obtain⟨u3,hu⟩:∃u3:Nat->Value,a'={tmps:=#[.agg #[.slice A0 Wk.length c0,.slice A1 R.length c1],.pointer (some ⟨w.heap.size,0,none⟩),.pointer none,.pointer (some ⟨w.heap.size+1+1+1,0,none⟩),.pointer (some ⟨w0.heap.size,0,none⟩),.pointer (some ⟨w0.heap.size+1,0,none⟩),(u3 6),(u3 7),(u3 8),(u3 9),(u3 10),(u3 11),.agg #[.slice A0 Wk.length c0,.slice A1 R.length c1],.map (some (w.heap.size+1)),v14,.pointer (some ⟨w.heap.size+1+1,0,none⟩),.pointer (some ⟨w.heap.size,0,none⟩),.slice A0 Wk.length c0,.int .i64 (Wk.length:Int),.int .i64 (k:Int),(u3 20),(u3 21),(u3 22),(u3 23),(u3 24),(u3 25),(u3 26),(u3 27),(u3 28),(u3 29),(u3 30),(u3 31),(u3 32),(u3 33),(u3 34),(u3 35),(u3 36),(u3 37),(u3 38),(u3 39),(u3 40),(u3 41),(u3 42),(u3 43),(u3 44),(u3 45),(u3 46),(u3 47),(u3 48),(u3 49),(u3 50),(u3 51),(u3 52),.int .i64 (Wk.length:Int),.int .i64 (i:Int),(u3 55),(u3 56),(u3 57),(u3 58),(u3 59),(u3 60),(u3 61),(u3 62),(u3 63),(u3 64),(u3 65),(u3 66),(u3 67),(u3 68),(u3 69),(u3 70),(u3 71),(u3 72),(u3 73),(u3 74),(u3 75),(u3 76),(u3 77),(u3 78),(u3 79),(u3 80),(u3 81),(u3 82),(u3 83),(u3 84),(u3 85),(u3 86),(u3 87),(u3 88),(u3 89),(u3 90),(u3 91),(u3 92),(u3 93),(u3 94),(u3 95),(u3 96),(u3 97),(u3 98),(u3 99),(u3 100),(u3 101),(u3 102),(u3 103),(u3 104),(u3 105),(u3 106),(u3 107),(u3 108),(u3 109),(u3 110),(u3 111),(u3 112),(u3 113),(u3 114),(u3 115),(u3 116),(u3 117),(u3 118),(u3 119),(u3 120),(u3 121),(u3 122),(u3 123),(u3 124),(u3 125),(u3 126),(u3 127),(u3 128),(u3 129),(u3 130),(u3 131),(u3 132),(u3 133),(u3 134),(u3 135),undef],defers:=ds2}:=⟨λi=>a'.tmps.getD i undef,hfr⟩
      clear hfr
      subst hu
      dsimp only
      by_cases hil:i<Wk.length
      .have hz0:=HG.out.m0
       have hz1:=HG.out.m1
       have hgl:=HG.out.aw.m.lt
       go_wp2_with (with_reducible refine wpIn_wide.2 ?_)
       clear hz0 hz1 hgl
       obtain⟨s,hs⟩:∃s,gW R Wk.length k i=s:=⟨_,rfl⟩
       rw[hs] at HG
       have HS:=aa.mk hs
       clear hs
       have WM:=aa.mk (HG.out.alloc (.cells #[.int .i64 (-1)] 3))
       have FY:=aa.mk (HM.out.alloc (.cells #[.int .i64 (-1)] 3))
       have BN0:=aa.mk (aV.new w2 [.int .i64 (-1)] 3)
       have hgn:=HG.out.set.lt
       clear HG HM
       generalize w2.alloc (.cells #[.int .i64 (-1)] 3)=w3 at WM FY BN0 ⊢
       obtain⟨gn,YB⟩:∃gn,w2.heap.size=gn:=⟨_,rfl⟩
       rw[YB] at hgn BN0 ⊢
       clear YB
       go_loopw [59] (λv wr=>∃j:Nat,j<=Wk.length/\v= .int .i64 j/\aa (GW w wr (w.heap.size) (w.heap.size+1) (w.heap.size+1+1) (w.heap.size+1+1+1) (.slice A0 Wk.length c0) (.slice A1 R.length c1) (dV (TT R Wk.length k) k s.c) (dV (FF R Wk.length k) k s.f) w0.heap.size (w0.heap.size+1) k (s.st))/\aa (Marks w.heap.size wr ds2)/\aa (aV wr gn [.int .i64 (gI s.st s.c j)] 3)) (λv _=>Wk.length-(intOf v).toNat)
       case atStart=>exact⟨0,Nat.zero_le _,rfl,WM,FY,BN0⟩
       case round=>
        clear WM FY BN0
        obtain⟨j,hj,rfl,HG,HM,BN⟩:=hrel
        by_cases hjl:j<Wk.length
        .have hj8:(j:Int)<8:=by omega
         have hk8:(k:Int)<8:=by omega
         have hv:=HG.out.uY
         have hg:=HG.out.vO
         have hT:=HG.out.aw.jO.time (i:=j) (j:=k) (by omega) (by omega)
         rw[qd] at hT
         have hb:=HG.out.set.at_ (i:=j) (by omega)
         have hn:=BN.out.cell 0
         simp only[List.getElem?_cons_zero] at hn
         have hfn:=BN.out.frozen 0
         have hkn:=(HG.out.aw).Y8
         cases hst:s.st j
         .rw[hst] at hb
          have HST:=aa.mk hst
          clear hst
          rcases ql s.st s.c j with⟨hp,hp2⟩|⟨p,hp,hp2,hp3⟩
          .have RX:=aa.mk (Gw HST.out hp)
           rw[hp] at hn
           clear hp hp2
           go_wp2_with fail
           go_quiet (fail)
           go_wp2_with fail
           go_roundw
           case rel=>exact⟨j+1,by omega,by go_num,⟨(HG.out.drewN nq).other (p:=⟨gn,0,none⟩) (by simp only;omega) _⟩,⟨(HM.out.drewN nq).setCell _ _⟩,⟨by rw[RX.out];exact aV.set1 (w:=wr.drewN nq) BN.out _⟩⟩
           case measure=>simp[intOf];omega
          .rw[hp] at hn
           have HP:=aa.mk hp
           clear hp hp3
           have hpn:decide ((p:Int)<0)=false:=by simp
           have hp8:(p:Int)<8:=by omega
           have hT2:=HG.out.aw.jO.time (i:=p) (j:=k) (by omega) (by omega)
           rw[qd] at hT2
           by_cases hcc:s.c j<s.c p
           .have RX:=aa.mk (Ki HST.out HP.out hcc)
            obtain⟨cj,hcj⟩:∃x,s.c j=x:=⟨_,rfl⟩
            obtain⟨cp,hcp⟩:∃x,s.c p=x:=⟨_,rfl⟩
            rw[hcj] at hT hcc
            rw[hcp] at hT2 hcc
            clear hcj hcp
            have aeT:decide (cj<cp)=true:=by simpa using hcc
            clear hcc
            go_wp2_with fail
            go_quiet (fail)
            go_wp2_with fail
            go_roundw
            case rel=>exact⟨j+1,by omega,by go_num,⟨(HG.out.drewN nq).other (p:=⟨gn,0,none⟩) (by simp only;omega) _⟩,⟨(HM.out.drewN nq).setCell _ _⟩,⟨by rw[RX.out];exact aV.set1 (w:=wr.drewN nq) BN.out _⟩⟩
            case measure=>simp[intOf];omega
           .have RX:=aa.mk (M0 HP.out hcc)
            obtain⟨cj,hcj⟩:∃x,s.c j=x:=⟨_,rfl⟩
            obtain⟨cp,hcp⟩:∃x,s.c p=x:=⟨_,rfl⟩
            rw[hcj] at hT hcc
            rw[hcp] at hT2 hcc
            clear hcj hcp
            have aeT:decide (cj<cp)=false:=by simpa using hcc
            clear hcc
            go_wp2_with fail
            go_quiet (fail)
            go_wp2_with fail
            go_roundw
            case rel=>exact⟨j+1,by omega,by go_num,⟨HG.out.drewN nq⟩,⟨HM.out.drewN nq⟩,⟨by rw[RX.out];exact BN.out⟩⟩
            case measure=>simp[intOf];omega
         .rw[hst] at hb
          have RX:=aa.mk (Kh (c:=s.c) hst)
          clear hst
          go_wp2_with fail
          go_quiet (fail)
          go_wp2_with fail
          go_roundw
          case rel=>exact⟨j+1,by omega,by go_num,⟨HG.out.drewN nq⟩,⟨HM.out.drewN nq⟩,⟨by rw[RX.out];exact BN.out⟩⟩
          case measure=>simp[intOf];omega
        .obtain rfl:j=Wk.length:=by omega
         obtain⟨p,hp,hp2,hp3⟩:=zL R Wk.length k i hil
         rw[HS.out] at hp hp3
         rw[hp] at BN
         have RX:=aa.mk hp
         have HP3:=aa.mk hp3
         clear hp hp3
         have hp8:(p:Int)<8:=by omega
         have hn:=BN.out.cell 0
         simp only[List.getElem?_cons_zero] at hn
         have hb:=HG.out.set.at_ (i:=p) (by omega)
         have hbf:=HG.out.set.frozen p
         have hgl:=HG.out.aw.m.lt
         have l3:=HG.out.aw.l3
         have l4:=HG.out.l4
         have l1:=HG.out.aw.l1
         have l2:=HG.out.aw.l2
         have hz0:=HG.out.m0
         have hz1:=HG.out.m1
         go_wp2_with fail
         have YA:=BN.out.lt
         have HG1:=aa.mk (HG.out.adP (i:=p) (by omega) true)
         have Iz:=aa.mk (HM.out.setCell ⟨w0.heap.size+1,p,none⟩ (.bool true))
         have BN1:=aa.mk (BN.out.move (w':=wr.setCell ⟨w0.heap.size+1,p,none⟩ (.bool true)) (Below.heap_setCell _ _ _ _ (by simp only;omega)))
         have NP:=BN1.out.lt
         clear HG HM BN hb hbf hn hz0 hz1 hgl YA
         generalize wr.setCell ⟨w0.heap.size+1,p,none⟩ (.bool true)=ws at HG1 Iz BN1 NP ⊢
         refine(callsIn_wide.1 (GJ Fence.wide 8 trivial rfl A0 Wk.length c0 A1 c1 R.length p ws)).mono ?_
         rintro e w4 ⟨rfl,rfl⟩
         have HG2:=aa.mk ((HG1.out.alloc (.cells #[.slice A0 Wk.length c0,.slice A1 R.length c1] 155)).alloc (.cells #[.int .i64 p] 3))
         have FM:=aa.mk ((Iz.out.alloc (.cells #[.slice A0 Wk.length c0,.slice A1 R.length c1] 155)).alloc (.cells #[.int .i64 p] 3))
         have BN2:=aa.mk ((BN1.out.alloc (.cells #[.slice A0 Wk.length c0,.slice A1 R.length c1] 155)).alloc (.cells #[.int .i64 p] 3))
         have FX:=aa.mk ((aV.new ws [.slice A0 Wk.length c0,.slice A1 R.length c1] 155).alloc (.cells #[.int .i64 p] 3))
         have FH:=aa.mk (aV.new (ws.alloc (.cells #[.slice A0 Wk.length c0,.slice A1 R.length c1] 155)) [.int .i64 p] 3)
         simp only[World.size_alloc] at FH
         have hsz:((ws.alloc (.cells #[.slice A0 Wk.length c0,.slice A1 R.length c1] 155)).alloc (.cells #[.int .i64 p] 3)).heap.size=ws.heap.size+1+1:=by simp
         clear HG1 Iz BN1
         generalize(ws.alloc (.cells #[.slice A0 Wk.length c0,.slice A1 R.length c1] 155)).alloc (.cells #[.int .i64 p] 3)=w4 at HG2 FM BN2 FX FH hsz ⊢
         obtain⟨gx,hgx⟩:∃gx,ws.heap.size=gx:=⟨_,rfl⟩
         rw[hgx] at FX FH hsz NP ⊢
         clear hgx
         go_wp2_with fail
         have hlo:=HG2.out.aw.lo
         have hwb:=HG2.out.aw.below
         have hmap:=H.out.below hwb
         refine(wpIn_wide (n:=9)).1 ?_
         refine zf (α:={x // Ip Wk.length x}) (gf:=271) (lb:=#[.pointer (some ⟨gx,0,none⟩),.pointer (some ⟨gx+1,0,none⟩)]) rfl (by decide) rfl trivial (enters Tryz.func271 (by kernel_rfl) rfl)
          (GI Fence.wide 8 trivial rfl (by decide) gx (gx+1) w4.heap.size (λb=>b=w.heap.size+1+1) A0 Wk.length c0 A1 c1 R p H.out.br (Ip Wk.length) (Qy Xq.out) w4 (Nat.le_refl _) ?reads)
          (λh k=>h.trans k) (CO (Nat.le_refl _)) (λ_=>rfl) (λt x=>(t.setIfInBounds 96 (.int .i64 x.1.1)).setIfInBounds 97 (.int .i64 x.1.2)) (λt x=>(((t.setIfInBounds 96 (.int .i64 x.1.1)).setIfInBounds 97 (.int .i64 x.1.2)).setIfInBounds 9 (.int .i64 x.1.1)).setIfInBounds 10 (.int .i64 x.1.2)) (λt x=>Qa t 96 97 (.int .i64 x.1.1) (.int .i64 x.1.2))
          (λpre W=>aa (GW w W (w.heap.size) (w.heap.size+1) (w.heap.size+1+1) (w.heap.size+1+1+1) (.slice A0 Wk.length c0) (.slice A1 R.length c1) (dV (TT R Wk.length k) k (after p s.c s.f pre).1) (dV (FF R Wk.length k) k (after p s.c s.f pre).2) w0.heap.size (w0.heap.size+1) k (upd s.st p true))/\aa (aV W gn [.int .i64 p] 3)/\aa (gQ w4 W)) ?own ⟨⟨HG2.out⟩,⟨BN2.out⟩,⟨gQ.refl _⟩⟩ ?assign ?body ?done
         case reads=>exact⟨FX.out,by simpa using FH.out.cell 0,hmap.roads,⟨by omega,by omega⟩,⟨by omega,by omega⟩,λh0 ad e=>⟨by have:=D9 H.out h0 ad e;omega,by have:=D9 H.out h0 ad e;omega⟩⟩
         case own=>
          rintro xs W W' row ⟨i1,i2,i3⟩ hg hr
          have hr':=λr e=>(hr r e).1
          exact⟨⟨i1.out.kept (by omega) hg hr'⟩,⟨i2.out.kept (by omega) hg hr'⟩,⟨i3.out.kept (Nat.le_refl _) hg hr'⟩⟩
         case assign=>
          intro l x W K hK
          simp only[sb0,sb1,bR] at hK ⊢
          gi_wp2_with fail
          exact hK
         case body=>
          rintro l pre ⟨⟨x1,x2⟩,hx⟩ W ⟨HG,BN,MK⟩ _
          simp only[sb0,sb1,bR]
          obtain⟨x10,x1N,x21,x2N⟩:=hx
          dsimp only at x10 x1N x21 x2N
          obtain⟨n,rfl⟩:∃n:Nat,x1=n:=⟨x1.toNat,by omega⟩
          have hB:=Bp (f:=s.f) p (HS.out▸tX Xq.out k i:Bounded s.c) pre
          have HAF:=aa.mk (Ic p s.c s.f pre ⟨((n:Int),x2),x10,x1N,x21,x2N⟩)
          generalize after p s.c s.f pre=cf at HG HAF hB
          have hBp:=hB p
          have hBn:=hB n
          clear hB
          obtain⟨cp,hcp⟩:∃cp,cf.1 p=cp:=⟨_,rfl⟩
          obtain⟨cn,hcn⟩:∃cn,cf.1 n=cn:=⟨_,rfl⟩
          rw[hcp] at hBp
          rw[hcn] at hBn
          have hTp:=HG.out.aw.jO.time (i:=p) (j:=k) (by omega) (by omega)
          rw[qd,hcp] at hTp
          have SV:=HG.out.aw.jO.time (i:=n) (j:=k) (by omega) (by omega)
          rw[qd,hcn] at SV
          have HCP:=aa.mk hcp
          have HCN:=aa.mk hcn
          clear hcp hcn
          have hsum:wrap64 (cp+x2)=cp+x2:=IntWalk.wrap64_in _ (by omega)
          have hn:W.cell? ⟨gn,0,none⟩=some (.int .i64 (p:Int)):=by simpa using BN.out.cell 0
          have hk8:(k:Int)<8:=by omega
          have FV:(n:Int)<8:=by omega
          gi_wp2_with fail
          refine mE (by rintro⟨_,_,h⟩;exact h) (by kernel_rfl) (n:=11) (S:=λw'=>w'.cell? ⟨w.heap.size+1+1+1,0,none⟩=some (.pointer (some ⟨w.heap.size+1+1,0,none⟩))/\w'.cell? ⟨w0.heap.size,0,none⟩=some (.int .i64 (k:Int))/\w'.cell? ⟨gn,0,none⟩=some (.int .i64 (p:Int))/\w'.cell? ⟨w.heap.size+1+1,2+p*8+k,none⟩=some (.int .i64 cp)) (ds:=[]) #[O,O,O,O,O,O,O,O,O,O,O] (by kernel_rfl) rfl rfl ⟨HG.out.uY,HG.out.vO,hn,hTp⟩ (λhHeld=>?_);refine bG fC.XO fC.Wi (λau cz=>?_)
          refine fJ 0 98 #[I,O,O,O,O,O,O,O,O,O,O] au cz hHeld (hy:=by(rintro w' ⟨s0,s1,s2,s3⟩;go_simp;with_reducible rfl)) (h:=?_)
          refine fJ 1 99 #[I,I,O,O,O,O,O,O,O,O,O] au cz hHeld (hy:=by(rintro w' ⟨s0,s1,s2,s3⟩;go_simp;with_reducible rfl)) (h:=?_)
          refine fJ 2 100 #[I,I,I,O,O,O,O,O,O,O,O] au cz hHeld (hy:=by(rintro w' ⟨s0,s1,s2,s3⟩;go_simp;with_reducible rfl)) (h:=?_)
          refine bq 3 101 #[I,I,I,I,O,O,O,O,O,O,O] au (h:=?_)
          refine bq 4 102 #[I,I,I,I,I,O,O,O,O,O,O] au (h:=?_)
          refine bq 5 103 #[I,I,I,I,I,I,O,O,O,O,O] au (h:=?_)
          refine bq 6 104 #[I,I,I,I,I,I,I,O,O,O,O] au (h:=?_)
          refine fJ 7 105 #[I,I,I,I,I,I,I,I,O,O,O] au cz hHeld (hy:=by(rintro w' ⟨s0,s1,s2,s3⟩;go_simp;with_reducible rfl)) (h:=?_)
          refine bq 8 106 #[I,I,I,I,I,I,I,I,I,O,O] au (h:=?_)
          refine bq 9 107 #[I,I,I,I,I,I,I,I,I,I,O] au (h:=?_)
          refine bq 10 11 #[I,I,I,I,I,I,I,I,I,I,I] au (h:=?_)
          refine fM (bP au.out (by kernel_rfl)) ?_
          by_cases hless:cp+x2<cn
          .have U5:decide (cp+x2<cn)=true:=by simpa using hless
           gi_wp2_with fail
           refine mE (by rintro⟨_,_,h⟩;exact h) (by kernel_rfl) (n:=10) (S:=λw'=>w'.cell? ⟨w.heap.size+1+1+1,0,none⟩=some (.pointer (some ⟨w.heap.size+1+1,0,none⟩))/\w'.cell? ⟨w0.heap.size,0,none⟩=some (.int .i64 (k:Int))/\w'.cell? ⟨w.heap.size+1+1,2+n*8+k,none⟩=some (.int .i64 cn)) (ds:=[]) #[O,O,O,O,O,O,O,O,O,O] (by kernel_rfl) rfl rfl ⟨HG.out.uY,HG.out.vO,SV⟩ (λhHeld=>?_);refine bG fC.Su fC.OP (λau cz=>?_)
           refine bq 0 108 #[I,O,O,O,O,O,O,O,O,O] au (h:=?_)
           refine fJ 1 109 #[I,I,O,O,O,O,O,O,O,O] au cz hHeld (hy:=by(rintro w' ⟨s0,s1,s2⟩;go_simp;with_reducible rfl)) (h:=?_)
           refine bq 2 110 #[I,I,I,O,O,O,O,O,O,O] au (h:=?_)
           refine fJ 3 111 #[I,I,I,I,O,O,O,O,O,O] au cz hHeld (hy:=by(rintro w' ⟨s0,s1,s2⟩;go_simp;with_reducible rfl)) (h:=?_)
           refine bq 4 112 #[I,I,I,I,I,O,O,O,O,O] au (h:=?_)
           refine bq 5 113 #[I,I,I,I,I,I,O,O,O,O] au (h:=?_)
           refine bq 6 114 #[I,I,I,I,I,I,I,O,O,O] au (h:=?_)
           refine bq 7 115 #[I,I,I,I,I,I,I,I,O,O] au (h:=?_)
           refine fJ 8 116 #[I,I,I,I,I,I,I,I,I,O] au cz hHeld (hy:=by(rintro w' ⟨s0,s1,s2⟩;go_simp;with_reducible rfl)) (h:=?_)
           refine bq 9 117 #[I,I,I,I,I,I,I,I,I,I] au (h:=?_)
           refine fM (bP au.out (by kernel_rfl)) ?_
           gi_wp2_with fail
           refine mE (by rintro⟨_,_,h⟩;exact h) (by kernel_rfl) (n:=18) (S:=λw'=>w'.cell? ⟨w.heap.size+1+1+1,0,none⟩=some (.pointer (some ⟨w.heap.size+1+1,0,none⟩))/\w'.cell? ⟨w0.heap.size,0,none⟩=some (.int .i64 (k:Int))/\w'.cell? ⟨gn,0,none⟩=some (.int .i64 (p:Int))) (ds:=[17]) #[O,O,O,O,O,O,O,O,O,O,O,O,O,O,O,O,O,O] (by kernel_rfl) rfl rfl ⟨HG.out.uY,HG.out.vO,hn⟩ (λhHeld=>?_);refine bG fC.XN fC.Wh (λau cz=>?_)
           have IC:=aa.mk HG.out.drew.drew.drew
           have BNd:=aa.mk (show aV W.drew.drew.drew gn [.int .i64 (p:Int)] 3 from BN.out)
           have MKd:=aa.mk (show gQ w4 W.drew.drew.drew from MK.out)
           have KOd:=aa.mk (show KeepsOthers W W.drew.drew.drew from⟨Nat.le_refl _,λ_ _ h _=>h⟩)
           have KPd:=aa.mk (aY.refl w4.heap.size (λb=>b=w.heap.size+1+1) W).drew.drew.drew
           clear HG BN MK hTp SV
           generalize W.drew.drew.drew=wd at IC BNd MKd KOd KPd hHeld ⊢
           refine fJ 0 118 #[I,O,O,O,O,O,O,O,O,O,O,O,O,O,O,O,O,O] au cz hHeld (hy:=by(rintro w' ⟨s0,s1,s2⟩;go_simp;with_reducible rfl)) (h:=?_)
           refine bq 1 119 #[I,I,O,O,O,O,O,O,O,O,O,O,O,O,O,O,O,O] au (h:=?_)
           refine fJ 2 120 #[I,I,I,O,O,O,O,O,O,O,O,O,O,O,O,O,O,O] au cz hHeld (hy:=by(rintro w' ⟨s0,s1,s2⟩;go_simp;with_reducible rfl)) (h:=?_)
           refine fJ 3 121 #[I,I,I,I,O,O,O,O,O,O,O,O,O,O,O,O,O,O] au cz hHeld (hy:=by(rintro w' ⟨s0,s1,s2⟩;go_simp;with_reducible rfl)) (h:=?_)
           refine bq 4 122 #[I,I,I,I,I,O,O,O,O,O,O,O,O,O,O,O,O,O] au (h:=?_)
           refine fJ 5 123 #[I,I,I,I,I,I,O,O,O,O,O,O,O,O,O,O,O,O] au cz hHeld (hy:=by(rintro w' ⟨s0,s1,s2⟩;go_simp;with_reducible rfl)) (h:=?_)
           refine bq 6 124 #[I,I,I,I,I,I,I,O,O,O,O,O,O,O,O,O,O,O] au (h:=?_)
           refine fJ 7 125 #[I,I,I,I,I,I,I,I,O,O,O,O,O,O,O,O,O,O] au cz hHeld (hy:=by(rintro w' ⟨s0,s1,s2⟩;go_simp;with_reducible rfl)) (h:=?_)
           refine bq 8 126 #[I,I,I,I,I,I,I,I,I,O,O,O,O,O,O,O,O,O] au (h:=?_)
           refine bq 9 127 #[I,I,I,I,I,I,I,I,I,I,O,O,O,O,O,O,O,O] au (h:=?_)
           refine bq 10 128 #[I,I,I,I,I,I,I,I,I,I,I,O,O,O,O,O,O,O] au (h:=?_)
           refine bq 11 129 #[I,I,I,I,I,I,I,I,I,I,I,I,O,O,O,O,O,O] au (h:=?_)
           refine bq 13 130 #[I,I,I,I,I,I,I,I,I,I,I,I,O,I,O,O,O,O] au (h:=?_)
           refine bq 14 131 #[I,I,I,I,I,I,I,I,I,I,I,I,O,I,I,O,O,O] au (h:=?_)
           refine bq 15 132 #[I,I,I,I,I,I,I,I,I,I,I,I,O,I,I,I,O,O] au (h:=?_)
           refine gB (i:=12) (N:=none) #[I,I,I,I,I,I,I,I,I,I,I,I,I,I,I,I,O,O] rfl rfl (aM au.out (by kernel_rfl)) (by decide) (λK hK=>?_)
           have iD:=IC.out.aw.jO.time (i:=n) (j:=k) (by omega) (by omega)
           have lG:=IC.out.aw.jO.frozen (2+n*8+k)
           refine kg (w1:=?_) (by rfl) rfl ?_ ?_
           rotate_left
           .go_simp
            rfl
           refine hK.out _ _ ⟨(IC.out.y5 (i:=n) (j:=k) (by omega) (by omega) (cp+x2)).uY,(IC.out.y5 (i:=n) (j:=k) (by omega) (by omega) (cp+x2)).vO,by simpa using (BNd.out.move (w':=wd.setCell ⟨w.heap.size+1+1,2+n*8+k,none⟩ (.int .i64 (cp+x2))) (Below.heap_setCell _ _ _ _ (by simp only;omega))).cell 0⟩ (λhHeld=>?_)
           clear hK K iD lG
           have Pp:=aa.mk (IC.out.y5 (i:=n) (j:=k) (by omega) (by omega) (cp+x2))
           have BNe:=aa.mk (BNd.out.move (w':=wd.setCell ⟨w.heap.size+1+1,2+n*8+k,none⟩ (.int .i64 (cp+x2))) (Below.heap_setCell _ _ _ _ (by simp only;omega)))
           have MKe:=aa.mk (MKd.out.setCell ⟨w.heap.size+1+1,2+n*8+k,none⟩ (.int .i64 (cp+x2)))
           have KOe:=aa.mk (KOd.out.trans (KeepsOthers.setCell wd ⟨w.heap.size+1+1,2+n*8+k,none⟩ (.int .i64 (cp+x2))))
           have KPe:=aa.mk (KPd.out.setCell (p:=⟨w.heap.size+1+1,2+n*8+k,none⟩) (.inl rfl) (.int .i64 (cp+x2)))
           clear IC BNd MKd KOd KPd
           generalize wd.setCell ⟨w.heap.size+1+1,2+n*8+k,none⟩ (.int .i64 (cp+x2))=we at Pp BNe MKe KOe KPe hHeld ⊢
           refine bq 16 133 #[I,I,I,I,I,I,I,I,I,I,I,I,I,I,I,I,I,O] au (h:=?_)
           refine fB (i:=17) (N:=none) #[I,I,I,I,I,I,I,I,I,I,I,I,I,I,I,I,I,I] rfl rfl (aM au.out (by kernel_rfl)) (by decide) (λK hK=>?_)
           have iD:=Pp.out.aw.jO.first (i:=n) (j:=k) (by omega) (by omega)
           have lG:=Pp.out.aw.jO.frozen (66+n*8+k)
           refine kg (w1:=?_) (by rfl) rfl ?_ ?_
           rotate_left
           .go_simp
            rfl
           refine hK.out _ _ ?_
           clear hK K iD lG
           have R5:=aa.mk (Pp.out.J3 (i:=n) (j:=k) (by omega) (by omega) (p:Int))
           have BNf:=aa.mk (BNe.out.move (w':=we.setCell ⟨w.heap.size+1+1,66+n*8+k,none⟩ (.int .i64 (p:Int))) (Below.heap_setCell _ _ _ _ (by simp only;omega)))
           have MKf:=aa.mk (MKe.out.setCell ⟨w.heap.size+1+1,66+n*8+k,none⟩ (.int .i64 (p:Int)))
           have KOf:=aa.mk (KOe.out.trans (KeepsOthers.setCell we ⟨w.heap.size+1+1,66+n*8+k,none⟩ (.int .i64 (p:Int))))
           have KPf:=aa.mk (KPe.out.setCell (p:=⟨w.heap.size+1+1,66+n*8+k,none⟩) (.inl rfl) (.int .i64 (p:Int)))
           clear Pp BNe MKe KOe KPe
           clear hHeld
           generalize we.setCell ⟨w.heap.size+1+1,66+n*8+k,none⟩ (.int .i64 (p:Int))=wf at R5 BNf MKf KOf KPf ⊢
           refine fM (bP au.out (by kernel_rfl)) ?_
           refine⟨KOf.out,KPf.out,⟨?_⟩,BNf,MKf⟩
           rw[HAF.out,Gj (by rw[HCP.out,HCN.out];exact hless),HCP.out]
           simp only
           rw[<- lW,<- lW]
           exact R5.out
          .have U5:decide (cp+x2<cn)=false:=by simpa using hless
           gi_wp2_with fail
           refine mE (by rintro⟨_,_,h⟩;exact h) (by kernel_rfl) (n:=10) (S:=λw'=>w'.cell? ⟨w.heap.size+1+1+1,0,none⟩=some (.pointer (some ⟨w.heap.size+1+1,0,none⟩))/\w'.cell? ⟨w0.heap.size,0,none⟩=some (.int .i64 (k:Int))/\w'.cell? ⟨w.heap.size+1+1,2+n*8+k,none⟩=some (.int .i64 cn)) (ds:=[]) #[O,O,O,O,O,O,O,O,O,O] (by kernel_rfl) rfl rfl ⟨HG.out.uY,HG.out.vO,SV⟩ (λhHeld=>?_);refine bG fC.Su fC.OP (λau cz=>?_)
           refine bq 0 108 #[I,O,O,O,O,O,O,O,O,O] au (h:=?_)
           refine fJ 1 109 #[I,I,O,O,O,O,O,O,O,O] au cz hHeld (hy:=by(rintro w' ⟨s0,s1,s2⟩;go_simp;with_reducible rfl)) (h:=?_)
           refine bq 2 110 #[I,I,I,O,O,O,O,O,O,O] au (h:=?_)
           refine fJ 3 111 #[I,I,I,I,O,O,O,O,O,O] au cz hHeld (hy:=by(rintro w' ⟨s0,s1,s2⟩;go_simp;with_reducible rfl)) (h:=?_)
           refine bq 4 112 #[I,I,I,I,I,O,O,O,O,O] au (h:=?_)
           refine bq 5 113 #[I,I,I,I,I,I,O,O,O,O] au (h:=?_)
           refine bq 6 114 #[I,I,I,I,I,I,I,O,O,O] au (h:=?_)
           refine bq 7 115 #[I,I,I,I,I,I,I,I,O,O] au (h:=?_)
           refine fJ 8 116 #[I,I,I,I,I,I,I,I,I,O] au cz hHeld (hy:=by(rintro w' ⟨s0,s1,s2⟩;go_simp;with_reducible rfl)) (h:=?_)
           refine bq 9 117 #[I,I,I,I,I,I,I,I,I,I] au (h:=?_)
           refine fM (bP au.out (by kernel_rfl)) ?_
           gi_wp2_with fail
           refine⟨⟨Nat.le_refl _,λ_ _ h _=>h⟩,(aY.refl w4.heap.size (λb=>b=w.heap.size+1+1) W).drew.drew,⟨?_⟩,BN,MK⟩
           rw[HAF.out,J9 (by rw[HCP.out,HCN.out];omega)]
           exact HG.out.drew.drew
         case done=>
          rintro D ys W hD hys ⟨HG,BN,MK⟩ yh
          have HC:gW R Wk.length k (i+1)=⟨upd s.st p true,(after p s.c s.f ys).1,(after p s.c s.f ys).2⟩:=by
           simp only[gW]
           rw[HS.out]
           unfold vV
           rw[RX.out,Int.toNat_natCast]
           have ad6:ys.map (·.1)=qR R (p:Int):=hys
           simp only[after,ad6]
          have HC':=aa.mk HC
          clear HC
          have WH:=aa.mk (Marks.cons FM.out MK.out hD (by omega) yh)
          dsimp only
          have hb48:(Wk.length:Int)<=8:=by omega
          go_wp2_with fail
          refine⟨⟨_,i+1,by omega,⟨by rw[HC'.out];exact HG.out⟩,⟨WH.out⟩,rfl⟩,?_⟩
          show Wk.length-(intOf (.int .i64 ((i:Int)+1))).toNat<Wk.length-(intOf (.int .i64 (i:Int))).toNat
          simp[intOf]
          omega
      .obtain rfl:i=Wk.length:=by omega
       go_wp2_with fail
       refine⟨⟨ds2,k+1,by omega,⟨by rw[<- RN,<- Sb];exact HG.out.aw⟩,HM,rfl⟩,?_⟩
       show Wk.length-(intOf (.int .i64 ((k:Int)+1))).toNat<Wk.length-(intOf (.int .i64 (k:Int))).toNat
       simp[intOf]
       omega
  .obtain rfl:k=Wk.length:=by omega
   have hv:=HA.out.v.cell 0
   simp only[List.getElem?_cons_zero] at hv
   go_wp2_with fail
   refine Marks.leaves (lo:=w.heap.size) (Inv:=λW=>AW w W (w.heap.size) (w.heap.size+1) (w.heap.size+1+1) (w.heap.size+1+1+1) (.slice A0 Wk.length c0) (.slice A1 R.length c1) (TT R Wk.length Wk.length) (FF R Wk.length Wk.length)) (λW D hlo hD hi=>hi.put hlo hD _) (λW hi=>?_) ds w0 HM.out HA.out
   have h0:=hi.lo;have h1:=hi.l1;have h2:=hi.l2
   exact⟨_,results_tmp rfl _ _ _,_,_,rfl,hi.jO,hi.hm,by omega,by omega,hi.below⟩
end Go.Proofs.YtdekaocdmjndaaaGreat.Wk
