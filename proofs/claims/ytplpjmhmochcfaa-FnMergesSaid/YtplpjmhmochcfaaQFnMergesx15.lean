/- Written by a program of this session (the kit's printer, with leaf contracts proved by hand put in): what each Go function computes, and that the call computes it. No condition but those that each theorem names. -/
import Derived.Test.YtplpjmhmochcfaaQFnMergesx0
import Derived.Test.YtplpjmhmochcfaaQFnMergesx4
import Derived.Test.YtplpjmhmochcfaaQFnMergesx7
import Derived.Test.YtplpjmhmochcfaaQFnMergesx14
namespace Go.Proofs.Ytplpjmhmochcfaa.QFnMerges
open Go.RowKit Go.Proofs.YtplpjmhmochcfaaW.PrintWords Go.Proofs.YtplpjmhmochcfaaW.PrintLast Go.Proofs.YtplpjmhmochcfaaW.PrintMore
attribute [local go_sem] max2_int min2_int max_two min_two max_three min_three max_four min_four   -- for this text's walks alone
set_option linter.unusedVariables false
set_option linter.unusedSimpArgs false

/-! ### spec_ClashingHoles: function 41 -/
mutual
def spec_ClashingHoles.l0:Nat→List (S42)→List (S42)→List (List (S42))→List (S42)→Int→Int→Option ((List (List (S42)))×Bool)
 | 0,_,_,_,_,_,_=>none
 | k+1,x0,x2,x8,x20,x21,x22=>if x22<x21 then(if 0≤x22 then(if x22<(x20.length:Int) then((spec_mgLess.f k x2 x0).bind fun t552=>(spec_ClashingHoles.l1 k x0 x2 x8 x20 x21 x22 t552 (t552.length:Int) 0 ((rd_T42 x20 x22).f0) ((rd_T42 x20 x22).f1) ((rd_T42 x20 x22).f2))) else(none)) else(none)) else(some (x8,true))
def spec_ClashingHoles.l1:Nat→List (S42)→List (S42)→List (List (S42))→List (S42)→Int→Int→List (S42)→Int→Int→Int→Int→Int→Option ((List (List (S42)))×Bool)
 | 0,_,_,_,_,_,_,_,_,_,_,_,_=>none
 | k+1,x0,x2,x8,x20,x21,x22,x28,x29,x30,x552000,x552001,x552002=>if x30<x29 then(if 0≤x30 then(if x30<(x28.length:Int) then((spec_mgClash.f x552000 x552001 x552002 ((rd_T42 x28 x30).f0) ((rd_T42 x28 x30).f1) ((rd_T42 x28 x30).f2)).bind fun t557=>(if t557=true then(if x8.length<5864062014805 then(spec_ClashingHoles.l1 k x0 x2 (x8 ++ [(([(⟨x552000,x552001,x552002⟩:S42),(⟨(rd_T42 x28 x30).f0,(rd_T42 x28 x30).f1,(rd_T42 x28 x30).f2⟩:S42)]:List (S42)))]) x20 x21 x22 x28 x29 (wrap64 (x30+1)) x552000 x552001 x552002) else(none)) else(spec_ClashingHoles.l1 k x0 x2 x8 x20 x21 x22 x28 x29 (wrap64 (x30+1)) x552000 x552001 x552002))) else(none)) else(none)) else(spec_ClashingHoles.l0 k x0 x2 x8 x20 x21 (wrap64 (x22+1)))
end
def spec_ClashingHoles.f (k:Nat) (l0:List (S42)) (l1:List (S42)) (l2:List (S42)):Option ((List (List (S42)))×Bool):=(spec_mgThree.f k l0 l1 l2).bind fun t546=>(if t546=true then((spec_mgLess.f k l1 l0).bind fun t547=>(spec_ClashingHoles.l0 k l0 l2 ([]:List (List (S42))) t547 (t547.length:Int) 0)) else(some (([]:List (List (S42))),false)))
theorem spec_ClashingHoles.mono_l:∀k,(∀y0 y1 y2 y3 y4 y5,LeO (spec_ClashingHoles.l0 k y0 y1 y2 y3 y4 y5) (spec_ClashingHoles.l0 (k+1) y0 y1 y2 y3 y4 y5))∧(∀y0 y1 y2 y3 y4 y5 y6 y7 y8 y9 y10 y11,LeO (spec_ClashingHoles.l1 k y0 y1 y2 y3 y4 y5 y6 y7 y8 y9 y10 y11) (spec_ClashingHoles.l1 (k+1) y0 y1 y2 y3 y4 y5 y6 y7 y8 y9 y10 y11))
 | 0=>⟨fun _ _ _ _ _ _ r h=>by simp[spec_ClashingHoles.l0]at h,fun _ _ _ _ _ _ _ _ _ _ _ _ r h=>by simp[spec_ClashingHoles.l1]at h⟩
 | k+1=>by
  obtain⟨ih0,ih1⟩:=spec_ClashingHoles.mono_l k
  refine⟨?_,?_⟩
  intros
  unfold spec_ClashingHoles.l0
  rotate_left
  intros
  unfold spec_ClashingHoles.l1
  rotate_left
  all_goals repeat' first|(with_reducible first|exact ih0 _ _ _ _ _ _|exact ih1 _ _ _ _ _ _ _ _ _ _ _ _|exact spec_mgLess.mono _ _ _|exact spec_mgThree.mono _ _ _ _|exact LeO.refl _|exact LeO.none _|refine LeO.ite ?_ ?_|refine LeO.bind ?_ (fun _=>?_))|exact ih0 _ _ _ _ _ _|exact ih1 _ _ _ _ _ _ _ _ _ _ _ _|exact spec_mgLess.mono _ _ _|exact spec_mgThree.mono _ _ _ _|exact LeO.none _|refine LeO.ite ?_ ?_|refine LeO.bind ?_ (fun _=>?_)
theorem spec_ClashingHoles.mono:∀a0 a1 a2 k,LeO (spec_ClashingHoles.f k a0 a1 a2) (spec_ClashingHoles.f (k+1) a0 a1 a2):=by
 intro a0 a1 a2 k
 obtain⟨ih0,ih1⟩:=spec_ClashingHoles.mono_l k
 unfold spec_ClashingHoles.f
 repeat' first
  |(with_reducible exact ih0 _ _ _ _ _ _)
  |(with_reducible exact ih1 _ _ _ _ _ _ _ _ _ _ _ _)
  |(with_reducible exact spec_mgLess.mono _ _ _)
  |(with_reducible exact spec_mgThree.mono _ _ _ _)
  |(with_reducible exact LeO.refl _)
  |(with_reducible exact LeO.none _)
  |(with_reducible refine LeO.ite ?_ ?_)
  |(with_reducible refine LeO.bind ?_ (fun _=>?_))
  |exact ih0 _ _ _ _ _ _
  |exact ih1 _ _ _ _ _ _ _ _ _ _ _ _
  |exact spec_mgLess.mono _ _ _
  |exact spec_mgThree.mono _ _ _ _
  |exact LeO.none _
   | refine LeO.ite ?_ ?_
   | refine LeO.bind ?_ (fun _=>?_)
set_option maxHeartbeats 8000000 in
set_option maxRecDepth 100000 in
theorem spec_ClashingHoles.calls (k:Nat) (A0:Option Addr) (c0:Nat) (l0:List (S42)) (A1:Option Addr) (c1:Nat) (l1:List (S42)) (A2:Option Addr) (c2:Nat) (l2:List (S42)) (r1:List (List (S42))) (r2:Bool) (w:World) (hr0:Kd.C k42 w A0 l0.length l0) (hc0:l0.length≤c0) (hr1:Kd.C k42 w A1 l1.length l1) (hc1:l1.length≤c1) (hr2:Kd.C k42 w A2 l2.length l2) (hc2:l2.length≤c2) (h:spec_ClashingHoles.f k l0 l1 l2=some (r1,r2)) :
 Calls Try.prog 41 #[.slice A0 l0.length c0, .slice A1 l1.length c1, .slice A2 l2.length c2] w fun e w'=>∃v0_:Value,e = .returned (.tuple #[v0_, .bool r2])∧Kd.S (Kd.slice 42 k42) 32 w' w.heap.size (fun _=>True) v0_ r1∧Below w.heap.size w w':=by
 have hu42:=Try.underlying42
 have HR0:=am_ hr0
 have HC0:=am_ hc0
 clear hr0 hc0
 have HR1:=am_ hr1
 have HC1:=am_ hc1
 clear hr1 hc1
 have HR2:=am_ hr2
 have HC2:=am_ hc2
 clear hr2 hc2
 have HB:=am_ (Below.refl w.heap.size w)
 have H:((spec_mgThree.f k l0 l1 l2).bind fun t546=>(if t546=true then((spec_mgLess.f k l1 l0).bind fun t547=>(spec_ClashingHoles.l0 k l0 l2 ([]:List (List (S42))) t547 (t547.length:Int) 0)) else(some (([]:List (List (S42))),false))))=some (r1,r2):=h
 clear h
 obtain⟨t546,A4,H⟩:=bo_ H
 try dsimp only at H
 by_cases c5:t546=true
 ·subst c5
  replace H:((spec_mgLess.f k l1 l0).bind fun t547=>(spec_ClashingHoles.l0 k l0 l2 ([]:List (List (S42))) t547 (t547.length:Int) 0))=some (r1,r2):=by rw[if_pos rfl]at H;exact H
  obtain⟨t547,A6,H⟩:=bo_ H
  try dsimp only at H
  have H':=am_ H
  clear H
  go_enter Try.func41,Try.ntmps41
  go_wp2_with (first|((with_reducible refine gate_callee (f:=85) rfl ?_);refine goesL_ (some 16) rfl rfl Try.func85 (by kernel_rfl) rfl #[.slice A0 l0.length c0, .slice A1 l1.length c1, .slice A2 l2.length c2] rfl gd_ ?_;(with_reducible refine(spec_mgThree.calls k _ _ l0 _ _ l1 _ _ l2 true _ ?side1 ?side2 ?side3 ?side4 ?side5 ?side6 A4.out).mono ?_);(case side1=>exact(a16_ HR0.out));(case side2=>exact HC0.out);(case side3=>exact(a16_ HR1.out));(case side4=>exact HC1.out);(case side5=>exact(a16_ HR2.out));(case side6=>exact HC2.out);rintro e w7 ⟨rfl,hb⟩;refine⟨_,rfl,?_⟩;replace HB:=am_ (below_step (a1_) hb);(try clear hb);(try clear hb2);(try clear hk);(try clear hi))|((with_reducible refine gate_callee (f:=78) rfl ?_);refine goesL_ (some 20) rfl rfl Try.func78 (by kernel_rfl) rfl #[.slice A1 l1.length c1, .slice A0 l0.length c0] rfl gd_ ?_;(with_reducible refine(spec_mgLess.calls k _ _ l1 _ _ l0 t547 _ ?side1 ?side2 ?side3 ?side4 A6.out).mono ?_);(case side1=>exact(a8_ HR1.out));(case side2=>exact HC1.out);(case side3=>exact(a8_ HR0.out));(case side4=>exact HC0.out);rintro e w8 ⟨v548,rfl,ho0,hb⟩;refine⟨_,rfl,?_⟩;have HO549:=am_ (Kd.R_lower ho0 (below_size (a1_)));replace HB:=am_ (below_step (a1_) hb);(try clear hb);(try clear hb2);(try clear hk);(try clear hi);(try clear ho0);obtain⟨Ao9,co9,eo9⟩:=Kd.R_slice HO549.out;subst eo9))
  go_loopg [8,22] k (fun kq v8 v22 w'=>∃(x8_1:List (List (S42))) (x22_1:Int),v22 = .int .i64 x22_1∧Aside0 (spec_ClashingHoles.l0 kq l0 l2 x8_1 t547 (t547.length:Int) x22_1=some (r1,r2))∧Aside0 (kq≤k)∧Aside0 (Kd.S (Kd.slice 42 k42) 32 w' w.heap.size (fun k_=>some k_≠((.slice Ao9 t547.length co9):Value).ownBlock) v8 x8_1)∧Aside0 (Kd.R k42 42 w' w.heap.size (fun _=>True) (.slice Ao9 t547.length co9) t547)∧Aside0 (Below w.heap.size w w'))
  case atStart=>exact⟨(([]:List (List (S42)))),(0),(by first | rfl|(simp;done)|(simp[*];done)),H',⟨Nat.le_refl _⟩,⟨a66_⟩,⟨(a0_ HO549.out)⟩,⟨a1_⟩⟩
  case round=>
   clear H'
   try clear c1
   try clear c2
   try clear p2
   try clear c4
   try clear c5
   try clear c7
   try clear c8
   obtain⟨x8_1,x22_1,rfl,HA,HK1,HO_8,HO_20,HB⟩:=hrel
   cases gk with
   | zero=>exact absurd HA.out (by simp[spec_ClashingHoles.l0])
   | succ k1=>
    have H:=HA.out
    clear HA
    simp only[spec_ClashingHoles.l0]at H
    by_cases c10:x22_1<(t547.length:Int)
    ·rw[if_pos c10]at H
     have c10b0:decide (x22_1<(t547.length:Int))=true:=decide_eq_true c10
     clear c10
     by_cases c11:0≤x22_1
     ·rw[if_pos c11]at H
      have c11b0:decide (0≤x22_1)=true:=decide_eq_true c11
      clear c11
      by_cases c12:x22_1<(t547.length:Int)
      ·rw[if_pos c12]at H
       have c12b0:decide (x22_1<(t547.length:Int))=true:=decide_eq_true c12
       clear c12
       obtain⟨t552,A13,H⟩:=bo_ H
       try dsimp only at H
       have H':=am_ H
       clear H
       have p550:0≤(x22_1:Int):=of_decide_eq_true (a13_)
       have q550:x22_1<(t547.length:Int):=of_decide_eq_true (a13_)
       obtain⟨ad550,e550,hx550_0,hx550_1,hx550_2⟩:=at_T42 (Kd.R_reads' HO_20.out).2.2 x22_1 p550 q550
       cases e550
       replace p550:=eq_true p550
       replace q550:=eq_true q550
       go_wp2_with (first|((with_reducible refine gate_dst (N:=10) rfl ?_);refine box_event ?hg (N:=10) ?hd (cs:= #[.int .i64 0, .int .i64 0, .int .i64 0]) (t:=42) ?hr ?_;(case hd=>rfl);(case hg=>rfl);(case hr=>exact hr_);intro gb551 hg w14 hbox hb;replace HO_8:=am_ (Kd.S_below (Kd.S_elderB ((a24_ HO_8.out)) gb551 (Nat.le_of_eq hg.symm)) hb);replace HO_20:=am_ (Kd.R_below (Kd.R_elderB ((a0_ HO_20.out)) gb551 (Nat.le_of_eq hg.symm)) hb);have BK551:=am_ (hbox);have GW551:=am_ ((by rw[hg];exact(below_size (a1_)):w.heap.size≤gb551));have GE551:=am_ ((by rw[hg];exact(below_size (a1_)):w.heap.size≤gb551));replace HB:=am_ (below_step (a1_) hb);clear hb hbox hg;have hcz15_0:w14.cell? ⟨gb551,0,none⟩=some (.int .i64 0):=(blk_cell BK551.out 0).trans rfl;have hcz15_1:w14.cell? ⟨gb551,1,none⟩=some (.int .i64 0):=(blk_cell BK551.out 1).trans rfl;have hcz15_2:w14.cell? ⟨gb551,2,none⟩=some (.int .i64 0):=(blk_cell BK551.out 2).trans rfl;have hfz15_0:=blk_frozen BK551.out 0;have hfz15_1:=blk_frozen BK551.out 1;have hfz15_2:=blk_frozen BK551.out 2)|((with_reducible refine gate_callee (f:=78) rfl ?_);refine goesL_ (some 28) rfl rfl Try.func78 (by kernel_rfl) rfl #[.slice A2 l2.length c2, .slice A0 l0.length c0] rfl gd_ ?_;(with_reducible refine(spec_mgLess.calls k1 _ _ l2 _ _ l0 t552 _ ?side1 ?side2 ?side3 ?side4 A13.out).mono ?_);(case side1=>exact Kd.C_below HR2.out ((a2_ GE551.out)));(case side2=>exact HC2.out);(case side3=>exact Kd.C_below HR0.out ((a2_ GE551.out)));(case side4=>exact HC0.out);rintro e w16 ⟨v553,rfl,ho0,hb⟩;refine⟨_,rfl,?_⟩;replace HO_8:=am_ (Kd.S_elder' (by(with_reducible repeat (first|apply Kd.S_alloc|apply Kd.S_drewN|apply Kd.S_drew));exact(Kd.S_mono (Kd.S_far (p:=⟨gb551,2,none⟩) (Kd.S_far (p:=⟨gb551,1,none⟩) (Kd.S_far (p:=⟨gb551,0,none⟩) (Kd.S_mono HO_8.out (fun k_ hk=>(⟨hk,hk.2⟩:_∧k_≠gb551))) (fun _ hk=>hk.2) (.int .i64 ((rd_T42 t547 x22_1).f0))) (fun _ hk=>hk.2) (.int .i64 ((rd_T42 t547 x22_1).f1))) (fun _ hk=>hk.2) (.int .i64 ((rd_T42 t547 x22_1).f2))) (fun _ h_=>h_.1))) (Kd.R_base ho0) hb);have HO554:=am_ (Kd.R_lower (Kd.R_newB (Kd.R_new' ho0 (Kd.R_lt ((a49_ HO_20.out)))) (g:=gb551) (o:= .cells #[.int .i64 ((rd_T42 t547 x22_1).f0), .int .i64 ((rd_T42 t547 x22_1).f1), .int .i64 ((rd_T42 t547 x22_1).f2)] 42 (0,0)) ((a39_ BK551.out))) (below_size ((a2_ GE551.out))));replace HO_20:=am_ (Kd.R_elder' ((a49_ HO_20.out)) (Kd.R_base ho0) hb);replace BK551:=am_ (blk_below (g:=gb551) (o:= .cells #[.int .i64 ((rd_T42 t547 x22_1).f0), .int .i64 ((rd_T42 t547 x22_1).f1), .int .i64 ((rd_T42 t547 x22_1).f2)] 42 (0,0)) ((a39_ BK551.out)) hb);replace HB:=am_ (below_step ((a2_ GE551.out)) hb);(try clear hb);(try clear hb2);(try clear hk);(try clear hi);(try clear ho0);obtain⟨Ao17,co17,eo17⟩:=Kd.R_slice HO554.out;subst eo17))
       go_loopg [8,30] k1 (fun kq v8 v30 w'=>∃(x8_2:List (List (S42))) (x30_2:Int),v30 = .int .i64 x30_2∧Aside0 (spec_ClashingHoles.l1 kq l0 l2 x8_2 t547 (t547.length:Int) x22_1 t552 (t552.length:Int) x30_2 ((rd_T42 t547 x22_1).f0) ((rd_T42 t547 x22_1).f1) ((rd_T42 t547 x22_1).f2)=some (r1,r2))∧Aside0 (kq≤k1)∧Aside0 (Kd.S (Kd.slice 42 k42) 32 w' w.heap.size (fun k_=>some k_≠((.slice (some ad550) t547.length co9):Value).ownBlock∧some k_≠((.slice Ao17 t552.length co17):Value).ownBlock∧k_≠gb551) v8 x8_2)∧Aside0 (Kd.R k42 42 w' w.heap.size (fun k_=>some k_≠((.slice Ao17 t552.length co17):Value).ownBlock∧k_≠gb551) (.slice (some ad550) t547.length co9) t547)∧Aside0 (Kd.R k42 42 w' w.heap.size (fun k_=>some k_≠((.slice (some ad550) t547.length co9):Value).ownBlock∧k_≠gb551) (.slice Ao17 t552.length co17) t552)∧Aside0 (w'.heap[gb551]? = some (.cells #[.int .i64 ((rd_T42 t547 x22_1).f0), .int .i64 ((rd_T42 t547 x22_1).f1), .int .i64 ((rd_T42 t547 x22_1).f2)] 42 (0,0)))∧Aside0 (Below w.heap.size w w'))
       case atStart=>exact⟨(x8_1),(0),(by first | rfl|(simp;done)|(simp[*];done)),H',⟨Nat.le_refl _⟩,⟨by(with_reducible repeat (first|apply Kd.S_alloc|apply Kd.S_drewN|apply Kd.S_drew));exact Kd.S_mono HO_8.out (fun _ hk=>⟨hk.1.1,⟨hk.2,hk.1.2⟩⟩)⟩,⟨(a55_ HO_20.out)⟩,⟨(a34_ HO554.out)⟩,⟨(a3_ BK551.out)⟩,⟨(a2_ GE551.out)⟩⟩
       case round=>
        clear H'
        try clear c1
        try clear c2
        try clear p2
        try clear c4
        try clear c5
        try clear p5
        try clear q5
        try clear hx5
        try clear c7
        try clear c8
        try clear c10
        try clear c10b0
        try clear c11
        try clear c11b0
        try clear c12
        try clear c12b0
        try clear hcz15_0
        try clear hcz15_1
        try clear hcz15_2
        try clear hfz15_0
        try clear hfz15_1
        try clear hfz15_2
        try clear hx550_0
        try clear hx550_1
        try clear hx550_2
        try clear p2
        try clear p550
        try clear q550
        obtain⟨x8_2,x30_2,rfl,HA,HK2,HO_8,HO_20,HO_28,BK551,HB⟩:=hrel
        cases gk with
        | zero=>exact absurd HA.out (by simp[spec_ClashingHoles.l1])
        | succ k2=>
         have H:=HA.out
         clear HA
         simp only[spec_ClashingHoles.l1]at H
         by_cases c18:x30_2<(t552.length:Int)
         ·rw[if_pos c18]at H
          have c18b0:decide (x30_2<(t552.length:Int))=true:=decide_eq_true c18
          clear c18
          by_cases c19:0≤x30_2
          ·rw[if_pos c19]at H
           have c19b0:decide (0≤x30_2)=true:=decide_eq_true c19
           clear c19
           by_cases c20:x30_2<(t552.length:Int)
           ·rw[if_pos c20]at H
            have c20b0:decide (x30_2<(t552.length:Int))=true:=decide_eq_true c20
            clear c20
            obtain⟨t557,A21,H⟩:=bo_ H
            try dsimp only at H
            by_cases c22:t557=true
            ·subst c22
             replace H:(if x8_2.length<5864062014805 then(spec_ClashingHoles.l1 k2 l0 l2 (x8_2 ++ [(([(⟨((rd_T42 t547 x22_1).f0),((rd_T42 t547 x22_1).f1),((rd_T42 t547 x22_1).f2)⟩:S42),(⟨(rd_T42 t552 x30_2).f0,(rd_T42 t552 x30_2).f1,(rd_T42 t552 x30_2).f2⟩:S42)]:List (S42)))]) t547 (t547.length:Int) x22_1 t552 (t552.length:Int) (wrap64 (x30_2+1)) ((rd_T42 t547 x22_1).f0) ((rd_T42 t547 x22_1).f1) ((rd_T42 t547 x22_1).f2)) else(none))=some (r1,r2):=by rw[if_pos rfl]at H;exact H
             obtain⟨y558,hy558⟩:∃y_:List (S42),y_=(([(⟨((rd_T42 t547 x22_1).f0),((rd_T42 t547 x22_1).f1),((rd_T42 t547 x22_1).f2)⟩:S42),(⟨(rd_T42 t552 x30_2).f0,(rd_T42 t552 x30_2).f1,(rd_T42 t552 x30_2).f2⟩:S42)]:List (S42))):=⟨_,rfl⟩
             replace H:(if x8_2.length<5864062014805 then(spec_ClashingHoles.l1 k2 l0 l2 (x8_2 ++ [y558]) t547 (t547.length:Int) x22_1 t552 (t552.length:Int) (wrap64 (x30_2+1)) ((rd_T42 t547 x22_1).f0) ((rd_T42 t547 x22_1).f1) ((rd_T42 t547 x22_1).f2)) else(none))=some (r1,r2):=by first|(rw[hy558];with_reducible exact H)|(have H2_:=(Option.bind_some _ _).symm.trans H;rw[hy558];with_reducible exact H2_)|(have H2_:=(Option.bind_some _ _).symm.trans H;with_reducible exact H2_) | with_reducible exact H|(rw[hy558];exact H)|exact H
             have Ny558:=am_ hy558
             clear hy558
             by_cases c23:x8_2.length<5864062014805
             ·rw[if_pos c23]at H
              have LMc23:=am_ c23
              clear c23
              obtain⟨y561,hy561⟩:∃y_:List (List (S42)),y_=(x8_2 ++ [y558]):=⟨_,rfl⟩
              replace H:(spec_ClashingHoles.l1 k2 l0 l2 y561 t547 (t547.length:Int) x22_1 t552 (t552.length:Int) (wrap64 (x30_2+1)) ((rd_T42 t547 x22_1).f0) ((rd_T42 t547 x22_1).f1) ((rd_T42 t547 x22_1).f2))=some (r1,r2):=by first|(rw[hy561];with_reducible exact H)|(have H2_:=(Option.bind_some _ _).symm.trans H;rw[hy561];with_reducible exact H2_)|(have H2_:=(Option.bind_some _ _).symm.trans H;with_reducible exact H2_) | with_reducible exact H|(rw[hy561];exact H)|exact H
              have Ny561:=am_ hy561
              clear hy561
              have H':=am_ H
              clear H
              have p555:0≤(x30_2:Int):=of_decide_eq_true (a13_)
              have q555:x30_2<(t552.length:Int):=of_decide_eq_true (a13_)
              obtain⟨ad555,e555,hx555_0,hx555_1,hx555_2⟩:=at_T42 (Kd.R_reads' HO_28.out).2.2 x30_2 p555 q555
              cases e555
              replace p555:=eq_true p555
              replace q555:=eq_true q555
              go_wp2_with (first|((with_reducible refine gate_dst (N:=12) rfl ?_);refine box_event ?hg (N:=12) ?hd (cs:= #[.int .i64 0, .int .i64 0, .int .i64 0]) (t:=42) ?hr ?_;(case hd=>rfl);(case hg=>rfl);(case hr=>exact hr_);intro gb556 hg w24 hbox hb;replace HO_8:=am_ (Kd.S_below (Kd.S_elderB ((a24_ HO_8.out)) gb556 (Nat.le_of_eq hg.symm)) hb);replace HO_20:=am_ (Kd.R_below (Kd.R_elderB ((a0_ HO_20.out)) gb556 (Nat.le_of_eq hg.symm)) hb);replace HO_28:=am_ (Kd.R_below (Kd.R_elderB ((a0_ HO_28.out)) gb556 (Nat.le_of_eq hg.symm)) hb);have BK556:=am_ (hbox);have GW556:=am_ ((by rw[hg];exact(below_size ((a2_ GE551.out))):w.heap.size≤gb556));have GE556:=am_ ((by rw[hg];exact(below_size ((a2_ GE551.out))):w.heap.size≤gb556));replace HB:=am_ (below_step ((a2_ GE551.out)) hb);have NB551_556:=am_ ((by rw[hg];exact Nat.ne_of_lt (blk_lt (g:=gb551) (o:= .cells #[.int .i64 ((rd_T42 t547 x22_1).f0), .int .i64 ((rd_T42 t547 x22_1).f1), .int .i64 ((rd_T42 t547 x22_1).f2)] 42 (0,0)) ((a3_ BK551.out))):gb551≠gb556));have NB556_551:=am_ ((by rw[hg];exact Nat.ne_of_gt (blk_lt (g:=gb551) (o:= .cells #[.int .i64 ((rd_T42 t547 x22_1).f0), .int .i64 ((rd_T42 t547 x22_1).f1), .int .i64 ((rd_T42 t547 x22_1).f2)] 42 (0,0)) ((a3_ BK551.out))):gb556≠gb551));replace BK551:=am_ (blk_below (g:=gb551) (o:= .cells #[.int .i64 ((rd_T42 t547 x22_1).f0), .int .i64 ((rd_T42 t547 x22_1).f1), .int .i64 ((rd_T42 t547 x22_1).f2)] 42 (0,0)) ((a3_ BK551.out)) hb);clear hb hbox hg;have hnb25:=NB556_551.out;have hnc25:=NB551_556.out;have hcz26_0:w24.cell? ⟨gb556,0,none⟩=some (.int .i64 0):=(blk_cell BK556.out 0).trans rfl;have hcz26_1:w24.cell? ⟨gb556,1,none⟩=some (.int .i64 0):=(blk_cell BK556.out 1).trans rfl;have hcz26_2:w24.cell? ⟨gb556,2,none⟩=some (.int .i64 0):=(blk_cell BK556.out 2).trans rfl;have hfz26_0:=blk_frozen BK556.out 0;have hfz26_1:=blk_frozen BK556.out 1;have hfz26_2:=blk_frozen BK556.out 2;have hcz27_0:w24.cell? ⟨gb551,0,none⟩=some (.int .i64 ((rd_T42 t547 x22_1).f0)):=(blk_cell BK551.out 0).trans rfl;have hcz27_1:w24.cell? ⟨gb551,1,none⟩=some (.int .i64 ((rd_T42 t547 x22_1).f1)):=(blk_cell BK551.out 1).trans rfl;have hcz27_2:w24.cell? ⟨gb551,2,none⟩=some (.int .i64 ((rd_T42 t547 x22_1).f2)):=(blk_cell BK551.out 2).trans rfl;have hfz27_0:=blk_frozen BK551.out 0;have hfz27_1:=blk_frozen BK551.out 1;have hfz27_2:=blk_frozen BK551.out 2)|((with_reducible refine gate_callee (f:=90) rfl ?_);refine goesL_ (some 36) rfl rfl Try.func90 (by kernel_rfl) rfl #[.agg #[.int .i64 ((rd_T42 t547 x22_1).f0), .int .i64 ((rd_T42 t547 x22_1).f1), .int .i64 ((rd_T42 t547 x22_1).f2)], .agg #[.int .i64 ((rd_T42 t552 x30_2).f0), .int .i64 ((rd_T42 t552 x30_2).f1), .int .i64 ((rd_T42 t552 x30_2).f2)]] rfl gd_ ?_;(with_reducible refine(spec_mgClash.calls ((rd_T42 t547 x22_1).f0) ((rd_T42 t547 x22_1).f1) ((rd_T42 t547 x22_1).f2) ((rd_T42 t552 x30_2).f0) ((rd_T42 t552 x30_2).f1) ((rd_T42 t552 x30_2).f2) true _ A21.out).mono ?_);rintro e w28 ⟨rfl,hb⟩;refine⟨_,rfl,?_⟩;replace HO_8:=am_ (Kd.S_below ((a50_ HO_8.out)) hb);replace HO_20:=am_ (Kd.R_below ((a33_ HO_20.out)) hb);replace HO_28:=am_ (Kd.R_below ((a33_ HO_28.out)) hb);replace BK551:=am_ (blk_below (g:=gb551) (o:= .cells #[.int .i64 ((rd_T42 t547 x22_1).f0), .int .i64 ((rd_T42 t547 x22_1).f1), .int .i64 ((rd_T42 t547 x22_1).f2)] 42 (0,0)) ((a15_ NB551_556.out BK551.out)) hb);replace BK556:=am_ (blk_below (g:=gb556) (o:= .cells #[.int .i64 ((rd_T42 t552 x30_2).f0), .int .i64 ((rd_T42 t552 x30_2).f1), .int .i64 ((rd_T42 t552 x30_2).f2)] 42 (0,0)) ((a40_ BK556.out)) hb);replace HB:=am_ (below_step ((a14_ GE551.out GE556.out)) hb);(try clear hb);(try clear hb2);(try clear hk);(try clear hi);have hcz29_0:w28.cell? ⟨gb551,0,none⟩=some (.int .i64 ((rd_T42 t547 x22_1).f0)):=(blk_cell BK551.out 0).trans rfl;have hcz29_1:w28.cell? ⟨gb551,1,none⟩=some (.int .i64 ((rd_T42 t547 x22_1).f1)):=(blk_cell BK551.out 1).trans rfl;have hcz29_2:w28.cell? ⟨gb551,2,none⟩=some (.int .i64 ((rd_T42 t547 x22_1).f2)):=(blk_cell BK551.out 2).trans rfl;have hfz29_0:=blk_frozen BK551.out 0;have hfz29_1:=blk_frozen BK551.out 1;have hfz29_2:=blk_frozen BK551.out 2;have hcz30_0:w28.cell? ⟨gb556,0,none⟩=some (.int .i64 ((rd_T42 t552 x30_2).f0)):=(blk_cell BK556.out 0).trans rfl;have hcz30_1:w28.cell? ⟨gb556,1,none⟩=some (.int .i64 ((rd_T42 t552 x30_2).f1)):=(blk_cell BK556.out 1).trans rfl;have hcz30_2:w28.cell? ⟨gb556,2,none⟩=some (.int .i64 ((rd_T42 t552 x30_2).f2)):=(blk_cell BK556.out 2).trans rfl;have hfz30_0:=blk_frozen BK556.out 0;have hfz30_1:=blk_frozen BK556.out 1;have hfz30_2:=blk_frozen BK556.out 2)|((with_reducible refine gate_dst (N:=40) rfl ?_);refine Kd.R_lit k42 _ 42 ?hg (N:=40) ?hd (xs:=([(⟨((rd_T42 t547 x22_1).f0),((rd_T42 t547 x22_1).f1),((rd_T42 t547 x22_1).f2)⟩:S42),(⟨(rd_T42 t552 x30_2).f0,(rd_T42 t552 x30_2).f1,(rd_T42 t552 x30_2).f2⟩:S42)]:List (S42))) (inner:=[.int .i64 ((rd_T42 t547 x22_1).f0), .int .i64 ((rd_T42 t547 x22_1).f1), .int .i64 ((rd_T42 t547 x22_1).f2), .int .i64 ((rd_T42 t552 x30_2).f0), .int .i64 ((rd_T42 t552 x30_2).f1), .int .i64 ((rd_T42 t552 x30_2).f2)]) (ok:=fun _=>True) (okp:=fun _=>True) ?hr ?hp (fun _ hk=>hk) trivial (Below.refl _ _) (Nat.le_refl _) (by simp) ?_;(case hd=>rfl);(case hg=>rfl);(case hr=>exact hr_);(case hp=>exact(Reps.c3 (show Kd.M k42 _ _ _ (⟨((rd_T42 t547 x22_1).f0),((rd_T42 t547 x22_1).f1),((rd_T42 t547 x22_1).f2)⟩:S42) [.int .i64 ((rd_T42 t547 x22_1).f0), .int .i64 ((rd_T42 t547 x22_1).f1), .int .i64 ((rd_T42 t547 x22_1).f2)] from(k42_mkM _ _ _ (⟨((rd_T42 t547 x22_1).f0),((rd_T42 t547 x22_1).f1),((rd_T42 t547 x22_1).f2)⟩:S42) )) (Reps.c3 (show Kd.M k42 _ _ _ (⟨(rd_T42 t552 x30_2).f0,(rd_T42 t552 x30_2).f1,(rd_T42 t552 x30_2).f2⟩:S42) [.int .i64 ((rd_T42 t552 x30_2).f0), .int .i64 ((rd_T42 t552 x30_2).f1), .int .i64 ((rd_T42 t552 x30_2).f2)] from(k42_mkM _ _ _ (⟨(rd_T42 t552 x30_2).f0,(rd_T42 t552 x30_2).f1,(rd_T42 t552 x30_2).f2⟩:S42) )) (Reps.none _ _))));intro v559 w31 ho32 hb hg_ hnew_;clear hg_ hnew_;(first|rw[← Ny558.out]at ho32|(simp only[Int.reduceToNat]at ho32;rw[← Ny558.out]at ho32));replace HO_8:=am_ (Kd.S_elder' ((a24_ HO_8.out)) (Kd.R_base ho32) hb);have HO560:=am_ (Kd.R_lower (Kd.R_newB (Kd.R_newB (Kd.R_new' (Kd.R_new' ho32 (Kd.R_lt ((a0_ HO_20.out)))) (Kd.R_lt ((a0_ HO_28.out)))) (g:=gb551) (o:= .cells #[.int .i64 ((rd_T42 t547 x22_1).f0), .int .i64 ((rd_T42 t547 x22_1).f1), .int .i64 ((rd_T42 t547 x22_1).f2)] 42 (0,0)) ((a3_ BK551.out))) (g:=gb556) (o:= .cells #[.int .i64 ((rd_T42 t552 x30_2).f0), .int .i64 ((rd_T42 t552 x30_2).f1), .int .i64 ((rd_T42 t552 x30_2).f2)] 42 (0,0)) ((a3_ BK556.out))) (below_size ((a14_ GE551.out GE556.out))));replace HO_20:=am_ (Kd.R_elder' ((a0_ HO_20.out)) (Kd.R_base ho32) hb);replace HO_28:=am_ (Kd.R_elder' ((a0_ HO_28.out)) (Kd.R_base ho32) hb);replace BK551:=am_ (blk_below (g:=gb551) (o:= .cells #[.int .i64 ((rd_T42 t547 x22_1).f0), .int .i64 ((rd_T42 t547 x22_1).f1), .int .i64 ((rd_T42 t547 x22_1).f2)] 42 (0,0)) ((a3_ BK551.out)) hb);replace BK556:=am_ (blk_below (g:=gb556) (o:= .cells #[.int .i64 ((rd_T42 t552 x30_2).f0), .int .i64 ((rd_T42 t552 x30_2).f1), .int .i64 ((rd_T42 t552 x30_2).f2)] 42 (0,0)) ((a3_ BK556.out)) hb);replace HB:=am_ (below_step ((a14_ GE551.out GE556.out)) hb);clear hb ho32;obtain⟨Ao34,co34,eo34⟩:=Kd.R_slice HO560.out;subst eo34)|((with_reducible refine gate_builtin (b:= .append) (xs:= #[.tmp 37, .tmp 41]) rfl ?_);at_builtin;refine Kd.S_append (Kd.slice 42 k42) (w0:=w) w.heap.size rfl (.tmp 37) (.tmp 41) 24 32 (.slice none 0 0) 24 rfl Try.underlying24 info32 rfl (by decide) (by omega) u8 x8_2 y558 [.slice Ao34 y558.length co34] (fun k_=>some k_≠(.slice (some ad550) t547.length co9:Value).ownBlock∧some k_≠(.slice (some ad555) t552.length co17:Value).ownBlock∧k_≠gb551∧k_≠gb556) (fun k_=>some k_=(.slice Ao34 y558.length co34:Value).ownBlock) rfl rfl ?aP (fun k_ hk_=>((Kd.R_mono (ok':=fun k_=>((fun k_=>some k_≠(.slice (some ad550) t547.length co9:Value).ownBlock∧some k_≠(.slice (some ad555) t552.length co17:Value).ownBlock∧k_≠gb551∧k_≠gb556)) k_∧some k_≠(u8:Value).ownBlock) (Kd.R_apart' (HO560.out) (Kd.S_typed HO_8.out) (by decide)) (fun k_ hk=>⟨⟨hk.1.1.1.1.2,⟨hk.1.1.1.2,⟨hk.1.1.2,hk.1.2⟩⟩⟩,hk.2⟩))).1 k_ hk_.symm) ?aF ?aO ?aB ?aS ?aL ?_;(case aP=>exact Kd.M_row (Kd.R_mono (Kd.R_tight rfl (Kd.R_mono (ok':=fun k_=>((fun k_=>some k_≠(.slice (some ad550) t547.length co9:Value).ownBlock∧some k_≠(.slice (some ad555) t552.length co17:Value).ownBlock∧k_≠gb551∧k_≠gb556)) k_∧some k_≠(u8:Value).ownBlock) (Kd.R_apart' (HO560.out) (Kd.S_typed HO_8.out) (by decide)) (fun k_ hk=>⟨⟨hk.1.1.1.1.2,⟨hk.1.1.1.2,⟨hk.1.1.2,hk.1.2⟩⟩⟩,hk.2⟩))) (fun _ h_=>h_)));(case aB=>exact((a14_ GE551.out GE556.out)));(case aF=>exact(fun k_ hk=>⟨Kd.fresh' (Kd.R_lt ((a0_ HO_20.out))) k_ hk,Kd.fresh' (Kd.R_lt ((a0_ HO_28.out))) k_ hk,Kd.freshB (g:=gb551) (o:= .cells #[.int .i64 ((rd_T42 t547 x22_1).f0), .int .i64 ((rd_T42 t547 x22_1).f1), .int .i64 ((rd_T42 t547 x22_1).f2)] 42 (0,0)) ((a3_ BK551.out)) k_ hk,Kd.freshB (g:=gb556) (o:= .cells #[.int .i64 ((rd_T42 t552 x30_2).f0), .int .i64 ((rd_T42 t552 x30_2).f1), .int .i64 ((rd_T42 t552 x30_2).f2)] 42 (0,0)) ((a3_ BK556.out)) k_ hk⟩));(case aO=>exact((a67_ HO_8.out)));(case aS=>exact(below_size ((a14_ GE551.out GE556.out))));(case aL=>have:=LMc23.out;omega);intro v562 w33 ho hb hg hat;rw[← Ny561.out]at ho;have n0_:=am_ (Kd.R_over' ((a0_ HO_20.out)) (Kd.S_typed ((a24_ HO_8.out))) (by decide) hg);have n1_:=am_ (Kd.R_over' ((a0_ HO_28.out)) (Kd.S_typed ((a24_ HO_8.out))) (by decide) hg);have n2_:=am_ (blk_grown (g:=gb551) (o:= .cells #[.int .i64 ((rd_T42 t547 x22_1).f0), .int .i64 ((rd_T42 t547 x22_1).f1), .int .i64 ((rd_T42 t547 x22_1).f2)] 42 (0,0)) ((a3_ BK551.out)) hg (Kd.S_ne HO_8.out BK551.out (by decide)));have n3_:=am_ (blk_grown (g:=gb556) (o:= .cells #[.int .i64 ((rd_T42 t552 x30_2).f0), .int .i64 ((rd_T42 t552 x30_2).f1), .int .i64 ((rd_T42 t552 x30_2).f2)] 42 (0,0)) ((a3_ BK556.out)) hg (Kd.S_ne HO_8.out BK556.out (by decide)));have n4_:=am_ (hb);have n5_:=am_ (ho);clear HO_20 HO_28 BK551 BK556 HB HO_8 HO560;have HO_20:=n0_;have HO_28:=n1_;have BK551:=n2_;have BK556:=n3_;have HB:=n4_;have HO563:=n5_;clear n0_ n1_ n2_ n3_ n4_ n5_ ho hb hg hat))
              go_roundg k2
              case measure=>have:=HK1.out;have:=HK2.out;omega
              case rel=>exact⟨(y561),(wrap64 (x30_2+1)),(by first | rfl|(simp;done)|(simp[*];done)),H',⟨by have:=HK1.out;have:=HK2.out;omega⟩,⟨by(with_reducible repeat (first|apply Kd.S_alloc|apply Kd.S_drewN|apply Kd.S_drew));exact Kd.S_mono HO563.out (fun _ hk=>⟨hk.1,⟨hk.2.1,hk.2.2.1⟩⟩)⟩,⟨(a62_ HO_20.out)⟩,⟨(a62_ HO_28.out)⟩,⟨(a3_ BK551.out)⟩,⟨(a14_ GE551.out GE556.out)⟩⟩
             ·rw[if_neg c23]at H
              exact absurd H (by simp)
            ·replace c22:=Bool.eq_false_iff.mpr c22
             subst c22
             replace H:(spec_ClashingHoles.l1 k2 l0 l2 x8_2 t547 (t547.length:Int) x22_1 t552 (t552.length:Int) (wrap64 (x30_2+1)) ((rd_T42 t547 x22_1).f0) ((rd_T42 t547 x22_1).f1) ((rd_T42 t547 x22_1).f2))=some (r1,r2):=by rw[if_neg (show ¬(false=true) by decide)]at H;exact H
             have H':=am_ H
             clear H
             have p555:0≤(x30_2:Int):=of_decide_eq_true (a13_)
             have q555:x30_2<(t552.length:Int):=of_decide_eq_true (a13_)
             obtain⟨ad555,e555,hx555_0,hx555_1,hx555_2⟩:=at_T42 (Kd.R_reads' HO_28.out).2.2 x30_2 p555 q555
             cases e555
             replace p555:=eq_true p555
             replace q555:=eq_true q555
             go_wp2_with (first|((with_reducible refine gate_dst (N:=12) rfl ?_);refine box_event ?hg (N:=12) ?hd (cs:= #[.int .i64 0, .int .i64 0, .int .i64 0]) (t:=42) ?hr ?_;(case hd=>rfl);(case hg=>rfl);(case hr=>exact hr_);intro gb556 hg w35 hbox hb;replace HO_8:=am_ (Kd.S_below (Kd.S_elderB ((a24_ HO_8.out)) gb556 (Nat.le_of_eq hg.symm)) hb);replace HO_20:=am_ (Kd.R_below (Kd.R_elderB ((a0_ HO_20.out)) gb556 (Nat.le_of_eq hg.symm)) hb);replace HO_28:=am_ (Kd.R_below (Kd.R_elderB ((a0_ HO_28.out)) gb556 (Nat.le_of_eq hg.symm)) hb);have BK556:=am_ (hbox);have GW556:=am_ ((by rw[hg];exact(below_size ((a2_ GE551.out))):w.heap.size≤gb556));have GE556:=am_ ((by rw[hg];exact(below_size ((a2_ GE551.out))):w.heap.size≤gb556));replace HB:=am_ (below_step ((a2_ GE551.out)) hb);have NB551_556:=am_ ((by rw[hg];exact Nat.ne_of_lt (blk_lt (g:=gb551) (o:= .cells #[.int .i64 ((rd_T42 t547 x22_1).f0), .int .i64 ((rd_T42 t547 x22_1).f1), .int .i64 ((rd_T42 t547 x22_1).f2)] 42 (0,0)) ((a3_ BK551.out))):gb551≠gb556));have NB556_551:=am_ ((by rw[hg];exact Nat.ne_of_gt (blk_lt (g:=gb551) (o:= .cells #[.int .i64 ((rd_T42 t547 x22_1).f0), .int .i64 ((rd_T42 t547 x22_1).f1), .int .i64 ((rd_T42 t547 x22_1).f2)] 42 (0,0)) ((a3_ BK551.out))):gb556≠gb551));replace BK551:=am_ (blk_below (g:=gb551) (o:= .cells #[.int .i64 ((rd_T42 t547 x22_1).f0), .int .i64 ((rd_T42 t547 x22_1).f1), .int .i64 ((rd_T42 t547 x22_1).f2)] 42 (0,0)) ((a3_ BK551.out)) hb);clear hb hbox hg;have hnb36:=NB556_551.out;have hnc36:=NB551_556.out;have hcz37_0:w35.cell? ⟨gb556,0,none⟩=some (.int .i64 0):=(blk_cell BK556.out 0).trans rfl;have hcz37_1:w35.cell? ⟨gb556,1,none⟩=some (.int .i64 0):=(blk_cell BK556.out 1).trans rfl;have hcz37_2:w35.cell? ⟨gb556,2,none⟩=some (.int .i64 0):=(blk_cell BK556.out 2).trans rfl;have hfz37_0:=blk_frozen BK556.out 0;have hfz37_1:=blk_frozen BK556.out 1;have hfz37_2:=blk_frozen BK556.out 2;have hcz38_0:w35.cell? ⟨gb551,0,none⟩=some (.int .i64 ((rd_T42 t547 x22_1).f0)):=(blk_cell BK551.out 0).trans rfl;have hcz38_1:w35.cell? ⟨gb551,1,none⟩=some (.int .i64 ((rd_T42 t547 x22_1).f1)):=(blk_cell BK551.out 1).trans rfl;have hcz38_2:w35.cell? ⟨gb551,2,none⟩=some (.int .i64 ((rd_T42 t547 x22_1).f2)):=(blk_cell BK551.out 2).trans rfl;have hfz38_0:=blk_frozen BK551.out 0;have hfz38_1:=blk_frozen BK551.out 1;have hfz38_2:=blk_frozen BK551.out 2)|((with_reducible refine gate_callee (f:=90) rfl ?_);refine goesL_ (some 36) rfl rfl Try.func90 (by kernel_rfl) rfl #[.agg #[.int .i64 ((rd_T42 t547 x22_1).f0), .int .i64 ((rd_T42 t547 x22_1).f1), .int .i64 ((rd_T42 t547 x22_1).f2)], .agg #[.int .i64 ((rd_T42 t552 x30_2).f0), .int .i64 ((rd_T42 t552 x30_2).f1), .int .i64 ((rd_T42 t552 x30_2).f2)]] rfl gd_ ?_;(with_reducible refine(spec_mgClash.calls ((rd_T42 t547 x22_1).f0) ((rd_T42 t547 x22_1).f1) ((rd_T42 t547 x22_1).f2) ((rd_T42 t552 x30_2).f0) ((rd_T42 t552 x30_2).f1) ((rd_T42 t552 x30_2).f2) false _ A21.out).mono ?_);rintro e w39 ⟨rfl,hb⟩;refine⟨_,rfl,?_⟩;replace HO_8:=am_ (Kd.S_below ((a50_ HO_8.out)) hb);replace HO_20:=am_ (Kd.R_below ((a33_ HO_20.out)) hb);replace HO_28:=am_ (Kd.R_below ((a33_ HO_28.out)) hb);replace BK551:=am_ (blk_below (g:=gb551) (o:= .cells #[.int .i64 ((rd_T42 t547 x22_1).f0), .int .i64 ((rd_T42 t547 x22_1).f1), .int .i64 ((rd_T42 t547 x22_1).f2)] 42 (0,0)) ((a15_ NB551_556.out BK551.out)) hb);replace BK556:=am_ (blk_below (g:=gb556) (o:= .cells #[.int .i64 ((rd_T42 t552 x30_2).f0), .int .i64 ((rd_T42 t552 x30_2).f1), .int .i64 ((rd_T42 t552 x30_2).f2)] 42 (0,0)) ((a40_ BK556.out)) hb);replace HB:=am_ (below_step ((a14_ GE551.out GE556.out)) hb);(try clear hb);(try clear hb2);(try clear hk);(try clear hi)))
             go_roundg k2
             case measure=>have:=HK1.out;have:=HK2.out;omega
             case rel=>exact⟨(x8_2),(wrap64 (x30_2+1)),(by first | rfl|(simp;done)|(simp[*];done)),H',⟨by have:=HK1.out;have:=HK2.out;omega⟩,⟨by(with_reducible repeat (first|apply Kd.S_alloc|apply Kd.S_drewN|apply Kd.S_drew));exact Kd.S_mono HO_8.out (fun _ hk=>⟨hk.1.1,⟨hk.1.2.1,hk.1.2.2⟩⟩)⟩,⟨(a63_ HO_20.out)⟩,⟨(a63_ HO_28.out)⟩,⟨(a3_ BK551.out)⟩,⟨(a14_ GE551.out GE556.out)⟩⟩
           ·rw[if_neg c20]at H
            exact absurd H (by simp)
          ·rw[if_neg c19]at H
           exact absurd H (by simp)
         ·rw[if_neg c18]at H
          have c18b0:decide (x30_2<(t552.length:Int))=false:=decide_eq_false c18
          clear c18
          have H':=am_ H
          clear H
          go_wp2
          go_roundg k2
          case measure=>have:=HK1.out;have:=HK2.out;omega
          case rel=>exact⟨(x8_2),(wrap64 (x22_1+1)),(by first | rfl|(simp;done)|(simp[*];done)),H',⟨by have:=HK1.out;have:=HK2.out;omega⟩,⟨by(with_reducible repeat (first|apply Kd.S_alloc|apply Kd.S_drewN|apply Kd.S_drew));exact Kd.S_mono HO_8.out (fun _ hk=>hk.1)⟩,⟨(a28_ HO_20.out)⟩,⟨(a2_ GE551.out)⟩⟩
      ·rw[if_neg c12]at H
       exact absurd H (by simp)
     ·rw[if_neg c11]at H
      exact absurd H (by simp)
    ·rw[if_neg c10]at H
     have c10b0:decide (x22_1<(t547.length:Int))=false:=decide_eq_false c10
     clear c10
     simp only[Option.some.injEq,Prod.mk.injEq]at H
     obtain⟨rfl,rfl⟩:=H
     go_wp2
     go_ret2
     exact⟨_,a12_,by(with_reducible repeat (first|apply Kd.S_alloc|apply Kd.S_drewN|apply Kd.S_drew));exact Kd.S_mono HO_8.out (fun _ hk=>trivial),a1_⟩
 ·replace c5:=Bool.eq_false_iff.mpr c5
  subst c5
  replace H:(some (([]:List (List (S42))),false))=some (r1,r2):=by rw[if_neg (show ¬(false=true) by decide)]at H;exact H
  simp only[Option.some.injEq,Prod.mk.injEq]at H
  obtain⟨rfl,rfl⟩:=H
  go_enter Try.func41,Try.ntmps41
  go_wp2_with (first|((with_reducible refine gate_callee (f:=85) rfl ?_);refine goesL_ (some 16) rfl rfl Try.func85 (by kernel_rfl) rfl #[.slice A0 l0.length c0, .slice A1 l1.length c1, .slice A2 l2.length c2] rfl gd_ ?_;(with_reducible refine(spec_mgThree.calls k _ _ l0 _ _ l1 _ _ l2 false _ ?side1 ?side2 ?side3 ?side4 ?side5 ?side6 A4.out).mono ?_);(case side1=>exact(a16_ HR0.out));(case side2=>exact HC0.out);(case side3=>exact(a16_ HR1.out));(case side4=>exact HC1.out);(case side5=>exact(a16_ HR2.out));(case side6=>exact HC2.out);rintro e w40 ⟨rfl,hb⟩;refine⟨_,rfl,?_⟩;replace HB:=am_ (below_step (a1_) hb);(try clear hb);(try clear hb2);(try clear hk);(try clear hi)))
  go_ret2
  exact⟨_,a12_,a66_,a1_⟩

/-! ### spec_DrawMergeFirst: function 43 -/
def spec_DrawMergeFirst.f (k:Nat) (l0:List Int):Option ((List (S42))×(List (S42))×(List (S42))):=(spec_DrawMergeSheets.f k l0).bind fun bt564=>(some (bt564.1,bt564.2.1,bt564.2.2))
theorem spec_DrawMergeFirst.mono:∀a0 k,LeO (spec_DrawMergeFirst.f k a0) (spec_DrawMergeFirst.f (k+1) a0):=by
 intro a0 k
 unfold spec_DrawMergeFirst.f
 repeat' first
  |(with_reducible exact spec_DrawMergeSheets.mono _ _)
  |(with_reducible exact LeO.refl _)
  |(with_reducible exact LeO.none _)
  |(with_reducible refine LeO.ite ?_ ?_)
  |(with_reducible refine LeO.bind ?_ (fun _=>?_))
  |exact spec_DrawMergeSheets.mono _ _
  |exact LeO.none _
   | refine LeO.ite ?_ ?_
   | refine LeO.bind ?_ (fun _=>?_)
set_option maxHeartbeats 8000000 in
set_option maxRecDepth 100000 in
theorem spec_DrawMergeFirst.calls (k:Nat) (A0:Option Addr) (c0:Nat) (l0:List Int) (r1:List (S42)) (r2:List (S42)) (r3:List (S42)) (w:World) (hr0:Kd.C (Kd.int .u8) w A0 l0.length l0) (hc0:l0.length≤c0) (h:spec_DrawMergeFirst.f k l0=some (r1,r2,r3)) :
 Calls Try.prog 43 #[.slice A0 l0.length c0] w fun e w'=>∃v0_ v1_ v2_:Value,e = .returned (.tuple #[v0_,v1_,v2_])∧Kd.R k42 42 w' w.heap.size (fun k_=>some k_≠(v1_:Value).ownBlock∧some k_≠(v2_:Value).ownBlock) v0_ r1∧Kd.R k42 42 w' w.heap.size (fun k_=>some k_≠(v0_:Value).ownBlock∧some k_≠(v2_:Value).ownBlock) v1_ r2∧Kd.R k42 42 w' w.heap.size (fun k_=>some k_≠(v0_:Value).ownBlock∧some k_≠(v1_:Value).ownBlock) v2_ r3∧Below w.heap.size w w':=by
 have HR0:=am_ hr0
 have HC0:=am_ hc0
 clear hr0 hc0
 have HB:=am_ (Below.refl w.heap.size w)
 have H:((spec_DrawMergeSheets.f k l0).bind fun bt564=>(some (bt564.1,bt564.2.1,bt564.2.2)))=some (r1,r2,r3):=h
 clear h
 obtain⟨⟨t564,t565,t566⟩,A2,H⟩:=bo_ H
 try dsimp only at H
 simp only[Option.some.injEq,Prod.mk.injEq]at H
 obtain⟨rfl,rfl,rfl⟩:=H
 go_enter Try.func43,Try.ntmps43
 go_wp2_with (first|((with_reducible refine gate_callee (f:=39) rfl ?_);refine goesL_ (some 6) rfl rfl Try.func39 (by kernel_rfl) rfl #[.slice A0 l0.length c0] rfl gd_ ?_;(with_reducible refine(spec_DrawMergeSheets.calls k _ _ l0 t564 t565 t566 _ ?side1 ?side2 A2.out).mono ?_);(case side1=>exact(a16_ HR0.out));(case side2=>exact HC0.out);rintro e w3 ⟨v567,v569,v571,rfl,ho0,ho1,ho2,hb⟩;refine⟨_,rfl,?_⟩;have HO568:=am_ (Kd.R_lower ho0 (below_size (a1_)));have HO570:=am_ (Kd.R_lower ho1 (below_size (a1_)));have HO572:=am_ (Kd.R_lower ho2 (below_size (a1_)));replace HB:=am_ (below_step (a1_) hb);(try clear hb);(try clear hb2);(try clear hk);(try clear hi);(try clear ho0);(try clear ho1);(try clear ho2)))
 go_ret3
 exact⟨_,_,_,a12_,(a0_ HO568.out),(a0_ HO570.out),(a0_ HO572.out),a1_⟩

end Go.Proofs.Ytplpjmhmochcfaa.QFnMerges
