/- Written by a program of this session (the kit's printer, with leaf contracts proved by hand put in): what each Go function computes, and that the call computes it. No condition but those that each theorem names. -/
import Derived.Test.YtplpjmhmochcfaaQFnMergesx0
import Derived.Test.YtplpjmhmochcfaaQFnMergesx1
import Derived.Test.YtplpjmhmochcfaaQFnMergesx3
import Derived.Test.YtplpjmhmochcfaaQFnMergesx5
import Derived.Test.YtplpjmhmochcfaaQFnMergesx8
import Derived.Test.YtplpjmhmochcfaaQFnMergesx10
import Derived.Test.YtplpjmhmochcfaaQFnMergesx12
import Derived.Test.YtplpjmhmochcfaaQFnMergesx13
namespace Go.Proofs.Ytplpjmhmochcfaa.QFnMerges
open Go.RowKit Go.Proofs.YtplpjmhmochcfaaW.PrintWords Go.Proofs.YtplpjmhmochcfaaW.PrintLast Go.Proofs.YtplpjmhmochcfaaW.PrintMore
attribute [local go_sem] max2_int min2_int max_two min_two max_three min_three max_four min_four   -- for this text's walks alone
set_option linter.unusedVariables false
set_option linter.unusedSimpArgs false

attribute [local go_sem high] eqA42
/-! ### spec_l1Cur_changed: function 58 -/
mutual
def spec_l1Cur_changed.l0:Nat→List (S42)→Int→List Int→Int→Int→Option ((List (S42))×Int×Int)
 | 0,_,_,_,_,_=>none
 | k+1,x5,x6,x1000,x1001,x1002=>if x6>0 then(if(x5.length:Int)>0 then((spec_l1Cur_one.f x1000 x1001 x1002 2).bind fun bt485=>(spec_l1Cur_changed.j1 k x5 x6 bt485.1 x1000 bt485.2.1 bt485.2.2)) else(spec_l1Cur_changed.j1 k x5 x6 false x1000 x1001 x1002)) else(some (x5,x1001,x1002))
def spec_l1Cur_changed.j1:Nat→List (S42)→Int→Bool→List Int→Int→Int→Option ((List (S42))×Int×Int)
 | 0,_,_,_,_,_,_=>none
 | k+1,x5,x6,x28,x1000,x1001,x1002=>if x28=true then((spec_l1Cur_pick.f x1000 x1001 x1002 (x5.length:Int)).bind fun bt488=>((spec_shDrop.f x5 bt488.1).bind fun t491=>(spec_l1Cur_changed.j2 k t491 x6 x1000 bt488.2.1 bt488.2.2))) else(spec_l1Cur_changed.j2 k x5 x6 x1000 x1001 x1002)
def spec_l1Cur_changed.j2:Nat→List (S42)→Int→List Int→Int→Int→Option ((List (S42))×Int×Int)
 | 0,_,_,_,_,_=>none
 | k+1,x5,x6,x1000,x1001,x1002=>(spec_l1Cur_hole.f x1000 x1001 x1002).bind fun bt494=>((spec_shWith.f k x5 bt494.1 bt494.2.1 bt494.2.2.1).bind fun bt499=>(if bt499.2=true then(spec_l1Cur_changed.l0 k bt499.1 (wrap64 (x6-1)) x1000 bt494.2.2.2.1 bt494.2.2.2.2) else(spec_l1Cur_changed.l0 k x5 (wrap64 (x6-1)) x1000 bt494.2.2.2.1 bt494.2.2.2.2)))
end
def spec_l1Cur_changed.f (k:Nat) (s0_0:List Int) (s0_1:Int) (s0_2:Int) (l1:List (S42)):Option ((List (S42))×Int×Int):=(some (([]:List (S42)):List (S42))).bind fun y475=>(if y475.length+l1.length<5864062014805 then((some (y475 ++ l1:List (S42))).bind fun y478=>((spec_shGood.f k l1).bind fun t481=>(if t481=true then((spec_l1Cur_pick.f s0_0 s0_1 s0_2 4).bind fun bt482=>(spec_l1Cur_changed.l0 k y478 bt482.1 s0_0 bt482.2.1 bt482.2.2)) else(some (y478,s0_1,s0_2))))) else(none))
theorem spec_l1Cur_changed.mono_l:∀k,(∀y0 y1 y2 y3 y4,LeO (spec_l1Cur_changed.l0 k y0 y1 y2 y3 y4) (spec_l1Cur_changed.l0 (k+1) y0 y1 y2 y3 y4))∧(∀y0 y1 y2 y3 y4 y5,LeO (spec_l1Cur_changed.j1 k y0 y1 y2 y3 y4 y5) (spec_l1Cur_changed.j1 (k+1) y0 y1 y2 y3 y4 y5))∧(∀y0 y1 y2 y3 y4,LeO (spec_l1Cur_changed.j2 k y0 y1 y2 y3 y4) (spec_l1Cur_changed.j2 (k+1) y0 y1 y2 y3 y4))
 | 0=>⟨fun _ _ _ _ _ r h=>by simp[spec_l1Cur_changed.l0]at h,fun _ _ _ _ _ _ r h=>by simp[spec_l1Cur_changed.j1]at h,fun _ _ _ _ _ r h=>by simp[spec_l1Cur_changed.j2]at h⟩
 | k+1=>by
  obtain⟨ih0,ih1,ih2⟩:=spec_l1Cur_changed.mono_l k
  refine⟨?_,?_,?_⟩
  intros
  unfold spec_l1Cur_changed.l0
  rotate_left
  intros
  unfold spec_l1Cur_changed.j1
  rotate_left
  intros
  unfold spec_l1Cur_changed.j2
  rotate_left
  all_goals repeat' first|(with_reducible first|exact ih0 _ _ _ _ _|exact ih1 _ _ _ _ _ _|exact ih2 _ _ _ _ _|exact spec_shGood.mono _ _|exact spec_shWith.mono _ _ _ _ _|exact LeO.refl _|exact LeO.none _|refine LeO.ite ?_ ?_|refine LeO.bind ?_ (fun _=>?_))|exact ih0 _ _ _ _ _|exact ih1 _ _ _ _ _ _|exact ih2 _ _ _ _ _|exact spec_shGood.mono _ _|exact spec_shWith.mono _ _ _ _ _|exact LeO.none _|refine LeO.ite ?_ ?_|refine LeO.bind ?_ (fun _=>?_)
theorem spec_l1Cur_changed.mono:∀a0 a1 a2 a3 k,LeO (spec_l1Cur_changed.f k a0 a1 a2 a3) (spec_l1Cur_changed.f (k+1) a0 a1 a2 a3):=by
 intro a0 a1 a2 a3 k
 obtain⟨ih0,ih1,ih2⟩:=spec_l1Cur_changed.mono_l k
 unfold spec_l1Cur_changed.f
 repeat' first
  |(with_reducible exact ih0 _ _ _ _ _)
  |(with_reducible exact ih1 _ _ _ _ _ _)
  |(with_reducible exact ih2 _ _ _ _ _)
  |(with_reducible exact spec_shGood.mono _ _)
  |(with_reducible exact spec_shWith.mono _ _ _ _ _)
  |(with_reducible exact LeO.refl _)
  |(with_reducible exact LeO.none _)
  |(with_reducible refine LeO.ite ?_ ?_)
  |(with_reducible refine LeO.bind ?_ (fun _=>?_))
  |exact ih0 _ _ _ _ _
  |exact ih1 _ _ _ _ _ _
  |exact ih2 _ _ _ _ _
  |exact spec_shGood.mono _ _
  |exact spec_shWith.mono _ _ _ _ _
  |exact LeO.none _
   | refine LeO.ite ?_ ?_
   | refine LeO.bind ?_ (fun _=>?_)
set_option maxHeartbeats 8000000 in
set_option maxRecDepth 100000 in
theorem spec_l1Cur_changed.calls (k:Nat) (g:Nat) (s0_0:List Int) (s0_1:Int) (s0_2:Int) (A1:Option Addr) (c1:Nat) (l1:List (S42)) (r1:List (S42)) (r2:Int) (r3:Int) (w0 w:World) (hI:IsS76 w0 w g s0_0 s0_1 s0_2) (hB:Below w0.heap.size w0 w) (hr1:∀W_,KeepBut w W_ g none→Kd.C k42 W_ A1 l1.length l1) (hc1:l1.length≤c1) (h:spec_l1Cur_changed.f k s0_0 s0_1 s0_2 l1=some (r1,r2,r3)) :
 Calls Try.prog 58 #[.pointer (some ⟨g,0,none⟩), .slice A1 l1.length c1] w fun e w'=>∃v0_:Value,e = .returned (v0_)∧Kd.R k42 42 w' w.heap.size (fun _=>True) v0_ r1∧IsS76 w0 w' g s0_0 r2 r3∧Below w0.heap.size w0 w'∧KeepBut w w' g none:=by
 have HR1:=am_ hr1
 have HC1:=am_ hc1
 clear hr1 hc1
 have HI0:=am_ hI
 have HK:=am_ (KeepBut.refl w g none)
 have HL:=am_ hB.size
 clear hI
 have HW0:=am_ hB.size
 have HB:=am_ hB
 clear hB
 have H:((some (([]:List (S42)):List (S42))).bind fun y475=>(if y475.length+l1.length<5864062014805 then((some (y475 ++ l1:List (S42))).bind fun y478=>((spec_shGood.f k l1).bind fun t481=>(if t481=true then((spec_l1Cur_pick.f s0_0 s0_1 s0_2 4).bind fun bt482=>(spec_l1Cur_changed.l0 k y478 bt482.1 s0_0 bt482.2.1 bt482.2.2)) else(some (y478,s0_1,s0_2))))) else(none)))=some (r1,r2,r3):=h
 clear h
 obtain⟨y475,hy475⟩:∃y_:List (S42),y_=(([]:List (S42))):=⟨_,rfl⟩
 replace H:(if y475.length+l1.length<5864062014805 then((some (y475 ++ l1:List (S42))).bind fun y478=>((spec_shGood.f k l1).bind fun t481=>(if t481=true then((spec_l1Cur_pick.f s0_0 s0_1 s0_2 4).bind fun bt482=>(spec_l1Cur_changed.l0 k y478 bt482.1 s0_0 bt482.2.1 bt482.2.2)) else(some (y478,s0_1,s0_2))))) else(none))=some (r1,r2,r3):=by first|(rw[hy475];with_reducible exact H)|(have H2_:=(Option.bind_some _ _).symm.trans H;rw[hy475];with_reducible exact H2_)|(have H2_:=(Option.bind_some _ _).symm.trans H;with_reducible exact H2_) | with_reducible exact H|(rw[hy475];exact H)|exact H
 have Ny475:=am_ hy475
 clear hy475
 by_cases c3:y475.length+l1.length<5864062014805
 ·rw[if_pos c3]at H
  have LMc3:=am_ c3
  clear c3
  obtain⟨y478,hy478⟩:∃y_:List (S42),y_=(y475 ++ l1):=⟨_,rfl⟩
  replace H:((spec_shGood.f k l1).bind fun t481=>(if t481=true then((spec_l1Cur_pick.f s0_0 s0_1 s0_2 4).bind fun bt482=>(spec_l1Cur_changed.l0 k y478 bt482.1 s0_0 bt482.2.1 bt482.2.2)) else(some (y478,s0_1,s0_2))))=some (r1,r2,r3):=by first|(rw[hy478];with_reducible exact H)|(have H2_:=(Option.bind_some _ _).symm.trans H;rw[hy478];with_reducible exact H2_)|(have H2_:=(Option.bind_some _ _).symm.trans H;with_reducible exact H2_) | with_reducible exact H|(rw[hy478];exact H)|exact H
  have Ny478:=am_ hy478
  clear hy478
  obtain⟨t481,A4,H⟩:=bo_ H
  try dsimp only at H
  by_cases c5:t481=true
  ·subst c5
   replace H:((spec_l1Cur_pick.f s0_0 s0_1 s0_2 4).bind fun bt482=>(spec_l1Cur_changed.l0 k y478 bt482.1 s0_0 bt482.2.1 bt482.2.2))=some (r1,r2,r3):=by rw[if_pos rfl]at H;exact H
   obtain⟨⟨t482,t483,t484⟩,A6,H⟩:=bo_ H
   try dsimp only at H
   have H':=am_ H
   clear H
   go_enter Try.func58,Try.ntmps58
   go_wp2_with (first|((with_reducible refine gate_dst (N:=9) rfl ?_);refine Kd.R_lit k42 _ 42 ?hg (N:=9) ?hd (xs:=([]:List (S42))) (inner:=[]) (ok:=fun _=>True) (okp:=fun _=>True) ?hr ?hp (fun _ hk=>hk) trivial (Below.refl _ _) (Nat.le_refl _) (by simp) ?_;(case hd=>rfl);(case hg=>rfl);(case hr=>exact hr_);(case hp=>exact(Reps.none _ _));intro v476 w7 ho8 hb hg_ hnew_;clear hg_ hnew_;(first|rw[← Ny475.out]at ho8|(simp only[Int.reduceToNat]at ho8;rw[← Ny475.out]at ho8));have HO477:=am_ (Kd.R_lower ho8 (keep_size (w:=w) (g:=g) (row:=none) (a6_)));replace HK:=am_ (KeepBut.trans (a6_) (KeepBut.of_below hb g none) (.inl rfl));replace HB:=am_ (below_step ((a7_ HI0.out)) hb);replace HI0:=am_ (IsS76.below ((a5_ HI0.out)) hb);clear hb ho8)|((with_reducible refine gate_builtin (b:= .append) (xs:= #[.tmp 9, .tmp 10]) rfl ?_);at_builtin;refine Kd.R_append_rows k42 w.heap.size rfl (.tmp 9) (.tmp 10) 32 42 (.agg #[(.int .i64 0),(.int .i64 0),(.int .i64 0)]) 24 rfl Try.underlying32 info42 rfl (by decide) (by omega) v476 y475 l1 _ _ _ (fun _=>True) (fun _=>False) rfl rfl ?aO ?aR (fun _ _ h=>h) (fun _ h=>h.elim) ?aF (Below.refl _ _) ?aS ?aL ?_;(case aR=>exact Kd.C_foot_now HR1.out (a6_));(case aF=>exact(fun _ _=>trivial));(case aO=>exact((a0_ HO477.out)));(case aS=>exact(keep_size (w:=w) (g:=g) (row:=none) (a6_)));(case aL=>have:=LMc3.out;omega);intro v479 w9 ho hb hg hat;rw[← Ny478.out]at ho;have n0_:=am_ (IsS76.grown ((a5_ HI0.out)) hg (IsS76.own_ne HI0.out HO477.out (by decide)));have n1_:=am_ (below_weaken ((a7_ HI0.out)) HL.out hb);have n2_:=am_ (KeepBut.trans (a6_) (KeepBut.of_grown hg g) (Kd.R_base2 HO477.out));have n3_:=am_ (ho);clear HI0 HB HK HO477;have HI0:=n0_;have HB:=n1_;have HK:=n2_;have HO480:=n3_;clear n0_ n1_ n2_ n3_ ho hb hg hat)|((with_reducible refine gate_callee (f:=62) rfl ?_);refine goesL_ (some 13) rfl rfl Try.func62 (by kernel_rfl) rfl #[.slice A1 l1.length c1] rfl gd_ ?_;(with_reducible refine(spec_shGood.calls k _ _ l1 true _ ?side1 ?side2 A4.out).mono ?_);(case side1=>exact Kd.C_foot_now HR1.out (a6_));(case side2=>exact HC1.out);rintro e w10 ⟨rfl,hb⟩;refine⟨_,rfl,?_⟩;replace HO480:=am_ (Kd.R_below ((a0_ HO480.out)) hb);replace HK:=am_ (KeepBut.trans (a6_) (KeepBut.of_below hb g none) (.inl rfl));replace HB:=am_ (below_step ((a7_ HI0.out)) hb);replace HI0:=am_ (IsS76.below ((a5_ HI0.out)) hb);(try clear hb);(try clear hb2);(try clear hk);(try clear hi))|((with_reducible refine gate_callee (f:=55) rfl ?_);refine goesL_ (some 17) rfl rfl Try.func55 (by kernel_rfl) rfl #[.pointer (some ⟨g,0,none⟩), .int .i64 4] rfl gd_ ?_;(with_reducible refine(spec_l1Cur_pick.calls g s0_0 s0_1 s0_2 4 t482 t483 t484 w0 _ ?side1 ?side2 A6.out).mono ?_);(case side1=>exact(a5_ HI0.out));(case side2=>exact(a7_ HI0.out));rintro e w11 ⟨rfl,hi,hb,hk⟩;refine⟨_,rfl,?_⟩;replace HO480:=am_ (Kd.R_mono (Kd.R_keep (IsS76.apart (show IsS76 w0 _ g s0_0 s0_1 s0_2 from(a5_ HI0.out)) ((a0_ HO480.out)) (by decide)) hk (fun _ h=>h.2)) (fun _ h=>h.1));replace HK:=am_ (KeepBut.trans (a6_) hk (.inl rfl));replace HB:=am_ (hb);replace HI0:=am_ (hi);(try clear hb);(try clear hb2);(try clear hk);(try clear hi)))
   go_loopg [5,6] k (fun kq v5 v6 w'=>∃(x5_1:List (S42)) (x6_1:Int) (x1001_1:Int) (x1002_1:Int),v6 = .int .i64 x6_1∧Aside0 (spec_l1Cur_changed.l0 kq x5_1 x6_1 s0_0 x1001_1 x1002_1=some (r1,r2,r3))∧Aside0 (kq≤k)∧Aside0 (Kd.R k42 42 w' w.heap.size (fun _=>True) v5 x5_1)∧Aside0 (IsS76 w0 w' g s0_0 x1001_1 x1002_1)∧Aside0 (KeepBut w w' g none)∧Aside0 (Below w0.heap.size w0 w'))
   case atStart=>exact⟨(y478),(t482),(t483),(t484),(by first | rfl|(simp;done)|(simp[*];done)),H',⟨Nat.le_refl _⟩,⟨(a0_ HO480.out)⟩,⟨(a5_ HI0.out)⟩,⟨a6_⟩,⟨(a7_ HI0.out)⟩⟩
   case round=>
    clear H'
    try clear c1
    try clear p2
    try clear c3
    try clear c5
    try clear c6
    obtain⟨x5_1,x6_1,x1001_1,x1002_1,rfl,HA,HK1,HO_5,HI0,HK,HB⟩:=hrel
    cases gk with
    | zero=>exact absurd HA.out (by simp[spec_l1Cur_changed.l0])
    | succ k1=>
     have H:=HA.out
     clear HA
     simp only[spec_l1Cur_changed.l0]at H
     by_cases c12:x6_1>0
     ·rw[if_pos c12]at H
      have c12b0:decide (0<x6_1)=true:=decide_eq_true c12
      clear c12
      have HC13:=am_ H
      clear H
      go_upto_region 7 with (fail)
      go_cut [28] (fun v28 wc=>∃(kq:Nat) (x28_12:Bool) (x1001_12:Int) (x1002_12:Int),v28 = .bool x28_12∧Aside0 (spec_l1Cur_changed.j1 kq x5_1 x6_1 x28_12 s0_0 x1001_12 x1002_12=some (r1,r2,r3))∧Aside0 (kq≤k1)∧Aside0 (Kd.R k42 42 wc w.heap.size (fun _=>True) u5 x5_1)∧Aside0 (IsS76 w0 wc g s0_0 x1001_12 x1002_12)∧Aside0 (KeepBut w wc g none)∧Aside0 (Below w0.heap.size w0 wc))
      case first=>
       have H:=HC13.out
       clear HC13
       by_cases c14:(x5_1.length:Int)>0
       ·rw[if_pos c14]at H
        have c14b0:decide (0<(x5_1.length:Int))=true:=decide_eq_true c14
        have c14b1:decide (0<x5_1.length)=true:=decide_eq_true (by omega)
        clear c14
        (first|rw[c14b0]|(simp only[i64_w,i32_w];rw[c14b0]) | skip)
        obtain⟨⟨t485,t486,t487⟩,A15,H⟩:=bo_ H
        try dsimp only at H
        have H':=am_ H
        clear H
        obtain⟨Ao16,co16,eo16⟩:=Kd.R_slice HO_5.out
        subst eo16
        go_wp2_with (first|(go_at_call 56;(with_reducible refine(spec_l1Cur_one.calls g s0_0 x1001_1 x1002_1 2 t485 t486 t487 w0 _ ?side1 ?side2 A15.out).mono ?_);(case side1=>exact(a5_ HI0.out));(case side2=>exact(a7_ HI0.out));rintro e w17 ⟨rfl,hi,hb,hk⟩;replace HO_5:=am_ (Kd.R_mono (Kd.R_keep (IsS76.apart (show IsS76 w0 _ g s0_0 x1001_1 x1002_1 from(a5_ HI0.out)) ((a0_ HO_5.out)) (by decide)) hk (fun _ h=>h.2)) (fun _ h=>h.1));replace HK:=am_ (KeepBut.trans (a6_) hk (.inl rfl));replace HB:=am_ (hb);replace HI0:=am_ (hi);(try clear hb);(try clear hb2);(try clear hk);(try clear hi)))
        go_meet
        case rel=>exact⟨_,(t485),(t486),(t487),(by first | rfl|(simp;done)|(simp[*];done)),H',⟨by have:=HK1.out;first | omega|exact Nat.le_refl _⟩,⟨(a0_ HO_5.out)⟩,⟨(a5_ HI0.out)⟩,⟨a6_⟩,⟨(a7_ HI0.out)⟩⟩
       ·rw[if_neg c14]at H
        have c14b0:decide (0<(x5_1.length:Int))=false:=decide_eq_false c14
        have c14b1:decide (0<x5_1.length)=false:=decide_eq_false (by omega)
        clear c14
        (first|rw[c14b0]|(simp only[i64_w,i32_w];rw[c14b0]) | skip)
        have H':=am_ H
        clear H
        obtain⟨Ao18,co18,eo18⟩:=Kd.R_slice HO_5.out
        subst eo18
        go_wp2
        go_meet
        case rel=>exact⟨_,(false),(x1001_1),(x1002_1),(by first | rfl|(simp;done)|(simp[*];done)),H',⟨by have:=HK1.out;first | omega|exact Nat.le_refl _⟩,⟨(a0_ HO_5.out)⟩,⟨(a5_ HI0.out)⟩,⟨a6_⟩,⟨(a7_ HI0.out)⟩⟩
      case rest=>
       clear HC13
       try clear c1
       try clear p2
       try clear c3
       try clear c5
       try clear c6
       try clear c12
       try clear c12b0
       try clear c14
       try clear c14b0
       try clear c14b1
       try clear p2
       obtain⟨kq,x28_12,x1001_12,x1002_12,rfl,HA,HJ12,HO_5,HI0,HK,HB⟩:=hcut
       cases kq with
       | zero=>exact absurd HA.out (by simp[spec_l1Cur_changed.j1])
       | succ kj12=>
        have H:=HA.out
        clear HA
        simp only[spec_l1Cur_changed.j1]at H
        have HC19:=am_ H
        clear H
        go_upto_if 28 with (fail)
        go_cut [5] (fun v5 wc=>∃(kq:Nat) (x5_18:List (S42)) (x1001_18:Int) (x1002_18:Int),Aside0 (spec_l1Cur_changed.j2 kq x5_18 x6_1 s0_0 x1001_18 x1002_18=some (r1,r2,r3))∧Aside0 (kq≤kj12)∧Aside0 (Kd.R k42 42 wc w.heap.size (fun _=>True) v5 x5_18)∧Aside0 (IsS76 w0 wc g s0_0 x1001_18 x1002_18)∧Aside0 (KeepBut w wc g none)∧Aside0 (Below w0.heap.size w0 wc))
        case first=>
         have H:=HC19.out
         clear HC19
         by_cases c20:x28_12=true
         ·subst c20
          replace H:((spec_l1Cur_pick.f s0_0 x1001_12 x1002_12 (x5_1.length:Int)).bind fun bt488=>((spec_shDrop.f x5_1 bt488.1).bind fun t491=>(spec_l1Cur_changed.j2 kj12 t491 x6_1 s0_0 bt488.2.1 bt488.2.2)))=some (r1,r2,r3):=by rw[if_pos rfl]at H;exact H
          obtain⟨⟨t488,t489,t490⟩,A21,H⟩:=bo_ H
          try dsimp only at H
          obtain⟨t491,A22,H⟩:=bo_ H
          try dsimp only at H
          have H':=am_ H
          clear H
          obtain⟨Ao23,co23,eo23⟩:=Kd.R_slice HO_5.out
          subst eo23
          go_wp2_with (first|((with_reducible refine gate_callee (f:=55) rfl ?_);refine goesL_ (some 33) rfl rfl Try.func55 (by kernel_rfl) rfl #[.pointer (some ⟨g,0,none⟩), .int .i64 (x5_1.length:Int)] rfl gd_ ?_;(with_reducible refine(spec_l1Cur_pick.calls g s0_0 x1001_12 x1002_12 (x5_1.length:Int) t488 t489 t490 w0 _ ?side1 ?side2 A21.out).mono ?_);(case side1=>exact(a5_ HI0.out));(case side2=>exact(a7_ HI0.out));rintro e w24 ⟨rfl,hi,hb,hk⟩;refine⟨_,rfl,?_⟩;replace HO_5:=am_ (Kd.R_mono (Kd.R_keep (IsS76.apart (show IsS76 w0 _ g s0_0 x1001_12 x1002_12 from(a5_ HI0.out)) ((a0_ HO_5.out)) (by decide)) hk (fun _ h=>h.2)) (fun _ h=>h.1));replace HK:=am_ (KeepBut.trans (a6_) hk (.inl rfl));replace HB:=am_ (hb);replace HI0:=am_ (hi);(try clear hb);(try clear hb2);(try clear hk);(try clear hi))|((with_reducible refine gate_callee (f:=100) rfl ?_);refine goesL_ (some 34) rfl rfl Try.func100 (by kernel_rfl) rfl #[.slice Ao23 x5_1.length co23, .int .i64 t488] rfl gd_ ?_;(with_reducible refine(spec_shDrop.calls _ _ x5_1 t488 t491 _ ?side1 ?side2 A22.out).mono ?_);(case side1=>exact(a4_ HO_5.out));(case side2=>exact(Kd.R_reads' HO_5.out).2.1);rintro e w25 ⟨v492,rfl,ho0,hb⟩;refine⟨_,rfl,?_⟩;have HO493:=am_ (Kd.R_lower (Kd.R_new' ho0 (Kd.R_lt ((a0_ HO_5.out)))) (keep_size (w:=w) (g:=g) (row:=none) (a6_)));replace HO_5:=am_ (Kd.R_elder' ((a0_ HO_5.out)) (Kd.R_base ho0) hb);replace HK:=am_ (KeepBut.trans (a6_) (KeepBut.of_below hb g none) (.inl rfl));replace HB:=am_ (below_step ((a7_ HI0.out)) hb);replace HI0:=am_ (IsS76.below ((a5_ HI0.out)) hb);(try clear hb);(try clear hb2);(try clear hk);(try clear hi);(try clear ho0)))
          go_meet
          case rel=>exact⟨_,(t491),(t489),(t490),H',⟨by have:=HK1.out;have:=HJ12.out;first | omega|exact Nat.le_refl _⟩,⟨(a28_ HO493.out)⟩,⟨(a5_ HI0.out)⟩,⟨a6_⟩,⟨(a7_ HI0.out)⟩⟩
         ·replace c20:=Bool.eq_false_iff.mpr c20
          subst c20
          replace H:(spec_l1Cur_changed.j2 kj12 x5_1 x6_1 s0_0 x1001_12 x1002_12)=some (r1,r2,r3):=by rw[if_neg (show ¬(false=true) by decide)]at H;exact H
          have H':=am_ H
          clear H
          go_wp2
          go_meet
          case rel=>exact⟨_,(x5_1),(x1001_12),(x1002_12),H',⟨by have:=HK1.out;have:=HJ12.out;first | omega|exact Nat.le_refl _⟩,⟨(a0_ HO_5.out)⟩,⟨(a5_ HI0.out)⟩,⟨a6_⟩,⟨(a7_ HI0.out)⟩⟩
        case rest=>
         clear HC19
         try clear c1
         try clear c2
         try clear p2
         try clear c3
         try clear c5
         try clear c6
         try clear c10
         try clear c12
         try clear c12b0
         try clear c14
         try clear c14b0
         try clear c14b1
         try clear c20
         try clear p2
         obtain⟨kq,x5_18,x1001_18,x1002_18,HA,HJ18,HO_5,HI0,HK,HB⟩:=hcut
         cases kq with
         | zero=>exact absurd HA.out (by simp[spec_l1Cur_changed.j2])
         | succ kj18=>
          have H:=HA.out
          clear HA
          simp only[spec_l1Cur_changed.j2]at H
          obtain⟨⟨t494,t495,t496,t497,t498⟩,A26,H⟩:=bo_ H
          try dsimp only at H
          obtain⟨⟨t499,t502⟩,A27,H⟩:=bo_ H
          try dsimp only at H
          by_cases c28:t502=true
          ·subst c28
           replace H:(spec_l1Cur_changed.l0 kj18 t499 (wrap64 (x6_1-1)) s0_0 t497 t498)=some (r1,r2,r3):=by rw[if_pos rfl]at H;exact H
           have H':=am_ H
           clear H
           go_wp2_with (first|((with_reducible refine gate_callee (f:=101) rfl ?_);refine goesL_ (some 38) rfl rfl Try.func101 (by kernel_rfl) rfl #[.pointer (some ⟨g,0,none⟩)] rfl gd_ ?_;(with_reducible refine(spec_l1Cur_hole.calls g s0_0 x1001_18 x1002_18 t494 t495 t496 t497 t498 w0 _ ?side1 ?side2 A26.out).mono ?_);(case side1=>exact(a5_ HI0.out));(case side2=>exact(a7_ HI0.out));rintro e w29 ⟨rfl,hi,hb,hk⟩;refine⟨_,rfl,?_⟩;replace HO_5:=am_ (Kd.R_mono (Kd.R_keep (IsS76.apart (show IsS76 w0 _ g s0_0 x1001_18 x1002_18 from(a5_ HI0.out)) ((a0_ HO_5.out)) (by decide)) hk (fun _ h=>h.2)) (fun _ h=>h.1));replace HK:=am_ (KeepBut.trans (a6_) hk (.inl rfl));replace HB:=am_ (hb);replace HI0:=am_ (hi);(try clear hb);(try clear hb2);(try clear hk);(try clear hi);obtain⟨Ao30,co30,eo30⟩:=Kd.R_slice HO_5.out;subst eo30)|((with_reducible refine gate_callee (f:=88) rfl ?_);refine goesL_ (some 39) rfl rfl Try.func88 (by kernel_rfl) rfl #[.slice Ao30 x5_18.length co30, .agg #[.int .i64 t494, .int .i64 t495, .int .i64 t496]] rfl gd_ ?_;(with_reducible refine(spec_shWith.calls kj18 _ _ x5_18 t494 t495 t496 t499 true _ ?side1 ?side2 A27.out).mono ?_);(case side1=>exact(a4_ HO_5.out));(case side2=>exact(Kd.R_reads' HO_5.out).2.1);rintro e w31 ⟨v500,rfl,ho0,hb⟩;refine⟨_,rfl,?_⟩;have HO501:=am_ (Kd.R_lower (Kd.R_new' ho0 (Kd.R_lt ((a0_ HO_5.out)))) (keep_size (w:=w) (g:=g) (row:=none) (a6_)));replace HO_5:=am_ (Kd.R_elder' ((a0_ HO_5.out)) (Kd.R_base ho0) hb);replace HK:=am_ (KeepBut.trans (a6_) (KeepBut.of_below hb g none) (.inl rfl));replace HB:=am_ (below_step ((a7_ HI0.out)) hb);replace HI0:=am_ (IsS76.below ((a5_ HI0.out)) hb);(try clear hb);(try clear hb2);(try clear hk);(try clear hi);(try clear ho0)))
           go_roundg kj18
           case measure=>have:=HK1.out;have:=HJ12.out;have:=HJ18.out;omega
           case rel=>exact⟨(t499),(wrap64 (x6_1-1)),(t497),(t498),(by first | rfl|(simp;done)|(simp[*];done)),H',⟨by have:=HK1.out;have:=HJ12.out;have:=HJ18.out;omega⟩,⟨(a28_ HO501.out)⟩,⟨(a5_ HI0.out)⟩,⟨a6_⟩,⟨(a7_ HI0.out)⟩⟩
          ·replace c28:=Bool.eq_false_iff.mpr c28
           subst c28
           replace H:(spec_l1Cur_changed.l0 kj18 x5_18 (wrap64 (x6_1-1)) s0_0 t497 t498)=some (r1,r2,r3):=by rw[if_neg (show ¬(false=true) by decide)]at H;exact H
           have H':=am_ H
           clear H
           go_wp2_with (first|((with_reducible refine gate_callee (f:=101) rfl ?_);refine goesL_ (some 38) rfl rfl Try.func101 (by kernel_rfl) rfl #[.pointer (some ⟨g,0,none⟩)] rfl gd_ ?_;(with_reducible refine(spec_l1Cur_hole.calls g s0_0 x1001_18 x1002_18 t494 t495 t496 t497 t498 w0 _ ?side1 ?side2 A26.out).mono ?_);(case side1=>exact(a5_ HI0.out));(case side2=>exact(a7_ HI0.out));rintro e w32 ⟨rfl,hi,hb,hk⟩;refine⟨_,rfl,?_⟩;replace HO_5:=am_ (Kd.R_mono (Kd.R_keep (IsS76.apart (show IsS76 w0 _ g s0_0 x1001_18 x1002_18 from(a5_ HI0.out)) ((a0_ HO_5.out)) (by decide)) hk (fun _ h=>h.2)) (fun _ h=>h.1));replace HK:=am_ (KeepBut.trans (a6_) hk (.inl rfl));replace HB:=am_ (hb);replace HI0:=am_ (hi);(try clear hb);(try clear hb2);(try clear hk);(try clear hi);obtain⟨Ao33,co33,eo33⟩:=Kd.R_slice HO_5.out;subst eo33)|((with_reducible refine gate_callee (f:=88) rfl ?_);refine goesL_ (some 39) rfl rfl Try.func88 (by kernel_rfl) rfl #[.slice Ao33 x5_18.length co33, .agg #[.int .i64 t494, .int .i64 t495, .int .i64 t496]] rfl gd_ ?_;(with_reducible refine(spec_shWith.calls kj18 _ _ x5_18 t494 t495 t496 t499 false _ ?side1 ?side2 A27.out).mono ?_);(case side1=>exact(a4_ HO_5.out));(case side2=>exact(Kd.R_reads' HO_5.out).2.1);rintro e w34 ⟨v500,rfl,ho0,hb⟩;refine⟨_,rfl,?_⟩;have HO501:=am_ (Kd.R_lower (Kd.R_new' ho0 (Kd.R_lt ((a0_ HO_5.out)))) (keep_size (w:=w) (g:=g) (row:=none) (a6_)));replace HO_5:=am_ (Kd.R_elder' ((a0_ HO_5.out)) (Kd.R_base ho0) hb);replace HK:=am_ (KeepBut.trans (a6_) (KeepBut.of_below hb g none) (.inl rfl));replace HB:=am_ (below_step ((a7_ HI0.out)) hb);replace HI0:=am_ (IsS76.below ((a5_ HI0.out)) hb);(try clear hb);(try clear hb2);(try clear hk);(try clear hi);(try clear ho0)))
           go_roundg kj18
           case measure=>have:=HK1.out;have:=HJ12.out;have:=HJ18.out;omega
           case rel=>exact⟨(x5_18),(wrap64 (x6_1-1)),(t497),(t498),(by first | rfl|(simp;done)|(simp[*];done)),H',⟨by have:=HK1.out;have:=HJ12.out;have:=HJ18.out;omega⟩,⟨(a28_ HO_5.out)⟩,⟨(a5_ HI0.out)⟩,⟨a6_⟩,⟨(a7_ HI0.out)⟩⟩
     ·rw[if_neg c12]at H
      have c12b0:decide (0<x6_1)=false:=decide_eq_false c12
      clear c12
      simp only[Option.some.injEq,Prod.mk.injEq]at H
      obtain⟨rfl,rfl,rfl⟩:=H
      go_wp2
      go_ret
      exact⟨_,a12_,(a0_ HO_5.out),(a5_ HI0.out),(a7_ HI0.out),a6_⟩
  ·replace c5:=Bool.eq_false_iff.mpr c5
   subst c5
   replace H:(some (y478,s0_1,s0_2))=some (r1,r2,r3):=by rw[if_neg (show ¬(false=true) by decide)]at H;exact H
   simp only[Option.some.injEq,Prod.mk.injEq]at H
   obtain⟨rfl,rfl,rfl⟩:=H
   go_enter Try.func58,Try.ntmps58
   go_wp2_with (first|((with_reducible refine gate_dst (N:=9) rfl ?_);refine Kd.R_lit k42 _ 42 ?hg (N:=9) ?hd (xs:=([]:List (S42))) (inner:=[]) (ok:=fun _=>True) (okp:=fun _=>True) ?hr ?hp (fun _ hk=>hk) trivial (Below.refl _ _) (Nat.le_refl _) (by simp) ?_;(case hd=>rfl);(case hg=>rfl);(case hr=>exact hr_);(case hp=>exact(Reps.none _ _));intro v476 w35 ho36 hb hg_ hnew_;clear hg_ hnew_;(first|rw[← Ny475.out]at ho36|(simp only[Int.reduceToNat]at ho36;rw[← Ny475.out]at ho36));have HO477:=am_ (Kd.R_lower ho36 (keep_size (w:=w) (g:=g) (row:=none) (a6_)));replace HK:=am_ (KeepBut.trans (a6_) (KeepBut.of_below hb g none) (.inl rfl));replace HB:=am_ (below_step ((a7_ HI0.out)) hb);replace HI0:=am_ (IsS76.below ((a5_ HI0.out)) hb);clear hb ho36)|((with_reducible refine gate_builtin (b:= .append) (xs:= #[.tmp 9, .tmp 10]) rfl ?_);at_builtin;refine Kd.R_append_rows k42 w.heap.size rfl (.tmp 9) (.tmp 10) 32 42 (.agg #[(.int .i64 0),(.int .i64 0),(.int .i64 0)]) 24 rfl Try.underlying32 info42 rfl (by decide) (by omega) v476 y475 l1 _ _ _ (fun _=>True) (fun _=>False) rfl rfl ?aO ?aR (fun _ _ h=>h) (fun _ h=>h.elim) ?aF (Below.refl _ _) ?aS ?aL ?_;(case aR=>exact Kd.C_foot_now HR1.out (a6_));(case aF=>exact(fun _ _=>trivial));(case aO=>exact((a0_ HO477.out)));(case aS=>exact(keep_size (w:=w) (g:=g) (row:=none) (a6_)));(case aL=>have:=LMc3.out;omega);intro v479 w37 ho hb hg hat;rw[← Ny478.out]at ho;have n0_:=am_ (IsS76.grown ((a5_ HI0.out)) hg (IsS76.own_ne HI0.out HO477.out (by decide)));have n1_:=am_ (below_weaken ((a7_ HI0.out)) HL.out hb);have n2_:=am_ (KeepBut.trans (a6_) (KeepBut.of_grown hg g) (Kd.R_base2 HO477.out));have n3_:=am_ (ho);clear HI0 HB HK HO477;have HI0:=n0_;have HB:=n1_;have HK:=n2_;have HO480:=n3_;clear n0_ n1_ n2_ n3_ ho hb hg hat)|((with_reducible refine gate_callee (f:=62) rfl ?_);refine goesL_ (some 13) rfl rfl Try.func62 (by kernel_rfl) rfl #[.slice A1 l1.length c1] rfl gd_ ?_;(with_reducible refine(spec_shGood.calls k _ _ l1 false _ ?side1 ?side2 A4.out).mono ?_);(case side1=>exact Kd.C_foot_now HR1.out (a6_));(case side2=>exact HC1.out);rintro e w38 ⟨rfl,hb⟩;refine⟨_,rfl,?_⟩;replace HO480:=am_ (Kd.R_below ((a0_ HO480.out)) hb);replace HK:=am_ (KeepBut.trans (a6_) (KeepBut.of_below hb g none) (.inl rfl));replace HB:=am_ (below_step ((a7_ HI0.out)) hb);replace HI0:=am_ (IsS76.below ((a5_ HI0.out)) hb);(try clear hb);(try clear hb2);(try clear hk);(try clear hi)))
   go_ret
   exact⟨_,a12_,(a0_ HO480.out),(a5_ HI0.out),(a7_ HI0.out),a6_⟩
 ·rw[if_neg c3]at H
  exact absurd H (by simp)

/-! ### spec_DrawMergeSheets: function 39 -/
def spec_DrawMergeSheets.f (k:Nat) (l0:List Int):Option ((List (S42))×(List (S42))×(List (S42))):=(spec_l1Cur_anySheet.f k l0 0 0).bind fun bt504=>((spec_l1Cur_changed.f k l0 bt504.2.1 bt504.2.2 bt504.1).bind fun bt509=>((spec_l1Cur_changed.f k l0 bt509.2.1 bt509.2.2 bt504.1).bind fun bt514=>(some (bt504.1,bt509.1,bt514.1))))
theorem spec_DrawMergeSheets.mono:∀a0 k,LeO (spec_DrawMergeSheets.f k a0) (spec_DrawMergeSheets.f (k+1) a0):=by
 intro a0 k
 unfold spec_DrawMergeSheets.f
 repeat' first
  |(with_reducible exact spec_l1Cur_anySheet.mono _ _ _ _)
  |(with_reducible exact spec_l1Cur_changed.mono _ _ _ _ _)
  |(with_reducible exact LeO.refl _)
  |(with_reducible exact LeO.none _)
  |(with_reducible refine LeO.ite ?_ ?_)
  |(with_reducible refine LeO.bind ?_ (fun _=>?_))
  |exact spec_l1Cur_anySheet.mono _ _ _ _
  |exact spec_l1Cur_changed.mono _ _ _ _ _
  |exact LeO.none _
   | refine LeO.ite ?_ ?_
   | refine LeO.bind ?_ (fun _=>?_)
set_option maxHeartbeats 8000000 in
set_option maxRecDepth 100000 in
theorem spec_DrawMergeSheets.calls (k:Nat) (A0:Option Addr) (c0:Nat) (l0:List Int) (r1:List (S42)) (r2:List (S42)) (r3:List (S42)) (w:World) (hr0:Kd.C (Kd.int .u8) w A0 l0.length l0) (hc0:l0.length≤c0) (h:spec_DrawMergeSheets.f k l0=some (r1,r2,r3)) :
 Calls Try.prog 39 #[.slice A0 l0.length c0] w fun e w'=>∃v0_ v1_ v2_:Value,e = .returned (.tuple #[v0_,v1_,v2_])∧Kd.R k42 42 w' w.heap.size (fun k_=>some k_≠(v1_:Value).ownBlock∧some k_≠(v2_:Value).ownBlock) v0_ r1∧Kd.R k42 42 w' w.heap.size (fun k_=>some k_≠(v0_:Value).ownBlock∧some k_≠(v2_:Value).ownBlock) v1_ r2∧Kd.R k42 42 w' w.heap.size (fun k_=>some k_≠(v0_:Value).ownBlock∧some k_≠(v1_:Value).ownBlock) v2_ r3∧Below w.heap.size w w':=by
 have hu76:=Try.underlying76
 have HR0:=am_ hr0
 have HC0:=am_ hc0
 clear hr0 hc0
 have HB:=am_ (Below.refl w.heap.size w)
 have H:((spec_l1Cur_anySheet.f k l0 0 0).bind fun bt504=>((spec_l1Cur_changed.f k l0 bt504.2.1 bt504.2.2 bt504.1).bind fun bt509=>((spec_l1Cur_changed.f k l0 bt509.2.1 bt509.2.2 bt504.1).bind fun bt514=>(some (bt504.1,bt509.1,bt514.1)))))=some (r1,r2,r3):=h
 clear h
 obtain⟨⟨t504,t507,t508⟩,A2,H⟩:=bo_ H
 try dsimp only at H
 obtain⟨⟨t509,t512,t513⟩,A3,H⟩:=bo_ H
 try dsimp only at H
 obtain⟨⟨t514,t517,t518⟩,A4,H⟩:=bo_ H
 try dsimp only at H
 simp only[Option.some.injEq,Prod.mk.injEq]at H
 obtain⟨rfl,rfl,rfl⟩:=H
 go_enter Try.func39,Try.ntmps39
 go_wp2_with (first|((with_reducible refine gate_dst (N:=9) rfl ?_);refine box_event ?hg (N:=9) ?hd (cs:= #[.slice A0 l0.length c0, .int .i64 0, .int .u64 0]) (t:=76) ?hr ?_;(case hd=>rfl);(case hg=>rfl);(case hr=>exact hr_);intro g503 hg w5 hbox hb;have HI503:=am_ ((⟨_,_,hbox,by rw[hg];exact(below_size (a1_)),HR0.out⟩:IsS76 w w5 g503 l0 0 0));replace HB:=am_ (below_step (a1_) hb);clear hb hbox hg)|((with_reducible refine gate_callee (f:=54) rfl ?_);refine goesL_ (some 11) rfl rfl Try.func54 (by kernel_rfl) rfl #[.pointer (some ⟨g503,0,none⟩)] rfl gd_ ?_;(with_reducible refine(spec_l1Cur_anySheet.calls k g503 l0 0 0 t504 t507 t508 w _ ?side1 ?side2 A2.out).mono ?_);(case side1=>exact(a5_ HI503.out));(case side2=>exact(a7_ HI503.out));rintro e w6 ⟨v505,rfl,ho0,hi,hb,hk⟩;refine⟨_,rfl,?_⟩;have HO506:=am_ (Kd.R_lower ho0 (below_size ((a7_ HI503.out))));replace HB:=am_ (hb);replace HI503:=am_ (hi);(try clear hb);(try clear hb2);(try clear hk);(try clear hi);(try clear ho0);obtain⟨Ao7,co7,eo7⟩:=Kd.R_slice HO506.out;subst eo7)|((with_reducible refine gate_callee (f:=58) rfl ?_);refine goesL_ (some 15) rfl rfl Try.func58 (by kernel_rfl) rfl #[.pointer (some ⟨g503,0,none⟩), .slice Ao7 t504.length co7] rfl gd_ ?_;(with_reducible refine(spec_l1Cur_changed.calls k g503 l0 t507 t508 _ _ t504 t509 t512 t513 w _ ?side1 ?side2 ?side3 ?side4 A3.out).mono ?_);(case side1=>exact(a5_ HI503.out));(case side2=>exact(a7_ HI503.out));(case side3=>exact Kd.C_foot_own (IsS76.apart (show IsS76 w _ g503 l0 t507 t508 from(a5_ HI503.out)) ((a0_ HO506.out)) (by decide)) (fun _ h_=>h_.2));(case side4=>exact(Kd.R_reads' HO506.out).2.1);rintro e w8 ⟨v510,rfl,ho0,hi,hb,hk⟩;refine⟨_,rfl,?_⟩;have HO511:=am_ (Kd.R_lower (Kd.R_new' ho0 (Kd.R_lt ((a0_ HO506.out)))) (below_size ((a7_ HI503.out))));replace HO506:=am_ (Kd.R_mono (Kd.R_told (Kd.R_oldK (IsS76.apart (show IsS76 w _ g503 l0 t507 t508 from(a5_ HI503.out)) ((a0_ HO506.out)) (by decide)) hk) (Kd.R_base ho0)) (fun _ h_=>h_.1));replace HB:=am_ (hb);replace HI503:=am_ (hi);(try clear hb);(try clear hb2);(try clear hk);(try clear hi);(try clear ho0))|((with_reducible refine gate_callee (f:=58) rfl ?_);refine goesL_ (some 18) rfl rfl Try.func58 (by kernel_rfl) rfl #[.pointer (some ⟨g503,0,none⟩), .slice Ao7 t504.length co7] rfl gd_ ?_;(with_reducible refine(spec_l1Cur_changed.calls k g503 l0 t512 t513 _ _ t504 t514 t517 t518 w _ ?side1 ?side2 ?side3 ?side4 A4.out).mono ?_);(case side1=>exact(a5_ HI503.out));(case side2=>exact(a7_ HI503.out));(case side3=>exact Kd.C_foot_own (IsS76.apart (show IsS76 w _ g503 l0 t512 t513 from(a5_ HI503.out)) ((a0_ HO506.out)) (by decide)) (fun _ h_=>h_.2));(case side4=>exact(Kd.R_reads' HO506.out).2.1);rintro e w9 ⟨v515,rfl,ho0,hi,hb,hk⟩;refine⟨_,rfl,?_⟩;have HO516:=am_ (Kd.R_lower (Kd.R_new' (Kd.R_new' ho0 (Kd.R_lt ((a0_ HO506.out)))) (Kd.R_lt ((a0_ HO511.out)))) (below_size ((a7_ HI503.out))));replace HO506:=am_ (Kd.R_mono (Kd.R_told (Kd.R_oldK (IsS76.apart (show IsS76 w _ g503 l0 t512 t513 from(a5_ HI503.out)) ((a0_ HO506.out)) (by decide)) hk) (Kd.R_base ho0)) (fun _ h_=>h_.1));replace HO511:=am_ (Kd.R_mono (Kd.R_told (Kd.R_oldK (IsS76.apart (show IsS76 w _ g503 l0 t512 t513 from(a5_ HI503.out)) ((a0_ HO511.out)) (by decide)) hk) (Kd.R_base ho0)) (fun _ h_=>h_.1));replace HB:=am_ (hb);replace HI503:=am_ (hi);(try clear hb);(try clear hb2);(try clear hk);(try clear hi);(try clear ho0)))
 go_ret3
 exact⟨_,_,_,a12_,(a34_ HO506.out),(a34_ HO511.out),(a34_ HO516.out),(a7_ HI503.out)⟩

/-! ### impl_clash: function 89 -/
def impl_clash.f (a0_0:Int) (a0_1:Int) (a0_2:Int) (a1_0:Int) (a1_1:Int) (a1_2:Int):Option (Bool):=if(!(a0_0 == a1_0) || (!(a0_1 == a1_1) || (!(a0_2 == a1_2))))=true then(if a0_0=a1_0 then(if a0_2≥a1_1 then(some (decide (a1_2≥a0_1))) else(some false)) else(some false)) else(some false)
set_option maxHeartbeats 8000000 in
set_option maxRecDepth 100000 in
theorem impl_clash.calls (a0_0:Int) (a0_1:Int) (a0_2:Int) (a1_0:Int) (a1_1:Int) (a1_2:Int) (r:Bool) (w:World) (h:impl_clash.f a0_0 a0_1 a0_2 a1_0 a1_1 a1_2=some r) :
 Calls Try.prog 89 #[.agg #[.int .i64 a0_0, .int .i64 a0_1, .int .i64 a0_2], .agg #[.int .i64 a1_0, .int .i64 a1_1, .int .i64 a1_2]] w fun e w'=>e = .returned (.bool r)∧Below w.heap.size w w':=by
 have hu42:=Try.underlying42
 have HB:=am_ (Below.refl w.heap.size w)
 have H:(if(!(a0_0 == a1_0) || (!(a0_1 == a1_1) || (!(a0_2 == a1_2))))=true then(if a0_0=a1_0 then(if a0_2≥a1_1 then(some (decide (a1_2≥a0_1))) else(some false)) else(some false)) else(some false))=some r:=h
 clear h
 by_cases c3:(!(a0_0 == a1_0) || (!(a0_1 == a1_1) || (!(a0_2 == a1_2))))=true
 ·rw[if_pos c3]at H
  have c3b0:(!(a0_0 == a1_0) || (!(a0_1 == a1_1) || (!(a0_2 == a1_2))))=true:=c3
  clear c3
  by_cases c4:a0_0=a1_0
  ·rw[if_pos c4]at H
   have c4b0:(a0_0 == a1_0)=true:=beq_iff_eq.mpr c4
   have c4b1:(a0_0 != a1_0)=false:=bne_eq_false_iff_eq.mpr c4
   simp only[c4b0,Bool.not_true,Bool.false_or]at c3b0
   clear c4
   by_cases c5:a0_2≥a1_1
   ·rw[if_pos c5]at H
    have c5b0:decide (a1_1≤a0_2)=true:=decide_eq_true c5
    clear c5
    obtain rfl:=Option.some.inj H
    go_enter Try.func89,Try.ntmps89
    go_wp2_with (first|((with_reducible refine gate_dst (N:=2) rfl ?_);refine box_event ?hg (N:=2) ?hd (cs:= #[.int .i64 a0_0, .int .i64 a0_1, .int .i64 a0_2]) (t:=42) ?hr ?_;(case hd=>rfl);(case hg=>rfl);(case hr=>exact hr_);intro gb519 hg w6 hbox hb;have BK519:=am_ (hbox);have GW519:=am_ ((by rw[hg];exact(below_size (a1_)):w.heap.size≤gb519));have GE519:=am_ ((by rw[hg];exact(below_size (a1_)):w.heap.size≤gb519));replace HB:=am_ (below_step (a1_) hb);clear hb hbox hg)|((with_reducible refine gate_dst (N:=3) rfl ?_);refine box_event ?hg (N:=3) ?hd (cs:= #[.int .i64 a1_0, .int .i64 a1_1, .int .i64 a1_2]) (t:=42) ?hr ?_;(case hd=>rfl);(case hg=>rfl);(case hr=>exact hr_);intro gb520 hg w7 hbox hb;have BK520:=am_ (hbox);have GW520:=am_ ((by rw[hg];exact(below_size ((a2_ GE519.out))):w.heap.size≤gb520));have GE520:=am_ ((by rw[hg];exact(below_size ((a2_ GE519.out))):w.heap.size≤gb520));replace HB:=am_ (below_step ((a2_ GE519.out)) hb);have NB519_520:=am_ ((by rw[hg];exact Nat.ne_of_lt (blk_lt (g:=gb519) (o:= .cells #[.int .i64 a0_0, .int .i64 a0_1, .int .i64 a0_2] 42 (0,0)) ((a3_ BK519.out))):gb519≠gb520));have NB520_519:=am_ ((by rw[hg];exact Nat.ne_of_gt (blk_lt (g:=gb519) (o:= .cells #[.int .i64 a0_0, .int .i64 a0_1, .int .i64 a0_2] 42 (0,0)) ((a3_ BK519.out))):gb520≠gb519));replace BK519:=am_ (blk_below (g:=gb519) (o:= .cells #[.int .i64 a0_0, .int .i64 a0_1, .int .i64 a0_2] 42 (0,0)) ((a3_ BK519.out)) hb);clear hb hbox hg;have hnb8:=NB519_520.out;have hnc8:=NB520_519.out;have hcz9_0:w7.cell? ⟨gb519,0,none⟩=some (.int .i64 a0_0):=(blk_cell BK519.out 0).trans rfl;have hcz9_1:w7.cell? ⟨gb519,1,none⟩=some (.int .i64 a0_1):=(blk_cell BK519.out 1).trans rfl;have hcz9_2:w7.cell? ⟨gb519,2,none⟩=some (.int .i64 a0_2):=(blk_cell BK519.out 2).trans rfl;have hfz9_0:=blk_frozen BK519.out 0;have hfz9_1:=blk_frozen BK519.out 1;have hfz9_2:=blk_frozen BK519.out 2;have hcz10_0:w7.cell? ⟨gb520,0,none⟩=some (.int .i64 a1_0):=(blk_cell BK520.out 0).trans rfl;have hcz10_1:w7.cell? ⟨gb520,1,none⟩=some (.int .i64 a1_1):=(blk_cell BK520.out 1).trans rfl;have hcz10_2:w7.cell? ⟨gb520,2,none⟩=some (.int .i64 a1_2):=(blk_cell BK520.out 2).trans rfl;have hfz10_0:=blk_frozen BK520.out 0;have hfz10_1:=blk_frozen BK520.out 1;have hfz10_2:=blk_frozen BK520.out 2))
    go_ret
    exact⟨a12_,(a14_ GE519.out GE520.out)⟩
   ·rw[if_neg c5]at H
    have c5b0:decide (a1_1≤a0_2)=false:=decide_eq_false c5
    clear c5
    obtain rfl:=Option.some.inj H
    go_enter Try.func89,Try.ntmps89
    go_wp2_with (first|((with_reducible refine gate_dst (N:=2) rfl ?_);refine box_event ?hg (N:=2) ?hd (cs:= #[.int .i64 a0_0, .int .i64 a0_1, .int .i64 a0_2]) (t:=42) ?hr ?_;(case hd=>rfl);(case hg=>rfl);(case hr=>exact hr_);intro gb519 hg w11 hbox hb;have BK519:=am_ (hbox);have GW519:=am_ ((by rw[hg];exact(below_size (a1_)):w.heap.size≤gb519));have GE519:=am_ ((by rw[hg];exact(below_size (a1_)):w.heap.size≤gb519));replace HB:=am_ (below_step (a1_) hb);clear hb hbox hg)|((with_reducible refine gate_dst (N:=3) rfl ?_);refine box_event ?hg (N:=3) ?hd (cs:= #[.int .i64 a1_0, .int .i64 a1_1, .int .i64 a1_2]) (t:=42) ?hr ?_;(case hd=>rfl);(case hg=>rfl);(case hr=>exact hr_);intro gb520 hg w12 hbox hb;have BK520:=am_ (hbox);have GW520:=am_ ((by rw[hg];exact(below_size ((a2_ GE519.out))):w.heap.size≤gb520));have GE520:=am_ ((by rw[hg];exact(below_size ((a2_ GE519.out))):w.heap.size≤gb520));replace HB:=am_ (below_step ((a2_ GE519.out)) hb);have NB519_520:=am_ ((by rw[hg];exact Nat.ne_of_lt (blk_lt (g:=gb519) (o:= .cells #[.int .i64 a0_0, .int .i64 a0_1, .int .i64 a0_2] 42 (0,0)) ((a3_ BK519.out))):gb519≠gb520));have NB520_519:=am_ ((by rw[hg];exact Nat.ne_of_gt (blk_lt (g:=gb519) (o:= .cells #[.int .i64 a0_0, .int .i64 a0_1, .int .i64 a0_2] 42 (0,0)) ((a3_ BK519.out))):gb520≠gb519));replace BK519:=am_ (blk_below (g:=gb519) (o:= .cells #[.int .i64 a0_0, .int .i64 a0_1, .int .i64 a0_2] 42 (0,0)) ((a3_ BK519.out)) hb);clear hb hbox hg;have hnb13:=NB519_520.out;have hnc13:=NB520_519.out;have hcz14_0:w12.cell? ⟨gb519,0,none⟩=some (.int .i64 a0_0):=(blk_cell BK519.out 0).trans rfl;have hcz14_1:w12.cell? ⟨gb519,1,none⟩=some (.int .i64 a0_1):=(blk_cell BK519.out 1).trans rfl;have hcz14_2:w12.cell? ⟨gb519,2,none⟩=some (.int .i64 a0_2):=(blk_cell BK519.out 2).trans rfl;have hfz14_0:=blk_frozen BK519.out 0;have hfz14_1:=blk_frozen BK519.out 1;have hfz14_2:=blk_frozen BK519.out 2;have hcz15_0:w12.cell? ⟨gb520,0,none⟩=some (.int .i64 a1_0):=(blk_cell BK520.out 0).trans rfl;have hcz15_1:w12.cell? ⟨gb520,1,none⟩=some (.int .i64 a1_1):=(blk_cell BK520.out 1).trans rfl;have hcz15_2:w12.cell? ⟨gb520,2,none⟩=some (.int .i64 a1_2):=(blk_cell BK520.out 2).trans rfl;have hfz15_0:=blk_frozen BK520.out 0;have hfz15_1:=blk_frozen BK520.out 1;have hfz15_2:=blk_frozen BK520.out 2))
    go_ret
    exact⟨a12_,(a14_ GE519.out GE520.out)⟩
  ·rw[if_neg c4]at H
   have c4b0:(a0_0 == a1_0)=false:=beq_eq_false_iff_ne.mpr c4
   have c4b1:(a0_0 != a1_0)=true:=bne_iff_ne.mpr c4
   obtain rfl:=Option.some.inj H
   go_enter Try.func89,Try.ntmps89
   go_wp2_with (first|((with_reducible refine gate_dst (N:=2) rfl ?_);refine box_event ?hg (N:=2) ?hd (cs:= #[.int .i64 a0_0, .int .i64 a0_1, .int .i64 a0_2]) (t:=42) ?hr ?_;(case hd=>rfl);(case hg=>rfl);(case hr=>exact hr_);intro gb519 hg w16 hbox hb;have BK519:=am_ (hbox);have GW519:=am_ ((by rw[hg];exact(below_size (a1_)):w.heap.size≤gb519));have GE519:=am_ ((by rw[hg];exact(below_size (a1_)):w.heap.size≤gb519));replace HB:=am_ (below_step (a1_) hb);clear hb hbox hg)|((with_reducible refine gate_dst (N:=3) rfl ?_);refine box_event ?hg (N:=3) ?hd (cs:= #[.int .i64 a1_0, .int .i64 a1_1, .int .i64 a1_2]) (t:=42) ?hr ?_;(case hd=>rfl);(case hg=>rfl);(case hr=>exact hr_);intro gb520 hg w17 hbox hb;have BK520:=am_ (hbox);have GW520:=am_ ((by rw[hg];exact(below_size ((a2_ GE519.out))):w.heap.size≤gb520));have GE520:=am_ ((by rw[hg];exact(below_size ((a2_ GE519.out))):w.heap.size≤gb520));replace HB:=am_ (below_step ((a2_ GE519.out)) hb);have NB519_520:=am_ ((by rw[hg];exact Nat.ne_of_lt (blk_lt (g:=gb519) (o:= .cells #[.int .i64 a0_0, .int .i64 a0_1, .int .i64 a0_2] 42 (0,0)) ((a3_ BK519.out))):gb519≠gb520));have NB520_519:=am_ ((by rw[hg];exact Nat.ne_of_gt (blk_lt (g:=gb519) (o:= .cells #[.int .i64 a0_0, .int .i64 a0_1, .int .i64 a0_2] 42 (0,0)) ((a3_ BK519.out))):gb520≠gb519));replace BK519:=am_ (blk_below (g:=gb519) (o:= .cells #[.int .i64 a0_0, .int .i64 a0_1, .int .i64 a0_2] 42 (0,0)) ((a3_ BK519.out)) hb);clear hb hbox hg;have hnb18:=NB519_520.out;have hnc18:=NB520_519.out;have hcz19_0:w17.cell? ⟨gb519,0,none⟩=some (.int .i64 a0_0):=(blk_cell BK519.out 0).trans rfl;have hcz19_1:w17.cell? ⟨gb519,1,none⟩=some (.int .i64 a0_1):=(blk_cell BK519.out 1).trans rfl;have hcz19_2:w17.cell? ⟨gb519,2,none⟩=some (.int .i64 a0_2):=(blk_cell BK519.out 2).trans rfl;have hfz19_0:=blk_frozen BK519.out 0;have hfz19_1:=blk_frozen BK519.out 1;have hfz19_2:=blk_frozen BK519.out 2;have hcz20_0:w17.cell? ⟨gb520,0,none⟩=some (.int .i64 a1_0):=(blk_cell BK520.out 0).trans rfl;have hcz20_1:w17.cell? ⟨gb520,1,none⟩=some (.int .i64 a1_1):=(blk_cell BK520.out 1).trans rfl;have hcz20_2:w17.cell? ⟨gb520,2,none⟩=some (.int .i64 a1_2):=(blk_cell BK520.out 2).trans rfl;have hfz20_0:=blk_frozen BK520.out 0;have hfz20_1:=blk_frozen BK520.out 1;have hfz20_2:=blk_frozen BK520.out 2))
   go_ret
   exact⟨a12_,(a14_ GE519.out GE520.out)⟩
 ·rw[if_neg c3]at H
  have c3b0:(!(a0_0 == a1_0) || (!(a0_1 == a1_1) || (!(a0_2 == a1_2))))=false:=by simpa using c3
  clear c3
  obtain rfl:=Option.some.inj H
  go_enter Try.func89,Try.ntmps89
  go_wp2_with (first|((with_reducible refine gate_dst (N:=2) rfl ?_);refine box_event ?hg (N:=2) ?hd (cs:= #[.int .i64 a0_0, .int .i64 a0_1, .int .i64 a0_2]) (t:=42) ?hr ?_;(case hd=>rfl);(case hg=>rfl);(case hr=>exact hr_);intro gb519 hg w21 hbox hb;have BK519:=am_ (hbox);have GW519:=am_ ((by rw[hg];exact(below_size (a1_)):w.heap.size≤gb519));have GE519:=am_ ((by rw[hg];exact(below_size (a1_)):w.heap.size≤gb519));replace HB:=am_ (below_step (a1_) hb);clear hb hbox hg)|((with_reducible refine gate_dst (N:=3) rfl ?_);refine box_event ?hg (N:=3) ?hd (cs:= #[.int .i64 a1_0, .int .i64 a1_1, .int .i64 a1_2]) (t:=42) ?hr ?_;(case hd=>rfl);(case hg=>rfl);(case hr=>exact hr_);intro gb520 hg w22 hbox hb;have BK520:=am_ (hbox);have GW520:=am_ ((by rw[hg];exact(below_size ((a2_ GE519.out))):w.heap.size≤gb520));have GE520:=am_ ((by rw[hg];exact(below_size ((a2_ GE519.out))):w.heap.size≤gb520));replace HB:=am_ (below_step ((a2_ GE519.out)) hb);have NB519_520:=am_ ((by rw[hg];exact Nat.ne_of_lt (blk_lt (g:=gb519) (o:= .cells #[.int .i64 a0_0, .int .i64 a0_1, .int .i64 a0_2] 42 (0,0)) ((a3_ BK519.out))):gb519≠gb520));have NB520_519:=am_ ((by rw[hg];exact Nat.ne_of_gt (blk_lt (g:=gb519) (o:= .cells #[.int .i64 a0_0, .int .i64 a0_1, .int .i64 a0_2] 42 (0,0)) ((a3_ BK519.out))):gb520≠gb519));replace BK519:=am_ (blk_below (g:=gb519) (o:= .cells #[.int .i64 a0_0, .int .i64 a0_1, .int .i64 a0_2] 42 (0,0)) ((a3_ BK519.out)) hb);clear hb hbox hg;have hnb23:=NB519_520.out;have hnc23:=NB520_519.out;have hcz24_0:w22.cell? ⟨gb519,0,none⟩=some (.int .i64 a0_0):=(blk_cell BK519.out 0).trans rfl;have hcz24_1:w22.cell? ⟨gb519,1,none⟩=some (.int .i64 a0_1):=(blk_cell BK519.out 1).trans rfl;have hcz24_2:w22.cell? ⟨gb519,2,none⟩=some (.int .i64 a0_2):=(blk_cell BK519.out 2).trans rfl;have hfz24_0:=blk_frozen BK519.out 0;have hfz24_1:=blk_frozen BK519.out 1;have hfz24_2:=blk_frozen BK519.out 2;have hcz25_0:w22.cell? ⟨gb520,0,none⟩=some (.int .i64 a1_0):=(blk_cell BK520.out 0).trans rfl;have hcz25_1:w22.cell? ⟨gb520,1,none⟩=some (.int .i64 a1_1):=(blk_cell BK520.out 1).trans rfl;have hcz25_2:w22.cell? ⟨gb520,2,none⟩=some (.int .i64 a1_2):=(blk_cell BK520.out 2).trans rfl;have hfz25_0:=blk_frozen BK520.out 0;have hfz25_1:=blk_frozen BK520.out 1;have hfz25_2:=blk_frozen BK520.out 2))
  go_ret
  exact⟨a12_,(a14_ GE519.out GE520.out)⟩

/-! ### impl_ClashingHoles: function 40 -/
mutual
def impl_ClashingHoles.j0:Nat→List (S42)→List (S42)→List (S42)→Bool→Option ((List (List (S42)))×Bool)
 | 0,_,_,_,_=>none
 | k+1,x0,x1,x2,x25=>if x25=true then(some (([]:List (List (S42))),false)) else((impl_lessHoles.f x1 x0).bind fun t527=>(impl_ClashingHoles.l0 k x0 x2 (([]:List (List (S42)))) t527 (t527.length:Int) 0))
def impl_ClashingHoles.l0:Nat→List (S42)→List (S42)→List (List (S42))→List (S42)→Int→Int→Option ((List (List (S42)))×Bool)
 | 0,_,_,_,_,_,_=>none
 | k+1,x0,x2,x8,x29,x30,x31=>if x31<x30 then(if 0≤x31 then(if x31<(x29.length:Int) then((impl_lessHoles.f x2 x0).bind fun t532=>(impl_ClashingHoles.l1 k x0 x2 x8 x29 x30 x31 t532 (t532.length:Int) 0 ((rd_T42 x29 x31).f0) ((rd_T42 x29 x31).f1) ((rd_T42 x29 x31).f2))) else(none)) else(none)) else(some (x8,true))
def impl_ClashingHoles.l1:Nat→List (S42)→List (S42)→List (List (S42))→List (S42)→Int→Int→List (S42)→Int→Int→Int→Int→Int→Option ((List (List (S42)))×Bool)
 | 0,_,_,_,_,_,_,_,_,_,_,_,_=>none
 | k+1,x0,x2,x8,x29,x30,x31,x37,x38,x39,x532000,x532001,x532002=>if x39<x38 then(if 0≤x39 then(if x39<(x37.length:Int) then((impl_clash.f x532000 x532001 x532002 ((rd_T42 x37 x39).f0) ((rd_T42 x37 x39).f1) ((rd_T42 x37 x39).f2)).bind fun t537=>(if t537=true then(if x8.length<5864062014805 then(impl_ClashingHoles.l1 k x0 x2 (x8 ++ [(([(⟨x532000,x532001,x532002⟩:S42),(⟨(rd_T42 x37 x39).f0,(rd_T42 x37 x39).f1,(rd_T42 x37 x39).f2⟩:S42)]:List (S42)))]) x29 x30 x31 x37 x38 (wrap64 (x39+1)) x532000 x532001 x532002) else(none)) else(impl_ClashingHoles.l1 k x0 x2 x8 x29 x30 x31 x37 x38 (wrap64 (x39+1)) x532000 x532001 x532002))) else(none)) else(none)) else(impl_ClashingHoles.l0 k x0 x2 x8 x29 x30 (wrap64 (x31+1)))
end
def impl_ClashingHoles.f (k:Nat) (l0:List (S42)) (l1:List (S42)) (l2:List (S42)):Option ((List (List (S42)))×Bool):=(impl_IsSheet.f k l0).bind fun t521=>(if t521=true then((impl_IsSheet.f k l1).bind fun t522=>(if t522=true then((impl_IsSheet.f k l2).bind fun t523=>(impl_ClashingHoles.j0 k l0 l1 l2 (!t523))) else(impl_ClashingHoles.j0 k l0 l1 l2 true))) else(impl_ClashingHoles.j0 k l0 l1 l2 true))
theorem impl_ClashingHoles.mono_l:∀k,(∀y0 y1 y2 y3,LeO (impl_ClashingHoles.j0 k y0 y1 y2 y3) (impl_ClashingHoles.j0 (k+1) y0 y1 y2 y3))∧(∀y0 y1 y2 y3 y4 y5,LeO (impl_ClashingHoles.l0 k y0 y1 y2 y3 y4 y5) (impl_ClashingHoles.l0 (k+1) y0 y1 y2 y3 y4 y5))∧(∀y0 y1 y2 y3 y4 y5 y6 y7 y8 y9 y10 y11,LeO (impl_ClashingHoles.l1 k y0 y1 y2 y3 y4 y5 y6 y7 y8 y9 y10 y11) (impl_ClashingHoles.l1 (k+1) y0 y1 y2 y3 y4 y5 y6 y7 y8 y9 y10 y11))
 | 0=>⟨fun _ _ _ _ r h=>by simp[impl_ClashingHoles.j0]at h,fun _ _ _ _ _ _ r h=>by simp[impl_ClashingHoles.l0]at h,fun _ _ _ _ _ _ _ _ _ _ _ _ r h=>by simp[impl_ClashingHoles.l1]at h⟩
 | k+1=>by
  obtain⟨ih0,ih1,ih2⟩:=impl_ClashingHoles.mono_l k
  refine⟨?_,?_,?_⟩
  intros
  unfold impl_ClashingHoles.j0
  rotate_left
  intros
  unfold impl_ClashingHoles.l0
  rotate_left
  intros
  unfold impl_ClashingHoles.l1
  rotate_left
  all_goals repeat' first|(with_reducible first|exact ih0 _ _ _ _|exact ih1 _ _ _ _ _ _|exact ih2 _ _ _ _ _ _ _ _ _ _ _ _|exact impl_IsSheet.mono _ _|exact LeO.refl _|exact LeO.none _|refine LeO.ite ?_ ?_|refine LeO.bind ?_ (fun _=>?_))|exact ih0 _ _ _ _|exact ih1 _ _ _ _ _ _|exact ih2 _ _ _ _ _ _ _ _ _ _ _ _|exact impl_IsSheet.mono _ _|exact LeO.none _|refine LeO.ite ?_ ?_|refine LeO.bind ?_ (fun _=>?_)
theorem impl_ClashingHoles.mono:∀a0 a1 a2 k,LeO (impl_ClashingHoles.f k a0 a1 a2) (impl_ClashingHoles.f (k+1) a0 a1 a2):=by
 intro a0 a1 a2 k
 obtain⟨ih0,ih1,ih2⟩:=impl_ClashingHoles.mono_l k
 unfold impl_ClashingHoles.f
 repeat' first
  |(with_reducible exact ih0 _ _ _ _)
  |(with_reducible exact ih1 _ _ _ _ _ _)
  |(with_reducible exact ih2 _ _ _ _ _ _ _ _ _ _ _ _)
  |(with_reducible exact impl_IsSheet.mono _ _)
  |(with_reducible exact LeO.refl _)
  |(with_reducible exact LeO.none _)
  |(with_reducible refine LeO.ite ?_ ?_)
  |(with_reducible refine LeO.bind ?_ (fun _=>?_))
  |exact ih0 _ _ _ _
  |exact ih1 _ _ _ _ _ _
  |exact ih2 _ _ _ _ _ _ _ _ _ _ _ _
  |exact impl_IsSheet.mono _ _
  |exact LeO.none _
   | refine LeO.ite ?_ ?_
   | refine LeO.bind ?_ (fun _=>?_)
set_option maxHeartbeats 8000000 in
set_option maxRecDepth 100000 in
theorem impl_ClashingHoles.calls (k:Nat) (A0:Option Addr) (c0:Nat) (l0:List (S42)) (A1:Option Addr) (c1:Nat) (l1:List (S42)) (A2:Option Addr) (c2:Nat) (l2:List (S42)) (r1:List (List (S42))) (r2:Bool) (w:World) (hr0:Kd.C k42 w A0 l0.length l0) (hc0:l0.length≤c0) (hr1:Kd.C k42 w A1 l1.length l1) (hc1:l1.length≤c1) (hr2:Kd.C k42 w A2 l2.length l2) (hc2:l2.length≤c2) (h:impl_ClashingHoles.f k l0 l1 l2=some (r1,r2)) :
 Calls Try.prog 40 #[.slice A0 l0.length c0, .slice A1 l1.length c1, .slice A2 l2.length c2] w fun e w'=>∃v0_:Value,e = .returned (.tuple #[v0_, .bool r2])∧Kd.S (Kd.slice 42 k42) 32 w' w.heap.size (fun _=>True) v0_ r1∧Below w.heap.size w w':=by
 have hu42:=Try.underlying42
 have HR0:=am_ hr0
 have HC0:=am_ hc0
 clear hr0 hc0
 have HR1:=am_ hr1
 have HC1:=am_ hc1
 clear hr1 hc1
 have HR2:=am_ hr2
 have HC2:=am_ hc2
 clear hr2 hc2
 have HB:=am_ (Below.refl w.heap.size w)
 have H:((impl_IsSheet.f k l0).bind fun t521=>(if t521=true then((impl_IsSheet.f k l1).bind fun t522=>(if t522=true then((impl_IsSheet.f k l2).bind fun t523=>(impl_ClashingHoles.j0 k l0 l1 l2 (!t523))) else(impl_ClashingHoles.j0 k l0 l1 l2 true))) else(impl_ClashingHoles.j0 k l0 l1 l2 true)))=some (r1,r2):=h
 clear h
 have HC4:=am_ H
 clear H
 go_enter Try.func40,Try.ntmps40
 go_upto_region 1 with (fail)
 go_cut [25] (fun v25 wc=>∃(kq:Nat) (x25_3:Bool),v25 = .bool x25_3∧Aside0 (impl_ClashingHoles.j0 kq l0 l1 l2 x25_3=some (r1,r2))∧Aside0 (kq≤k)∧Aside0 (Below w.heap.size w wc))
 case first=>
  have H:=HC4.out
  clear HC4
  obtain⟨t521,A5,H⟩:=bo_ H
  try dsimp only at H
  by_cases c6:t521=true
  ·subst c6
   replace H:((impl_IsSheet.f k l1).bind fun t522=>(if t522=true then((impl_IsSheet.f k l2).bind fun t523=>(impl_ClashingHoles.j0 k l0 l1 l2 (!t523))) else(impl_ClashingHoles.j0 k l0 l1 l2 true)))=some (r1,r2):=by rw[if_pos rfl]at H;exact H
   obtain⟨t522,A7,H⟩:=bo_ H
   try dsimp only at H
   by_cases c8:t522=true
   ·subst c8
    replace H:((impl_IsSheet.f k l2).bind fun t523=>(impl_ClashingHoles.j0 k l0 l1 l2 (!t523)))=some (r1,r2):=by rw[if_pos rfl]at H;exact H
    obtain⟨t523,A9,H⟩:=bo_ H
    try dsimp only at H
    have H':=am_ H
    clear H
    go_wp2_with (first|((with_reducible refine gate_callee (f:=21) rfl ?_);refine goesL_ (some 14) rfl rfl Try.func21 (by kernel_rfl) rfl #[.slice A0 l0.length c0] rfl gd_ ?_;(with_reducible refine(impl_IsSheet.calls k _ _ l0 true _ ?side1 ?side2 A5.out).mono ?_);(case side1=>exact(a8_ HR0.out));(case side2=>exact HC0.out);rintro e w10 ⟨rfl,hb⟩;refine⟨_,rfl,?_⟩;replace HB:=am_ (below_step (a1_) hb);(try clear hb);(try clear hb2);(try clear hk);(try clear hi))|(go_at_call 21;(with_reducible refine(impl_IsSheet.calls k _ _ l1 true _ ?side1 ?side2 A7.out).mono ?_);(case side1=>exact(a8_ HR1.out));(case side2=>exact HC1.out);rintro e w11 ⟨rfl,hb⟩;replace HB:=am_ (below_step (a1_) hb);(try clear hb);(try clear hb2);(try clear hk);(try clear hi))|(go_at_call 21;(with_reducible refine(impl_IsSheet.calls k _ _ l2 t523 _ ?side1 ?side2 A9.out).mono ?_);(case side1=>exact(a8_ HR2.out));(case side2=>exact HC2.out);rintro e w12 ⟨rfl,hb⟩;replace HB:=am_ (below_step (a1_) hb);(try clear hb);(try clear hb2);(try clear hk);(try clear hi)))
    go_meet
    case rel=>exact⟨_,(!t523),(by first | rfl|(simp;done)|(simp[*];done)),H',⟨by first | omega|exact Nat.le_refl _⟩,⟨a1_⟩⟩
   ·replace c8:=Bool.eq_false_iff.mpr c8
    subst c8
    replace H:(impl_ClashingHoles.j0 k l0 l1 l2 true)=some (r1,r2):=by rw[if_neg (show ¬(false=true) by decide)]at H;exact H
    have H':=am_ H
    clear H
    go_wp2_with (first|((with_reducible refine gate_callee (f:=21) rfl ?_);refine goesL_ (some 14) rfl rfl Try.func21 (by kernel_rfl) rfl #[.slice A0 l0.length c0] rfl gd_ ?_;(with_reducible refine(impl_IsSheet.calls k _ _ l0 true _ ?side1 ?side2 A5.out).mono ?_);(case side1=>exact(a8_ HR0.out));(case side2=>exact HC0.out);rintro e w13 ⟨rfl,hb⟩;refine⟨_,rfl,?_⟩;replace HB:=am_ (below_step (a1_) hb);(try clear hb);(try clear hb2);(try clear hk);(try clear hi))|(go_at_call 21;(with_reducible refine(impl_IsSheet.calls k _ _ l1 false _ ?side1 ?side2 A7.out).mono ?_);(case side1=>exact(a8_ HR1.out));(case side2=>exact HC1.out);rintro e w14 ⟨rfl,hb⟩;replace HB:=am_ (below_step (a1_) hb);(try clear hb);(try clear hb2);(try clear hk);(try clear hi)))
    go_meet
    case rel=>exact⟨_,(true),(by first | rfl|(simp;done)|(simp[*];done)),H',⟨by first | omega|exact Nat.le_refl _⟩,⟨a1_⟩⟩
  ·replace c6:=Bool.eq_false_iff.mpr c6
   subst c6
   replace H:(impl_ClashingHoles.j0 k l0 l1 l2 true)=some (r1,r2):=by rw[if_neg (show ¬(false=true) by decide)]at H;exact H
   have H':=am_ H
   clear H
   go_wp2_with (first|((with_reducible refine gate_callee (f:=21) rfl ?_);refine goesL_ (some 14) rfl rfl Try.func21 (by kernel_rfl) rfl #[.slice A0 l0.length c0] rfl gd_ ?_;(with_reducible refine(impl_IsSheet.calls k _ _ l0 false _ ?side1 ?side2 A5.out).mono ?_);(case side1=>exact(a8_ HR0.out));(case side2=>exact HC0.out);rintro e w15 ⟨rfl,hb⟩;refine⟨_,rfl,?_⟩;replace HB:=am_ (below_step (a1_) hb);(try clear hb);(try clear hb2);(try clear hk);(try clear hi)))
   go_meet
   case rel=>exact⟨_,(true),(by first | rfl|(simp;done)|(simp[*];done)),H',⟨by first | omega|exact Nat.le_refl _⟩,⟨a1_⟩⟩
 case rest=>
  clear HC4
  try clear c1
  try clear c2
  try clear p2
  try clear c4
  try clear c6
  try clear c8
  obtain⟨kq,x25_3,rfl,HA,HJ3,HB⟩:=hcut
  cases kq with
  | zero=>exact absurd HA.out (by simp[impl_ClashingHoles.j0])
  | succ kj3=>
   have H:=HA.out
   clear HA
   simp only[impl_ClashingHoles.j0]at H
   by_cases c16:x25_3=true
   ·subst c16
    replace H:(some (([]:List (List (S42))),false))=some (r1,r2):=by rw[if_pos rfl]at H;exact H
    simp only[Option.some.injEq,Prod.mk.injEq]at H
    obtain⟨rfl,rfl⟩:=H
    go_wp2
    go_ret2
    exact⟨_,a12_,a66_,a1_⟩
   ·replace c16:=Bool.eq_false_iff.mpr c16
    subst c16
    replace H:((impl_lessHoles.f l1 l0).bind fun t527=>(impl_ClashingHoles.l0 kj3 l0 l2 (([]:List (List (S42)))) t527 (t527.length:Int) 0))=some (r1,r2):=by rw[if_neg (show ¬(false=true) by decide)]at H;exact H
    obtain⟨y524,hy524⟩:∃y_:List (List (S42)),y_=(([]:List (List (S42)))):=⟨_,rfl⟩
    replace H:((impl_lessHoles.f l1 l0).bind fun t527=>(impl_ClashingHoles.l0 kj3 l0 l2 y524 t527 (t527.length:Int) 0))=some (r1,r2):=by first|(rw[hy524];with_reducible exact H)|(have H2_:=(Option.bind_some _ _).symm.trans H;rw[hy524];with_reducible exact H2_)|(have H2_:=(Option.bind_some _ _).symm.trans H;with_reducible exact H2_) | with_reducible exact H|(rw[hy524];exact H)|exact H
    have Ny524:=am_ hy524
    clear hy524
    obtain⟨t527,A17,H⟩:=bo_ H
    try dsimp only at H
    have H':=am_ H
    clear H
    go_wp2_with (first|((with_reducible refine gate_dst (N:=26) rfl ?_);refine Kd.S_lit (Kd.slice 42 k42) _ 32 ?hg (N:=26) ?hd (xs:=([]:List (List (S42)))) (inner:=[]) (ok:=fun _=>True) (okp:=fun _=>True) ?hr ?hp (fun _ hk=>hk) trivial (Below.refl _ _) (Nat.le_refl _) (by simp) ?_;(case hd=>rfl);(case hg=>rfl);(case hr=>exact hr_);(case hp=>exact(Reps.none _ _));intro v525 w18 ho19 hb hg_ hnew_;clear hg_ hnew_;(first|rw[← Ny524.out]at ho19|(simp only[Int.reduceToNat]at ho19;rw[← Ny524.out]at ho19));have HO526:=am_ (Kd.S_lower ho19 (below_size (a1_)));replace HB:=am_ (below_step (a1_) hb);clear hb ho19)|((with_reducible refine gate_callee (f:=82) rfl ?_);refine goesL_ (some 29) rfl rfl Try.func82 (by kernel_rfl) rfl #[.slice A1 l1.length c1, .slice A0 l0.length c0] rfl gd_ ?_;(with_reducible refine(impl_lessHoles.calls _ _ l1 _ _ l0 t527 _ ?side1 ?side2 ?side3 ?side4 A17.out).mono ?_);(case side1=>exact(a8_ HR1.out));(case side2=>exact HC1.out);(case side3=>exact(a8_ HR0.out));(case side4=>exact HC0.out);rintro e w20 ⟨v528,rfl,ho0,hb⟩;refine⟨_,rfl,?_⟩;replace HO526:=am_ (Kd.S_elder' ((a24_ HO526.out)) (Kd.R_base ho0) hb);have HO529:=am_ (Kd.R_lower ho0 (below_size (a1_)));replace HB:=am_ (below_step (a1_) hb);(try clear hb);(try clear hb2);(try clear hk);(try clear hi);(try clear ho0);obtain⟨Ao21,co21,eo21⟩:=Kd.R_slice HO529.out;subst eo21))
    go_loopg [8,31] kj3 (fun kq v8 v31 w'=>∃(x8_2:List (List (S42))) (x31_2:Int),v31 = .int .i64 x31_2∧Aside0 (impl_ClashingHoles.l0 kq l0 l2 x8_2 t527 (t527.length:Int) x31_2=some (r1,r2))∧Aside0 (kq≤kj3)∧Aside0 (Kd.S (Kd.slice 42 k42) 32 w' w.heap.size (fun k_=>some k_≠((.slice Ao21 t527.length co21):Value).ownBlock) v8 x8_2)∧Aside0 (Kd.R k42 42 w' w.heap.size (fun _=>True) (.slice Ao21 t527.length co21) t527)∧Aside0 (Below w.heap.size w w'))
    case atStart=>exact⟨(y524),(0),(by first | rfl|(simp;done)|(simp[*];done)),H',⟨Nat.le_refl _⟩,⟨by(with_reducible repeat (first|apply Kd.S_alloc|apply Kd.S_drewN|apply Kd.S_drew));exact Kd.S_mono HO526.out (fun _ hk=>hk.2)⟩,⟨(a0_ HO529.out)⟩,⟨a1_⟩⟩
    case round=>
     clear H'
     try clear c1
     try clear c2
     try clear p2
     try clear c4
     try clear c6
     try clear c8
     try clear c16
     try clear c21
     try clear p2
     obtain⟨x8_2,x31_2,rfl,HA,HK2,HO_8,HO_29,HB⟩:=hrel
     cases gk with
     | zero=>exact absurd HA.out (by simp[impl_ClashingHoles.l0])
     | succ k2=>
      have H:=HA.out
      clear HA
      simp only[impl_ClashingHoles.l0]at H
      by_cases c22:x31_2<(t527.length:Int)
      ·rw[if_pos c22]at H
       have c22b0:decide (x31_2<(t527.length:Int))=true:=decide_eq_true c22
       clear c22
       by_cases c23:0≤x31_2
       ·rw[if_pos c23]at H
        have c23b0:decide (0≤x31_2)=true:=decide_eq_true c23
        clear c23
        by_cases c24:x31_2<(t527.length:Int)
        ·rw[if_pos c24]at H
         have c24b0:decide (x31_2<(t527.length:Int))=true:=decide_eq_true c24
         clear c24
         obtain⟨t532,A25,H⟩:=bo_ H
         try dsimp only at H
         have H':=am_ H
         clear H
         have p530:0≤(x31_2:Int):=of_decide_eq_true (a13_)
         have q530:x31_2<(t527.length:Int):=of_decide_eq_true (a13_)
         obtain⟨ad530,e530,hx530_0,hx530_1,hx530_2⟩:=at_T42 (Kd.R_reads' HO_29.out).2.2 x31_2 p530 q530
         cases e530
         replace p530:=eq_true p530
         replace q530:=eq_true q530
         go_wp2_with (first|((with_reducible refine gate_dst (N:=10) rfl ?_);refine box_event ?hg (N:=10) ?hd (cs:= #[.int .i64 0, .int .i64 0, .int .i64 0]) (t:=42) ?hr ?_;(case hd=>rfl);(case hg=>rfl);(case hr=>exact hr_);intro gb531 hg w26 hbox hb;replace HO_8:=am_ (Kd.S_below (Kd.S_elderB ((a24_ HO_8.out)) gb531 (Nat.le_of_eq hg.symm)) hb);replace HO_29:=am_ (Kd.R_below (Kd.R_elderB ((a0_ HO_29.out)) gb531 (Nat.le_of_eq hg.symm)) hb);have BK531:=am_ (hbox);have GW531:=am_ ((by rw[hg];exact(below_size (a1_)):w.heap.size≤gb531));have GE531:=am_ ((by rw[hg];exact(below_size (a1_)):w.heap.size≤gb531));replace HB:=am_ (below_step (a1_) hb);clear hb hbox hg;have hcz27_0:w26.cell? ⟨gb531,0,none⟩=some (.int .i64 0):=(blk_cell BK531.out 0).trans rfl;have hcz27_1:w26.cell? ⟨gb531,1,none⟩=some (.int .i64 0):=(blk_cell BK531.out 1).trans rfl;have hcz27_2:w26.cell? ⟨gb531,2,none⟩=some (.int .i64 0):=(blk_cell BK531.out 2).trans rfl;have hfz27_0:=blk_frozen BK531.out 0;have hfz27_1:=blk_frozen BK531.out 1;have hfz27_2:=blk_frozen BK531.out 2)|((with_reducible refine gate_callee (f:=82) rfl ?_);refine goesL_ (some 37) rfl rfl Try.func82 (by kernel_rfl) rfl #[.slice A2 l2.length c2, .slice A0 l0.length c0] rfl gd_ ?_;(with_reducible refine(impl_lessHoles.calls _ _ l2 _ _ l0 t532 _ ?side1 ?side2 ?side3 ?side4 A25.out).mono ?_);(case side1=>exact Kd.C_below HR2.out ((a2_ GE531.out)));(case side2=>exact HC2.out);(case side3=>exact Kd.C_below HR0.out ((a2_ GE531.out)));(case side4=>exact HC0.out);rintro e w28 ⟨v533,rfl,ho0,hb⟩;refine⟨_,rfl,?_⟩;replace HO_8:=am_ (Kd.S_elder' (by(with_reducible repeat (first|apply Kd.S_alloc|apply Kd.S_drewN|apply Kd.S_drew));exact(Kd.S_mono (Kd.S_far (p:=⟨gb531,2,none⟩) (Kd.S_far (p:=⟨gb531,1,none⟩) (Kd.S_far (p:=⟨gb531,0,none⟩) (Kd.S_mono HO_8.out (fun k_ hk=>(⟨hk,hk.2⟩:_∧k_≠gb531))) (fun _ hk=>hk.2) (.int .i64 ((rd_T42 t527 x31_2).f0))) (fun _ hk=>hk.2) (.int .i64 ((rd_T42 t527 x31_2).f1))) (fun _ hk=>hk.2) (.int .i64 ((rd_T42 t527 x31_2).f2))) (fun _ h_=>h_.1))) (Kd.R_base ho0) hb);have HO534:=am_ (Kd.R_lower (Kd.R_newB (Kd.R_new' ho0 (Kd.R_lt ((a47_ HO_29.out)))) (g:=gb531) (o:= .cells #[.int .i64 ((rd_T42 t527 x31_2).f0), .int .i64 ((rd_T42 t527 x31_2).f1), .int .i64 ((rd_T42 t527 x31_2).f2)] 42 (0,0)) ((a37_ BK531.out))) (below_size ((a2_ GE531.out))));replace HO_29:=am_ (Kd.R_elder' ((a47_ HO_29.out)) (Kd.R_base ho0) hb);replace BK531:=am_ (blk_below (g:=gb531) (o:= .cells #[.int .i64 ((rd_T42 t527 x31_2).f0), .int .i64 ((rd_T42 t527 x31_2).f1), .int .i64 ((rd_T42 t527 x31_2).f2)] 42 (0,0)) ((a37_ BK531.out)) hb);replace HB:=am_ (below_step ((a2_ GE531.out)) hb);(try clear hb);(try clear hb2);(try clear hk);(try clear hi);(try clear ho0);obtain⟨Ao29,co29,eo29⟩:=Kd.R_slice HO534.out;subst eo29))
         go_loopg [8,39] k2 (fun kq v8 v39 w'=>∃(x8_3:List (List (S42))) (x39_3:Int),v39 = .int .i64 x39_3∧Aside0 (impl_ClashingHoles.l1 kq l0 l2 x8_3 t527 (t527.length:Int) x31_2 t532 (t532.length:Int) x39_3 ((rd_T42 t527 x31_2).f0) ((rd_T42 t527 x31_2).f1) ((rd_T42 t527 x31_2).f2)=some (r1,r2))∧Aside0 (kq≤k2)∧Aside0 (Kd.S (Kd.slice 42 k42) 32 w' w.heap.size (fun k_=>some k_≠((.slice (some ad530) t527.length co21):Value).ownBlock∧some k_≠((.slice Ao29 t532.length co29):Value).ownBlock∧k_≠gb531) v8 x8_3)∧Aside0 (Kd.R k42 42 w' w.heap.size (fun k_=>some k_≠((.slice Ao29 t532.length co29):Value).ownBlock∧k_≠gb531) (.slice (some ad530) t527.length co21) t527)∧Aside0 (Kd.R k42 42 w' w.heap.size (fun k_=>some k_≠((.slice (some ad530) t527.length co21):Value).ownBlock∧k_≠gb531) (.slice Ao29 t532.length co29) t532)∧Aside0 (w'.heap[gb531]? = some (.cells #[.int .i64 ((rd_T42 t527 x31_2).f0), .int .i64 ((rd_T42 t527 x31_2).f1), .int .i64 ((rd_T42 t527 x31_2).f2)] 42 (0,0)))∧Aside0 (Below w.heap.size w w'))
         case atStart=>exact⟨(x8_2),(0),(by first | rfl|(simp;done)|(simp[*];done)),H',⟨Nat.le_refl _⟩,⟨by(with_reducible repeat (first|apply Kd.S_alloc|apply Kd.S_drewN|apply Kd.S_drew));exact Kd.S_mono HO_8.out (fun _ hk=>⟨hk.1.1,⟨hk.2,hk.1.2⟩⟩)⟩,⟨(a55_ HO_29.out)⟩,⟨(a34_ HO534.out)⟩,⟨(a3_ BK531.out)⟩,⟨(a2_ GE531.out)⟩⟩
         case round=>
          clear H'
          try clear c1
          try clear c2
          try clear p2
          try clear c4
          try clear p5
          try clear q5
          try clear hx5
          try clear c6
          try clear c8
          try clear c16
          try clear c21
          try clear c22
          try clear c22b0
          try clear c23
          try clear c23b0
          try clear c24
          try clear c24b0
          try clear hcz27_0
          try clear hcz27_1
          try clear hcz27_2
          try clear hfz27_0
          try clear hfz27_1
          try clear hfz27_2
          try clear hx530_0
          try clear hx530_1
          try clear hx530_2
          try clear p2
          try clear p530
          try clear q530
          obtain⟨x8_3,x39_3,rfl,HA,HK3,HO_8,HO_29,HO_37,BK531,HB⟩:=hrel
          cases gk with
          | zero=>exact absurd HA.out (by simp[impl_ClashingHoles.l1])
          | succ k3=>
           have H:=HA.out
           clear HA
           simp only[impl_ClashingHoles.l1]at H
           by_cases c30:x39_3<(t532.length:Int)
           ·rw[if_pos c30]at H
            have c30b0:decide (x39_3<(t532.length:Int))=true:=decide_eq_true c30
            clear c30
            by_cases c31:0≤x39_3
            ·rw[if_pos c31]at H
             have c31b0:decide (0≤x39_3)=true:=decide_eq_true c31
             clear c31
             by_cases c32:x39_3<(t532.length:Int)
             ·rw[if_pos c32]at H
              have c32b0:decide (x39_3<(t532.length:Int))=true:=decide_eq_true c32
              clear c32
              obtain⟨t537,A33,H⟩:=bo_ H
              try dsimp only at H
              by_cases c34:t537=true
              ·subst c34
               replace H:(if x8_3.length<5864062014805 then(impl_ClashingHoles.l1 k3 l0 l2 (x8_3 ++ [(([(⟨((rd_T42 t527 x31_2).f0),((rd_T42 t527 x31_2).f1),((rd_T42 t527 x31_2).f2)⟩:S42),(⟨(rd_T42 t532 x39_3).f0,(rd_T42 t532 x39_3).f1,(rd_T42 t532 x39_3).f2⟩:S42)]:List (S42)))]) t527 (t527.length:Int) x31_2 t532 (t532.length:Int) (wrap64 (x39_3+1)) ((rd_T42 t527 x31_2).f0) ((rd_T42 t527 x31_2).f1) ((rd_T42 t527 x31_2).f2)) else(none))=some (r1,r2):=by rw[if_pos rfl]at H;exact H
               obtain⟨y538,hy538⟩:∃y_:List (S42),y_=(([(⟨((rd_T42 t527 x31_2).f0),((rd_T42 t527 x31_2).f1),((rd_T42 t527 x31_2).f2)⟩:S42),(⟨(rd_T42 t532 x39_3).f0,(rd_T42 t532 x39_3).f1,(rd_T42 t532 x39_3).f2⟩:S42)]:List (S42))):=⟨_,rfl⟩
               replace H:(if x8_3.length<5864062014805 then(impl_ClashingHoles.l1 k3 l0 l2 (x8_3 ++ [y538]) t527 (t527.length:Int) x31_2 t532 (t532.length:Int) (wrap64 (x39_3+1)) ((rd_T42 t527 x31_2).f0) ((rd_T42 t527 x31_2).f1) ((rd_T42 t527 x31_2).f2)) else(none))=some (r1,r2):=by first|(rw[hy538];with_reducible exact H)|(have H2_:=(Option.bind_some _ _).symm.trans H;rw[hy538];with_reducible exact H2_)|(have H2_:=(Option.bind_some _ _).symm.trans H;with_reducible exact H2_) | with_reducible exact H|(rw[hy538];exact H)|exact H
               have Ny538:=am_ hy538
               clear hy538
               by_cases c35:x8_3.length<5864062014805
               ·rw[if_pos c35]at H
                have LMc35:=am_ c35
                clear c35
                obtain⟨y541,hy541⟩:∃y_:List (List (S42)),y_=(x8_3 ++ [y538]):=⟨_,rfl⟩
                replace H:(impl_ClashingHoles.l1 k3 l0 l2 y541 t527 (t527.length:Int) x31_2 t532 (t532.length:Int) (wrap64 (x39_3+1)) ((rd_T42 t527 x31_2).f0) ((rd_T42 t527 x31_2).f1) ((rd_T42 t527 x31_2).f2))=some (r1,r2):=by first|(rw[hy541];with_reducible exact H)|(have H2_:=(Option.bind_some _ _).symm.trans H;rw[hy541];with_reducible exact H2_)|(have H2_:=(Option.bind_some _ _).symm.trans H;with_reducible exact H2_) | with_reducible exact H|(rw[hy541];exact H)|exact H
                have Ny541:=am_ hy541
                clear hy541
                have H':=am_ H
                clear H
                have p535:0≤(x39_3:Int):=of_decide_eq_true (a13_)
                have q535:x39_3<(t532.length:Int):=of_decide_eq_true (a13_)
                obtain⟨ad535,e535,hx535_0,hx535_1,hx535_2⟩:=at_T42 (Kd.R_reads' HO_37.out).2.2 x39_3 p535 q535
                cases e535
                replace p535:=eq_true p535
                replace q535:=eq_true q535
                go_wp2_with (first|((with_reducible refine gate_dst (N:=12) rfl ?_);refine box_event ?hg (N:=12) ?hd (cs:= #[.int .i64 0, .int .i64 0, .int .i64 0]) (t:=42) ?hr ?_;(case hd=>rfl);(case hg=>rfl);(case hr=>exact hr_);intro gb536 hg w36 hbox hb;replace HO_8:=am_ (Kd.S_below (Kd.S_elderB ((a24_ HO_8.out)) gb536 (Nat.le_of_eq hg.symm)) hb);replace HO_29:=am_ (Kd.R_below (Kd.R_elderB ((a0_ HO_29.out)) gb536 (Nat.le_of_eq hg.symm)) hb);replace HO_37:=am_ (Kd.R_below (Kd.R_elderB ((a0_ HO_37.out)) gb536 (Nat.le_of_eq hg.symm)) hb);have BK536:=am_ (hbox);have GW536:=am_ ((by rw[hg];exact(below_size ((a2_ GE531.out))):w.heap.size≤gb536));have GE536:=am_ ((by rw[hg];exact(below_size ((a2_ GE531.out))):w.heap.size≤gb536));replace HB:=am_ (below_step ((a2_ GE531.out)) hb);have NB531_536:=am_ ((by rw[hg];exact Nat.ne_of_lt (blk_lt (g:=gb531) (o:= .cells #[.int .i64 ((rd_T42 t527 x31_2).f0), .int .i64 ((rd_T42 t527 x31_2).f1), .int .i64 ((rd_T42 t527 x31_2).f2)] 42 (0,0)) ((a3_ BK531.out))):gb531≠gb536));have NB536_531:=am_ ((by rw[hg];exact Nat.ne_of_gt (blk_lt (g:=gb531) (o:= .cells #[.int .i64 ((rd_T42 t527 x31_2).f0), .int .i64 ((rd_T42 t527 x31_2).f1), .int .i64 ((rd_T42 t527 x31_2).f2)] 42 (0,0)) ((a3_ BK531.out))):gb536≠gb531));replace BK531:=am_ (blk_below (g:=gb531) (o:= .cells #[.int .i64 ((rd_T42 t527 x31_2).f0), .int .i64 ((rd_T42 t527 x31_2).f1), .int .i64 ((rd_T42 t527 x31_2).f2)] 42 (0,0)) ((a3_ BK531.out)) hb);clear hb hbox hg;have hnb37:=NB536_531.out;have hnc37:=NB531_536.out;have hcz38_0:w36.cell? ⟨gb536,0,none⟩=some (.int .i64 0):=(blk_cell BK536.out 0).trans rfl;have hcz38_1:w36.cell? ⟨gb536,1,none⟩=some (.int .i64 0):=(blk_cell BK536.out 1).trans rfl;have hcz38_2:w36.cell? ⟨gb536,2,none⟩=some (.int .i64 0):=(blk_cell BK536.out 2).trans rfl;have hfz38_0:=blk_frozen BK536.out 0;have hfz38_1:=blk_frozen BK536.out 1;have hfz38_2:=blk_frozen BK536.out 2;have hcz39_0:w36.cell? ⟨gb531,0,none⟩=some (.int .i64 ((rd_T42 t527 x31_2).f0)):=(blk_cell BK531.out 0).trans rfl;have hcz39_1:w36.cell? ⟨gb531,1,none⟩=some (.int .i64 ((rd_T42 t527 x31_2).f1)):=(blk_cell BK531.out 1).trans rfl;have hcz39_2:w36.cell? ⟨gb531,2,none⟩=some (.int .i64 ((rd_T42 t527 x31_2).f2)):=(blk_cell BK531.out 2).trans rfl;have hfz39_0:=blk_frozen BK531.out 0;have hfz39_1:=blk_frozen BK531.out 1;have hfz39_2:=blk_frozen BK531.out 2)|((with_reducible refine gate_callee (f:=89) rfl ?_);refine goesL_ (some 45) rfl rfl Try.func89 (by kernel_rfl) rfl #[.agg #[.int .i64 ((rd_T42 t527 x31_2).f0), .int .i64 ((rd_T42 t527 x31_2).f1), .int .i64 ((rd_T42 t527 x31_2).f2)], .agg #[.int .i64 ((rd_T42 t532 x39_3).f0), .int .i64 ((rd_T42 t532 x39_3).f1), .int .i64 ((rd_T42 t532 x39_3).f2)]] rfl gd_ ?_;(with_reducible refine(impl_clash.calls ((rd_T42 t527 x31_2).f0) ((rd_T42 t527 x31_2).f1) ((rd_T42 t527 x31_2).f2) ((rd_T42 t532 x39_3).f0) ((rd_T42 t532 x39_3).f1) ((rd_T42 t532 x39_3).f2) true _ A33.out).mono ?_);rintro e w40 ⟨rfl,hb⟩;refine⟨_,rfl,?_⟩;replace HO_8:=am_ (Kd.S_below ((a48_ HO_8.out)) hb);replace HO_29:=am_ (Kd.R_below ((a32_ HO_29.out)) hb);replace HO_37:=am_ (Kd.R_below ((a32_ HO_37.out)) hb);replace BK531:=am_ (blk_below (g:=gb531) (o:= .cells #[.int .i64 ((rd_T42 t527 x31_2).f0), .int .i64 ((rd_T42 t527 x31_2).f1), .int .i64 ((rd_T42 t527 x31_2).f2)] 42 (0,0)) ((a15_ NB531_536.out BK531.out)) hb);replace BK536:=am_ (blk_below (g:=gb536) (o:= .cells #[.int .i64 ((rd_T42 t532 x39_3).f0), .int .i64 ((rd_T42 t532 x39_3).f1), .int .i64 ((rd_T42 t532 x39_3).f2)] 42 (0,0)) ((a38_ BK536.out)) hb);replace HB:=am_ (below_step ((a14_ GE531.out GE536.out)) hb);(try clear hb);(try clear hb2);(try clear hk);(try clear hi);have hcz41_0:w40.cell? ⟨gb531,0,none⟩=some (.int .i64 ((rd_T42 t527 x31_2).f0)):=(blk_cell BK531.out 0).trans rfl;have hcz41_1:w40.cell? ⟨gb531,1,none⟩=some (.int .i64 ((rd_T42 t527 x31_2).f1)):=(blk_cell BK531.out 1).trans rfl;have hcz41_2:w40.cell? ⟨gb531,2,none⟩=some (.int .i64 ((rd_T42 t527 x31_2).f2)):=(blk_cell BK531.out 2).trans rfl;have hfz41_0:=blk_frozen BK531.out 0;have hfz41_1:=blk_frozen BK531.out 1;have hfz41_2:=blk_frozen BK531.out 2;have hcz42_0:w40.cell? ⟨gb536,0,none⟩=some (.int .i64 ((rd_T42 t532 x39_3).f0)):=(blk_cell BK536.out 0).trans rfl;have hcz42_1:w40.cell? ⟨gb536,1,none⟩=some (.int .i64 ((rd_T42 t532 x39_3).f1)):=(blk_cell BK536.out 1).trans rfl;have hcz42_2:w40.cell? ⟨gb536,2,none⟩=some (.int .i64 ((rd_T42 t532 x39_3).f2)):=(blk_cell BK536.out 2).trans rfl;have hfz42_0:=blk_frozen BK536.out 0;have hfz42_1:=blk_frozen BK536.out 1;have hfz42_2:=blk_frozen BK536.out 2)|((with_reducible refine gate_dst (N:=49) rfl ?_);refine Kd.R_lit k42 _ 42 ?hg (N:=49) ?hd (xs:=([(⟨((rd_T42 t527 x31_2).f0),((rd_T42 t527 x31_2).f1),((rd_T42 t527 x31_2).f2)⟩:S42),(⟨(rd_T42 t532 x39_3).f0,(rd_T42 t532 x39_3).f1,(rd_T42 t532 x39_3).f2⟩:S42)]:List (S42))) (inner:=[.int .i64 ((rd_T42 t527 x31_2).f0), .int .i64 ((rd_T42 t527 x31_2).f1), .int .i64 ((rd_T42 t527 x31_2).f2), .int .i64 ((rd_T42 t532 x39_3).f0), .int .i64 ((rd_T42 t532 x39_3).f1), .int .i64 ((rd_T42 t532 x39_3).f2)]) (ok:=fun _=>True) (okp:=fun _=>True) ?hr ?hp (fun _ hk=>hk) trivial (Below.refl _ _) (Nat.le_refl _) (by simp) ?_;(case hd=>rfl);(case hg=>rfl);(case hr=>exact hr_);(case hp=>exact(Reps.c3 (show Kd.M k42 _ _ _ (⟨((rd_T42 t527 x31_2).f0),((rd_T42 t527 x31_2).f1),((rd_T42 t527 x31_2).f2)⟩:S42) [.int .i64 ((rd_T42 t527 x31_2).f0), .int .i64 ((rd_T42 t527 x31_2).f1), .int .i64 ((rd_T42 t527 x31_2).f2)] from(k42_mkM _ _ _ (⟨((rd_T42 t527 x31_2).f0),((rd_T42 t527 x31_2).f1),((rd_T42 t527 x31_2).f2)⟩:S42) )) (Reps.c3 (show Kd.M k42 _ _ _ (⟨(rd_T42 t532 x39_3).f0,(rd_T42 t532 x39_3).f1,(rd_T42 t532 x39_3).f2⟩:S42) [.int .i64 ((rd_T42 t532 x39_3).f0), .int .i64 ((rd_T42 t532 x39_3).f1), .int .i64 ((rd_T42 t532 x39_3).f2)] from(k42_mkM _ _ _ (⟨(rd_T42 t532 x39_3).f0,(rd_T42 t532 x39_3).f1,(rd_T42 t532 x39_3).f2⟩:S42) )) (Reps.none _ _))));intro v539 w43 ho44 hb hg_ hnew_;clear hg_ hnew_;(first|rw[← Ny538.out]at ho44|(simp only[Int.reduceToNat]at ho44;rw[← Ny538.out]at ho44));replace HO_8:=am_ (Kd.S_elder' ((a24_ HO_8.out)) (Kd.R_base ho44) hb);have HO540:=am_ (Kd.R_lower (Kd.R_newB (Kd.R_newB (Kd.R_new' (Kd.R_new' ho44 (Kd.R_lt ((a0_ HO_29.out)))) (Kd.R_lt ((a0_ HO_37.out)))) (g:=gb531) (o:= .cells #[.int .i64 ((rd_T42 t527 x31_2).f0), .int .i64 ((rd_T42 t527 x31_2).f1), .int .i64 ((rd_T42 t527 x31_2).f2)] 42 (0,0)) ((a3_ BK531.out))) (g:=gb536) (o:= .cells #[.int .i64 ((rd_T42 t532 x39_3).f0), .int .i64 ((rd_T42 t532 x39_3).f1), .int .i64 ((rd_T42 t532 x39_3).f2)] 42 (0,0)) ((a3_ BK536.out))) (below_size ((a14_ GE531.out GE536.out))));replace HO_29:=am_ (Kd.R_elder' ((a0_ HO_29.out)) (Kd.R_base ho44) hb);replace HO_37:=am_ (Kd.R_elder' ((a0_ HO_37.out)) (Kd.R_base ho44) hb);replace BK531:=am_ (blk_below (g:=gb531) (o:= .cells #[.int .i64 ((rd_T42 t527 x31_2).f0), .int .i64 ((rd_T42 t527 x31_2).f1), .int .i64 ((rd_T42 t527 x31_2).f2)] 42 (0,0)) ((a3_ BK531.out)) hb);replace BK536:=am_ (blk_below (g:=gb536) (o:= .cells #[.int .i64 ((rd_T42 t532 x39_3).f0), .int .i64 ((rd_T42 t532 x39_3).f1), .int .i64 ((rd_T42 t532 x39_3).f2)] 42 (0,0)) ((a3_ BK536.out)) hb);replace HB:=am_ (below_step ((a14_ GE531.out GE536.out)) hb);clear hb ho44;obtain⟨Ao46,co46,eo46⟩:=Kd.R_slice HO540.out;subst eo46)|((with_reducible refine gate_builtin (b:= .append) (xs:= #[.tmp 46, .tmp 50]) rfl ?_);at_builtin;refine Kd.S_append (Kd.slice 42 k42) (w0:=w) w.heap.size rfl (.tmp 46) (.tmp 50) 24 32 (.slice none 0 0) 24 rfl Try.underlying24 info32 rfl (by decide) (by omega) u8 x8_3 y538 [.slice Ao46 y538.length co46] (fun k_=>some k_≠(.slice (some ad530) t527.length co21:Value).ownBlock∧some k_≠(.slice (some ad535) t532.length co29:Value).ownBlock∧k_≠gb531∧k_≠gb536) (fun k_=>some k_=(.slice Ao46 y538.length co46:Value).ownBlock) rfl rfl ?aP (fun k_ hk_=>((Kd.R_mono (ok':=fun k_=>((fun k_=>some k_≠(.slice (some ad530) t527.length co21:Value).ownBlock∧some k_≠(.slice (some ad535) t532.length co29:Value).ownBlock∧k_≠gb531∧k_≠gb536)) k_∧some k_≠(u8:Value).ownBlock) (Kd.R_apart' (HO540.out) (Kd.S_typed HO_8.out) (by decide)) (fun k_ hk=>⟨⟨hk.1.1.1.1.2,⟨hk.1.1.1.2,⟨hk.1.1.2,hk.1.2⟩⟩⟩,hk.2⟩))).1 k_ hk_.symm) ?aF ?aO ?aB ?aS ?aL ?_;(case aP=>exact Kd.M_row (Kd.R_mono (Kd.R_tight rfl (Kd.R_mono (ok':=fun k_=>((fun k_=>some k_≠(.slice (some ad530) t527.length co21:Value).ownBlock∧some k_≠(.slice (some ad535) t532.length co29:Value).ownBlock∧k_≠gb531∧k_≠gb536)) k_∧some k_≠(u8:Value).ownBlock) (Kd.R_apart' (HO540.out) (Kd.S_typed HO_8.out) (by decide)) (fun k_ hk=>⟨⟨hk.1.1.1.1.2,⟨hk.1.1.1.2,⟨hk.1.1.2,hk.1.2⟩⟩⟩,hk.2⟩))) (fun _ h_=>h_)));(case aB=>exact((a14_ GE531.out GE536.out)));(case aF=>exact(fun k_ hk=>⟨Kd.fresh' (Kd.R_lt ((a0_ HO_29.out))) k_ hk,Kd.fresh' (Kd.R_lt ((a0_ HO_37.out))) k_ hk,Kd.freshB (g:=gb531) (o:= .cells #[.int .i64 ((rd_T42 t527 x31_2).f0), .int .i64 ((rd_T42 t527 x31_2).f1), .int .i64 ((rd_T42 t527 x31_2).f2)] 42 (0,0)) ((a3_ BK531.out)) k_ hk,Kd.freshB (g:=gb536) (o:= .cells #[.int .i64 ((rd_T42 t532 x39_3).f0), .int .i64 ((rd_T42 t532 x39_3).f1), .int .i64 ((rd_T42 t532 x39_3).f2)] 42 (0,0)) ((a3_ BK536.out)) k_ hk⟩));(case aO=>exact((a67_ HO_8.out)));(case aS=>exact(below_size ((a14_ GE531.out GE536.out))));(case aL=>have:=LMc35.out;omega);intro v542 w45 ho hb hg hat;rw[← Ny541.out]at ho;have n0_:=am_ (Kd.R_over' ((a0_ HO_29.out)) (Kd.S_typed ((a24_ HO_8.out))) (by decide) hg);have n1_:=am_ (Kd.R_over' ((a0_ HO_37.out)) (Kd.S_typed ((a24_ HO_8.out))) (by decide) hg);have n2_:=am_ (blk_grown (g:=gb531) (o:= .cells #[.int .i64 ((rd_T42 t527 x31_2).f0), .int .i64 ((rd_T42 t527 x31_2).f1), .int .i64 ((rd_T42 t527 x31_2).f2)] 42 (0,0)) ((a3_ BK531.out)) hg (Kd.S_ne HO_8.out BK531.out (by decide)));have n3_:=am_ (blk_grown (g:=gb536) (o:= .cells #[.int .i64 ((rd_T42 t532 x39_3).f0), .int .i64 ((rd_T42 t532 x39_3).f1), .int .i64 ((rd_T42 t532 x39_3).f2)] 42 (0,0)) ((a3_ BK536.out)) hg (Kd.S_ne HO_8.out BK536.out (by decide)));have n4_:=am_ (hb);have n5_:=am_ (ho);clear HO_29 HO_37 BK531 BK536 HB HO_8 HO540;have HO_29:=n0_;have HO_37:=n1_;have BK531:=n2_;have BK536:=n3_;have HB:=n4_;have HO543:=n5_;clear n0_ n1_ n2_ n3_ n4_ n5_ ho hb hg hat))
                go_roundg k3
                case measure=>have:=HJ3.out;have:=HK2.out;have:=HK3.out;omega
                case rel=>exact⟨(y541),(wrap64 (x39_3+1)),(by first | rfl|(simp;done)|(simp[*];done)),H',⟨by have:=HJ3.out;have:=HK2.out;have:=HK3.out;omega⟩,⟨by(with_reducible repeat (first|apply Kd.S_alloc|apply Kd.S_drewN|apply Kd.S_drew));exact Kd.S_mono HO543.out (fun _ hk=>⟨hk.1,⟨hk.2.1,hk.2.2.1⟩⟩)⟩,⟨(a62_ HO_29.out)⟩,⟨(a62_ HO_37.out)⟩,⟨(a3_ BK531.out)⟩,⟨(a14_ GE531.out GE536.out)⟩⟩
               ·rw[if_neg c35]at H
                exact absurd H (by simp)
              ·replace c34:=Bool.eq_false_iff.mpr c34
               subst c34
               replace H:(impl_ClashingHoles.l1 k3 l0 l2 x8_3 t527 (t527.length:Int) x31_2 t532 (t532.length:Int) (wrap64 (x39_3+1)) ((rd_T42 t527 x31_2).f0) ((rd_T42 t527 x31_2).f1) ((rd_T42 t527 x31_2).f2))=some (r1,r2):=by rw[if_neg (show ¬(false=true) by decide)]at H;exact H
               have H':=am_ H
               clear H
               have p535:0≤(x39_3:Int):=of_decide_eq_true (a13_)
               have q535:x39_3<(t532.length:Int):=of_decide_eq_true (a13_)
               obtain⟨ad535,e535,hx535_0,hx535_1,hx535_2⟩:=at_T42 (Kd.R_reads' HO_37.out).2.2 x39_3 p535 q535
               cases e535
               replace p535:=eq_true p535
               replace q535:=eq_true q535
               go_wp2_with (first|((with_reducible refine gate_dst (N:=12) rfl ?_);refine box_event ?hg (N:=12) ?hd (cs:= #[.int .i64 0, .int .i64 0, .int .i64 0]) (t:=42) ?hr ?_;(case hd=>rfl);(case hg=>rfl);(case hr=>exact hr_);intro gb536 hg w47 hbox hb;replace HO_8:=am_ (Kd.S_below (Kd.S_elderB ((a24_ HO_8.out)) gb536 (Nat.le_of_eq hg.symm)) hb);replace HO_29:=am_ (Kd.R_below (Kd.R_elderB ((a0_ HO_29.out)) gb536 (Nat.le_of_eq hg.symm)) hb);replace HO_37:=am_ (Kd.R_below (Kd.R_elderB ((a0_ HO_37.out)) gb536 (Nat.le_of_eq hg.symm)) hb);have BK536:=am_ (hbox);have GW536:=am_ ((by rw[hg];exact(below_size ((a2_ GE531.out))):w.heap.size≤gb536));have GE536:=am_ ((by rw[hg];exact(below_size ((a2_ GE531.out))):w.heap.size≤gb536));replace HB:=am_ (below_step ((a2_ GE531.out)) hb);have NB531_536:=am_ ((by rw[hg];exact Nat.ne_of_lt (blk_lt (g:=gb531) (o:= .cells #[.int .i64 ((rd_T42 t527 x31_2).f0), .int .i64 ((rd_T42 t527 x31_2).f1), .int .i64 ((rd_T42 t527 x31_2).f2)] 42 (0,0)) ((a3_ BK531.out))):gb531≠gb536));have NB536_531:=am_ ((by rw[hg];exact Nat.ne_of_gt (blk_lt (g:=gb531) (o:= .cells #[.int .i64 ((rd_T42 t527 x31_2).f0), .int .i64 ((rd_T42 t527 x31_2).f1), .int .i64 ((rd_T42 t527 x31_2).f2)] 42 (0,0)) ((a3_ BK531.out))):gb536≠gb531));replace BK531:=am_ (blk_below (g:=gb531) (o:= .cells #[.int .i64 ((rd_T42 t527 x31_2).f0), .int .i64 ((rd_T42 t527 x31_2).f1), .int .i64 ((rd_T42 t527 x31_2).f2)] 42 (0,0)) ((a3_ BK531.out)) hb);clear hb hbox hg;have hnb48:=NB536_531.out;have hnc48:=NB531_536.out;have hcz49_0:w47.cell? ⟨gb536,0,none⟩=some (.int .i64 0):=(blk_cell BK536.out 0).trans rfl;have hcz49_1:w47.cell? ⟨gb536,1,none⟩=some (.int .i64 0):=(blk_cell BK536.out 1).trans rfl;have hcz49_2:w47.cell? ⟨gb536,2,none⟩=some (.int .i64 0):=(blk_cell BK536.out 2).trans rfl;have hfz49_0:=blk_frozen BK536.out 0;have hfz49_1:=blk_frozen BK536.out 1;have hfz49_2:=blk_frozen BK536.out 2;have hcz50_0:w47.cell? ⟨gb531,0,none⟩=some (.int .i64 ((rd_T42 t527 x31_2).f0)):=(blk_cell BK531.out 0).trans rfl;have hcz50_1:w47.cell? ⟨gb531,1,none⟩=some (.int .i64 ((rd_T42 t527 x31_2).f1)):=(blk_cell BK531.out 1).trans rfl;have hcz50_2:w47.cell? ⟨gb531,2,none⟩=some (.int .i64 ((rd_T42 t527 x31_2).f2)):=(blk_cell BK531.out 2).trans rfl;have hfz50_0:=blk_frozen BK531.out 0;have hfz50_1:=blk_frozen BK531.out 1;have hfz50_2:=blk_frozen BK531.out 2)|((with_reducible refine gate_callee (f:=89) rfl ?_);refine goesL_ (some 45) rfl rfl Try.func89 (by kernel_rfl) rfl #[.agg #[.int .i64 ((rd_T42 t527 x31_2).f0), .int .i64 ((rd_T42 t527 x31_2).f1), .int .i64 ((rd_T42 t527 x31_2).f2)], .agg #[.int .i64 ((rd_T42 t532 x39_3).f0), .int .i64 ((rd_T42 t532 x39_3).f1), .int .i64 ((rd_T42 t532 x39_3).f2)]] rfl gd_ ?_;(with_reducible refine(impl_clash.calls ((rd_T42 t527 x31_2).f0) ((rd_T42 t527 x31_2).f1) ((rd_T42 t527 x31_2).f2) ((rd_T42 t532 x39_3).f0) ((rd_T42 t532 x39_3).f1) ((rd_T42 t532 x39_3).f2) false _ A33.out).mono ?_);rintro e w51 ⟨rfl,hb⟩;refine⟨_,rfl,?_⟩;replace HO_8:=am_ (Kd.S_below ((a48_ HO_8.out)) hb);replace HO_29:=am_ (Kd.R_below ((a32_ HO_29.out)) hb);replace HO_37:=am_ (Kd.R_below ((a32_ HO_37.out)) hb);replace BK531:=am_ (blk_below (g:=gb531) (o:= .cells #[.int .i64 ((rd_T42 t527 x31_2).f0), .int .i64 ((rd_T42 t527 x31_2).f1), .int .i64 ((rd_T42 t527 x31_2).f2)] 42 (0,0)) ((a15_ NB531_536.out BK531.out)) hb);replace BK536:=am_ (blk_below (g:=gb536) (o:= .cells #[.int .i64 ((rd_T42 t532 x39_3).f0), .int .i64 ((rd_T42 t532 x39_3).f1), .int .i64 ((rd_T42 t532 x39_3).f2)] 42 (0,0)) ((a38_ BK536.out)) hb);replace HB:=am_ (below_step ((a14_ GE531.out GE536.out)) hb);(try clear hb);(try clear hb2);(try clear hk);(try clear hi)))
               go_roundg k3
               case measure=>have:=HJ3.out;have:=HK2.out;have:=HK3.out;omega
               case rel=>exact⟨(x8_3),(wrap64 (x39_3+1)),(by first | rfl|(simp;done)|(simp[*];done)),H',⟨by have:=HJ3.out;have:=HK2.out;have:=HK3.out;omega⟩,⟨by(with_reducible repeat (first|apply Kd.S_alloc|apply Kd.S_drewN|apply Kd.S_drew));exact Kd.S_mono HO_8.out (fun _ hk=>⟨hk.1.1,⟨hk.1.2.1,hk.1.2.2⟩⟩)⟩,⟨(a63_ HO_29.out)⟩,⟨(a63_ HO_37.out)⟩,⟨(a3_ BK531.out)⟩,⟨(a14_ GE531.out GE536.out)⟩⟩
             ·rw[if_neg c32]at H
              exact absurd H (by simp)
            ·rw[if_neg c31]at H
             exact absurd H (by simp)
           ·rw[if_neg c30]at H
            have c30b0:decide (x39_3<(t532.length:Int))=false:=decide_eq_false c30
            clear c30
            have H':=am_ H
            clear H
            go_wp2
            go_roundg k3
            case measure=>have:=HJ3.out;have:=HK2.out;have:=HK3.out;omega
            case rel=>exact⟨(x8_3),(wrap64 (x31_2+1)),(by first | rfl|(simp;done)|(simp[*];done)),H',⟨by have:=HJ3.out;have:=HK2.out;have:=HK3.out;omega⟩,⟨by(with_reducible repeat (first|apply Kd.S_alloc|apply Kd.S_drewN|apply Kd.S_drew));exact Kd.S_mono HO_8.out (fun _ hk=>hk.1)⟩,⟨(a28_ HO_29.out)⟩,⟨(a2_ GE531.out)⟩⟩
        ·rw[if_neg c24]at H
         exact absurd H (by simp)
       ·rw[if_neg c23]at H
        exact absurd H (by simp)
      ·rw[if_neg c22]at H
       have c22b0:decide (x31_2<(t527.length:Int))=false:=decide_eq_false c22
       clear c22
       simp only[Option.some.injEq,Prod.mk.injEq]at H
       obtain⟨rfl,rfl⟩:=H
       go_wp2
       go_ret2
       exact⟨_,a12_,by(with_reducible repeat (first|apply Kd.S_alloc|apply Kd.S_drewN|apply Kd.S_drew));exact Kd.S_mono HO_8.out (fun _ hk=>trivial),a1_⟩

/-! ### spec_mgClash: function 90 -/
def spec_mgClash.f (a0_0:Int) (a0_1:Int) (a0_2:Int) (a1_0:Int) (a1_1:Int) (a1_2:Int):Option (Bool):=if(!(a0_0 == a1_0) || (!(a0_1 == a1_1) || (!(a0_2 == a1_2))))=true then(if a0_0=a1_0 then(if a0_2≥a1_1 then(some (decide (a1_2≥a0_1))) else(some false)) else(some false)) else(some false)
set_option maxHeartbeats 8000000 in
set_option maxRecDepth 100000 in
theorem spec_mgClash.calls (a0_0:Int) (a0_1:Int) (a0_2:Int) (a1_0:Int) (a1_1:Int) (a1_2:Int) (r:Bool) (w:World) (h:spec_mgClash.f a0_0 a0_1 a0_2 a1_0 a1_1 a1_2=some r) :
 Calls Try.prog 90 #[.agg #[.int .i64 a0_0, .int .i64 a0_1, .int .i64 a0_2], .agg #[.int .i64 a1_0, .int .i64 a1_1, .int .i64 a1_2]] w fun e w'=>e = .returned (.bool r)∧Below w.heap.size w w':=by
 have hu42:=Try.underlying42
 have HB:=am_ (Below.refl w.heap.size w)
 have H:(if(!(a0_0 == a1_0) || (!(a0_1 == a1_1) || (!(a0_2 == a1_2))))=true then(if a0_0=a1_0 then(if a0_2≥a1_1 then(some (decide (a1_2≥a0_1))) else(some false)) else(some false)) else(some false))=some r:=h
 clear h
 by_cases c3:(!(a0_0 == a1_0) || (!(a0_1 == a1_1) || (!(a0_2 == a1_2))))=true
 ·rw[if_pos c3]at H
  have c3b0:(!(a0_0 == a1_0) || (!(a0_1 == a1_1) || (!(a0_2 == a1_2))))=true:=c3
  clear c3
  by_cases c4:a0_0=a1_0
  ·rw[if_pos c4]at H
   have c4b0:(a0_0 == a1_0)=true:=beq_iff_eq.mpr c4
   have c4b1:(a0_0 != a1_0)=false:=bne_eq_false_iff_eq.mpr c4
   simp only[c4b0,Bool.not_true,Bool.false_or]at c3b0
   clear c4
   by_cases c5:a0_2≥a1_1
   ·rw[if_pos c5]at H
    have c5b0:decide (a1_1≤a0_2)=true:=decide_eq_true c5
    clear c5
    obtain rfl:=Option.some.inj H
    go_enter Try.func90,Try.ntmps90
    go_wp2_with (first|((with_reducible refine gate_dst (N:=2) rfl ?_);refine box_event ?hg (N:=2) ?hd (cs:= #[.int .i64 a0_0, .int .i64 a0_1, .int .i64 a0_2]) (t:=42) ?hr ?_;(case hd=>rfl);(case hg=>rfl);(case hr=>exact hr_);intro gb544 hg w6 hbox hb;have BK544:=am_ (hbox);have GW544:=am_ ((by rw[hg];exact(below_size (a1_)):w.heap.size≤gb544));have GE544:=am_ ((by rw[hg];exact(below_size (a1_)):w.heap.size≤gb544));replace HB:=am_ (below_step (a1_) hb);clear hb hbox hg)|((with_reducible refine gate_dst (N:=3) rfl ?_);refine box_event ?hg (N:=3) ?hd (cs:= #[.int .i64 a1_0, .int .i64 a1_1, .int .i64 a1_2]) (t:=42) ?hr ?_;(case hd=>rfl);(case hg=>rfl);(case hr=>exact hr_);intro gb545 hg w7 hbox hb;have BK545:=am_ (hbox);have GW545:=am_ ((by rw[hg];exact(below_size ((a2_ GE544.out))):w.heap.size≤gb545));have GE545:=am_ ((by rw[hg];exact(below_size ((a2_ GE544.out))):w.heap.size≤gb545));replace HB:=am_ (below_step ((a2_ GE544.out)) hb);have NB544_545:=am_ ((by rw[hg];exact Nat.ne_of_lt (blk_lt (g:=gb544) (o:= .cells #[.int .i64 a0_0, .int .i64 a0_1, .int .i64 a0_2] 42 (0,0)) ((a3_ BK544.out))):gb544≠gb545));have NB545_544:=am_ ((by rw[hg];exact Nat.ne_of_gt (blk_lt (g:=gb544) (o:= .cells #[.int .i64 a0_0, .int .i64 a0_1, .int .i64 a0_2] 42 (0,0)) ((a3_ BK544.out))):gb545≠gb544));replace BK544:=am_ (blk_below (g:=gb544) (o:= .cells #[.int .i64 a0_0, .int .i64 a0_1, .int .i64 a0_2] 42 (0,0)) ((a3_ BK544.out)) hb);clear hb hbox hg;have hnb8:=NB544_545.out;have hnc8:=NB545_544.out;have hcz9_0:w7.cell? ⟨gb544,0,none⟩=some (.int .i64 a0_0):=(blk_cell BK544.out 0).trans rfl;have hcz9_1:w7.cell? ⟨gb544,1,none⟩=some (.int .i64 a0_1):=(blk_cell BK544.out 1).trans rfl;have hcz9_2:w7.cell? ⟨gb544,2,none⟩=some (.int .i64 a0_2):=(blk_cell BK544.out 2).trans rfl;have hfz9_0:=blk_frozen BK544.out 0;have hfz9_1:=blk_frozen BK544.out 1;have hfz9_2:=blk_frozen BK544.out 2;have hcz10_0:w7.cell? ⟨gb545,0,none⟩=some (.int .i64 a1_0):=(blk_cell BK545.out 0).trans rfl;have hcz10_1:w7.cell? ⟨gb545,1,none⟩=some (.int .i64 a1_1):=(blk_cell BK545.out 1).trans rfl;have hcz10_2:w7.cell? ⟨gb545,2,none⟩=some (.int .i64 a1_2):=(blk_cell BK545.out 2).trans rfl;have hfz10_0:=blk_frozen BK545.out 0;have hfz10_1:=blk_frozen BK545.out 1;have hfz10_2:=blk_frozen BK545.out 2))
    go_ret
    exact⟨a12_,(a14_ GE544.out GE545.out)⟩
   ·rw[if_neg c5]at H
    have c5b0:decide (a1_1≤a0_2)=false:=decide_eq_false c5
    clear c5
    obtain rfl:=Option.some.inj H
    go_enter Try.func90,Try.ntmps90
    go_wp2_with (first|((with_reducible refine gate_dst (N:=2) rfl ?_);refine box_event ?hg (N:=2) ?hd (cs:= #[.int .i64 a0_0, .int .i64 a0_1, .int .i64 a0_2]) (t:=42) ?hr ?_;(case hd=>rfl);(case hg=>rfl);(case hr=>exact hr_);intro gb544 hg w11 hbox hb;have BK544:=am_ (hbox);have GW544:=am_ ((by rw[hg];exact(below_size (a1_)):w.heap.size≤gb544));have GE544:=am_ ((by rw[hg];exact(below_size (a1_)):w.heap.size≤gb544));replace HB:=am_ (below_step (a1_) hb);clear hb hbox hg)|((with_reducible refine gate_dst (N:=3) rfl ?_);refine box_event ?hg (N:=3) ?hd (cs:= #[.int .i64 a1_0, .int .i64 a1_1, .int .i64 a1_2]) (t:=42) ?hr ?_;(case hd=>rfl);(case hg=>rfl);(case hr=>exact hr_);intro gb545 hg w12 hbox hb;have BK545:=am_ (hbox);have GW545:=am_ ((by rw[hg];exact(below_size ((a2_ GE544.out))):w.heap.size≤gb545));have GE545:=am_ ((by rw[hg];exact(below_size ((a2_ GE544.out))):w.heap.size≤gb545));replace HB:=am_ (below_step ((a2_ GE544.out)) hb);have NB544_545:=am_ ((by rw[hg];exact Nat.ne_of_lt (blk_lt (g:=gb544) (o:= .cells #[.int .i64 a0_0, .int .i64 a0_1, .int .i64 a0_2] 42 (0,0)) ((a3_ BK544.out))):gb544≠gb545));have NB545_544:=am_ ((by rw[hg];exact Nat.ne_of_gt (blk_lt (g:=gb544) (o:= .cells #[.int .i64 a0_0, .int .i64 a0_1, .int .i64 a0_2] 42 (0,0)) ((a3_ BK544.out))):gb545≠gb544));replace BK544:=am_ (blk_below (g:=gb544) (o:= .cells #[.int .i64 a0_0, .int .i64 a0_1, .int .i64 a0_2] 42 (0,0)) ((a3_ BK544.out)) hb);clear hb hbox hg;have hnb13:=NB544_545.out;have hnc13:=NB545_544.out;have hcz14_0:w12.cell? ⟨gb544,0,none⟩=some (.int .i64 a0_0):=(blk_cell BK544.out 0).trans rfl;have hcz14_1:w12.cell? ⟨gb544,1,none⟩=some (.int .i64 a0_1):=(blk_cell BK544.out 1).trans rfl;have hcz14_2:w12.cell? ⟨gb544,2,none⟩=some (.int .i64 a0_2):=(blk_cell BK544.out 2).trans rfl;have hfz14_0:=blk_frozen BK544.out 0;have hfz14_1:=blk_frozen BK544.out 1;have hfz14_2:=blk_frozen BK544.out 2;have hcz15_0:w12.cell? ⟨gb545,0,none⟩=some (.int .i64 a1_0):=(blk_cell BK545.out 0).trans rfl;have hcz15_1:w12.cell? ⟨gb545,1,none⟩=some (.int .i64 a1_1):=(blk_cell BK545.out 1).trans rfl;have hcz15_2:w12.cell? ⟨gb545,2,none⟩=some (.int .i64 a1_2):=(blk_cell BK545.out 2).trans rfl;have hfz15_0:=blk_frozen BK545.out 0;have hfz15_1:=blk_frozen BK545.out 1;have hfz15_2:=blk_frozen BK545.out 2))
    go_ret
    exact⟨a12_,(a14_ GE544.out GE545.out)⟩
  ·rw[if_neg c4]at H
   have c4b0:(a0_0 == a1_0)=false:=beq_eq_false_iff_ne.mpr c4
   have c4b1:(a0_0 != a1_0)=true:=bne_iff_ne.mpr c4
   obtain rfl:=Option.some.inj H
   go_enter Try.func90,Try.ntmps90
   go_wp2_with (first|((with_reducible refine gate_dst (N:=2) rfl ?_);refine box_event ?hg (N:=2) ?hd (cs:= #[.int .i64 a0_0, .int .i64 a0_1, .int .i64 a0_2]) (t:=42) ?hr ?_;(case hd=>rfl);(case hg=>rfl);(case hr=>exact hr_);intro gb544 hg w16 hbox hb;have BK544:=am_ (hbox);have GW544:=am_ ((by rw[hg];exact(below_size (a1_)):w.heap.size≤gb544));have GE544:=am_ ((by rw[hg];exact(below_size (a1_)):w.heap.size≤gb544));replace HB:=am_ (below_step (a1_) hb);clear hb hbox hg)|((with_reducible refine gate_dst (N:=3) rfl ?_);refine box_event ?hg (N:=3) ?hd (cs:= #[.int .i64 a1_0, .int .i64 a1_1, .int .i64 a1_2]) (t:=42) ?hr ?_;(case hd=>rfl);(case hg=>rfl);(case hr=>exact hr_);intro gb545 hg w17 hbox hb;have BK545:=am_ (hbox);have GW545:=am_ ((by rw[hg];exact(below_size ((a2_ GE544.out))):w.heap.size≤gb545));have GE545:=am_ ((by rw[hg];exact(below_size ((a2_ GE544.out))):w.heap.size≤gb545));replace HB:=am_ (below_step ((a2_ GE544.out)) hb);have NB544_545:=am_ ((by rw[hg];exact Nat.ne_of_lt (blk_lt (g:=gb544) (o:= .cells #[.int .i64 a0_0, .int .i64 a0_1, .int .i64 a0_2] 42 (0,0)) ((a3_ BK544.out))):gb544≠gb545));have NB545_544:=am_ ((by rw[hg];exact Nat.ne_of_gt (blk_lt (g:=gb544) (o:= .cells #[.int .i64 a0_0, .int .i64 a0_1, .int .i64 a0_2] 42 (0,0)) ((a3_ BK544.out))):gb545≠gb544));replace BK544:=am_ (blk_below (g:=gb544) (o:= .cells #[.int .i64 a0_0, .int .i64 a0_1, .int .i64 a0_2] 42 (0,0)) ((a3_ BK544.out)) hb);clear hb hbox hg;have hnb18:=NB544_545.out;have hnc18:=NB545_544.out;have hcz19_0:w17.cell? ⟨gb544,0,none⟩=some (.int .i64 a0_0):=(blk_cell BK544.out 0).trans rfl;have hcz19_1:w17.cell? ⟨gb544,1,none⟩=some (.int .i64 a0_1):=(blk_cell BK544.out 1).trans rfl;have hcz19_2:w17.cell? ⟨gb544,2,none⟩=some (.int .i64 a0_2):=(blk_cell BK544.out 2).trans rfl;have hfz19_0:=blk_frozen BK544.out 0;have hfz19_1:=blk_frozen BK544.out 1;have hfz19_2:=blk_frozen BK544.out 2;have hcz20_0:w17.cell? ⟨gb545,0,none⟩=some (.int .i64 a1_0):=(blk_cell BK545.out 0).trans rfl;have hcz20_1:w17.cell? ⟨gb545,1,none⟩=some (.int .i64 a1_1):=(blk_cell BK545.out 1).trans rfl;have hcz20_2:w17.cell? ⟨gb545,2,none⟩=some (.int .i64 a1_2):=(blk_cell BK545.out 2).trans rfl;have hfz20_0:=blk_frozen BK545.out 0;have hfz20_1:=blk_frozen BK545.out 1;have hfz20_2:=blk_frozen BK545.out 2))
   go_ret
   exact⟨a12_,(a14_ GE544.out GE545.out)⟩
 ·rw[if_neg c3]at H
  have c3b0:(!(a0_0 == a1_0) || (!(a0_1 == a1_1) || (!(a0_2 == a1_2))))=false:=by simpa using c3
  clear c3
  obtain rfl:=Option.some.inj H
  go_enter Try.func90,Try.ntmps90
  go_wp2_with (first|((with_reducible refine gate_dst (N:=2) rfl ?_);refine box_event ?hg (N:=2) ?hd (cs:= #[.int .i64 a0_0, .int .i64 a0_1, .int .i64 a0_2]) (t:=42) ?hr ?_;(case hd=>rfl);(case hg=>rfl);(case hr=>exact hr_);intro gb544 hg w21 hbox hb;have BK544:=am_ (hbox);have GW544:=am_ ((by rw[hg];exact(below_size (a1_)):w.heap.size≤gb544));have GE544:=am_ ((by rw[hg];exact(below_size (a1_)):w.heap.size≤gb544));replace HB:=am_ (below_step (a1_) hb);clear hb hbox hg)|((with_reducible refine gate_dst (N:=3) rfl ?_);refine box_event ?hg (N:=3) ?hd (cs:= #[.int .i64 a1_0, .int .i64 a1_1, .int .i64 a1_2]) (t:=42) ?hr ?_;(case hd=>rfl);(case hg=>rfl);(case hr=>exact hr_);intro gb545 hg w22 hbox hb;have BK545:=am_ (hbox);have GW545:=am_ ((by rw[hg];exact(below_size ((a2_ GE544.out))):w.heap.size≤gb545));have GE545:=am_ ((by rw[hg];exact(below_size ((a2_ GE544.out))):w.heap.size≤gb545));replace HB:=am_ (below_step ((a2_ GE544.out)) hb);have NB544_545:=am_ ((by rw[hg];exact Nat.ne_of_lt (blk_lt (g:=gb544) (o:= .cells #[.int .i64 a0_0, .int .i64 a0_1, .int .i64 a0_2] 42 (0,0)) ((a3_ BK544.out))):gb544≠gb545));have NB545_544:=am_ ((by rw[hg];exact Nat.ne_of_gt (blk_lt (g:=gb544) (o:= .cells #[.int .i64 a0_0, .int .i64 a0_1, .int .i64 a0_2] 42 (0,0)) ((a3_ BK544.out))):gb545≠gb544));replace BK544:=am_ (blk_below (g:=gb544) (o:= .cells #[.int .i64 a0_0, .int .i64 a0_1, .int .i64 a0_2] 42 (0,0)) ((a3_ BK544.out)) hb);clear hb hbox hg;have hnb23:=NB544_545.out;have hnc23:=NB545_544.out;have hcz24_0:w22.cell? ⟨gb544,0,none⟩=some (.int .i64 a0_0):=(blk_cell BK544.out 0).trans rfl;have hcz24_1:w22.cell? ⟨gb544,1,none⟩=some (.int .i64 a0_1):=(blk_cell BK544.out 1).trans rfl;have hcz24_2:w22.cell? ⟨gb544,2,none⟩=some (.int .i64 a0_2):=(blk_cell BK544.out 2).trans rfl;have hfz24_0:=blk_frozen BK544.out 0;have hfz24_1:=blk_frozen BK544.out 1;have hfz24_2:=blk_frozen BK544.out 2;have hcz25_0:w22.cell? ⟨gb545,0,none⟩=some (.int .i64 a1_0):=(blk_cell BK545.out 0).trans rfl;have hcz25_1:w22.cell? ⟨gb545,1,none⟩=some (.int .i64 a1_1):=(blk_cell BK545.out 1).trans rfl;have hcz25_2:w22.cell? ⟨gb545,2,none⟩=some (.int .i64 a1_2):=(blk_cell BK545.out 2).trans rfl;have hfz25_0:=blk_frozen BK545.out 0;have hfz25_1:=blk_frozen BK545.out 1;have hfz25_2:=blk_frozen BK545.out 2))
  go_ret
  exact⟨a12_,(a14_ GE544.out GE545.out)⟩

end Go.Proofs.Ytplpjmhmochcfaa.QFnMerges
