/- Written by a program of this session (the kit's printer, with leaf contracts proved by hand put in): what each Go function computes, and that the call computes it. No condition but those that each theorem names. -/
import Derived.Test.YtplpjmhmochcfaaQFnCopiesx0
import Derived.Test.YtplpjmhmochcfaaQFnCopiesx2
import Derived.Test.YtplpjmhmochcfaaQFnCopiesx3
import Derived.Test.YtplpjmhmochcfaaQFnCopiesx5
import Derived.Test.YtplpjmhmochcfaaQFnCopiesx6
namespace Go.Proofs.Ytplpjmhmochcfaa.QFnCopies
open Go.RowKit Go.Proofs.YtplpjmhmochcfaaW.PrintWords Go.Proofs.YtplpjmhmochcfaaW.PrintLast Go.Proofs.YtplpjmhmochcfaaW.PrintMore
attribute [local go_sem] max2_int min2_int max_two min_two max_three min_three max_four min_four   -- for this text's walks alone
set_option linter.unusedVariables false
set_option linter.unusedSimpArgs false

/-! ### spec_l1Cur_changed: function 58 -/
mutual
def spec_l1Cur_changed.l0:Nat→List (S42)→Int→List Int→Int→Int→Option ((List (S42))×Int×Int)
 | 0,_,_,_,_,_=>none
 | k+1,x5,x6,x1000,x1001,x1002=>if x6>0 then(if(x5.length:Int)>0 then((spec_l1Cur_one.f x1000 x1001 x1002 2).bind fun bt334=>(spec_l1Cur_changed.j1 k x5 x6 bt334.1 x1000 bt334.2.1 bt334.2.2)) else(spec_l1Cur_changed.j1 k x5 x6 false x1000 x1001 x1002)) else(some (x5,x1001,x1002))
def spec_l1Cur_changed.j1:Nat→List (S42)→Int→Bool→List Int→Int→Int→Option ((List (S42))×Int×Int)
 | 0,_,_,_,_,_,_=>none
 | k+1,x5,x6,x28,x1000,x1001,x1002=>if x28=true then((spec_l1Cur_pick.f x1000 x1001 x1002 (x5.length:Int)).bind fun bt337=>((spec_shDrop.f x5 bt337.1).bind fun t340=>(spec_l1Cur_changed.j2 k t340 x6 x1000 bt337.2.1 bt337.2.2))) else(spec_l1Cur_changed.j2 k x5 x6 x1000 x1001 x1002)
def spec_l1Cur_changed.j2:Nat→List (S42)→Int→List Int→Int→Int→Option ((List (S42))×Int×Int)
 | 0,_,_,_,_,_=>none
 | k+1,x5,x6,x1000,x1001,x1002=>(spec_l1Cur_hole.f x1000 x1001 x1002).bind fun bt343=>((spec_shWith.f k x5 bt343.1 bt343.2.1 bt343.2.2.1).bind fun bt348=>(if bt348.2=true then(spec_l1Cur_changed.l0 k bt348.1 (wrap64 (x6-1)) x1000 bt343.2.2.2.1 bt343.2.2.2.2) else(spec_l1Cur_changed.l0 k x5 (wrap64 (x6-1)) x1000 bt343.2.2.2.1 bt343.2.2.2.2)))
end
def spec_l1Cur_changed.f (k:Nat) (s0_0:List Int) (s0_1:Int) (s0_2:Int) (l1:List (S42)):Option ((List (S42))×Int×Int):=(some (([]:List (S42)):List (S42))).bind fun y324=>(if y324.length+l1.length<5864062014805 then((some (y324 ++ l1:List (S42))).bind fun y327=>((spec_shGood.f k l1).bind fun t330=>(if t330=true then((spec_l1Cur_pick.f s0_0 s0_1 s0_2 4).bind fun bt331=>(spec_l1Cur_changed.l0 k y327 bt331.1 s0_0 bt331.2.1 bt331.2.2)) else(some (y327,s0_1,s0_2))))) else(none))
theorem spec_l1Cur_changed.mono_l:∀k,(∀y0 y1 y2 y3 y4,LeO (spec_l1Cur_changed.l0 k y0 y1 y2 y3 y4) (spec_l1Cur_changed.l0 (k+1) y0 y1 y2 y3 y4))∧(∀y0 y1 y2 y3 y4 y5,LeO (spec_l1Cur_changed.j1 k y0 y1 y2 y3 y4 y5) (spec_l1Cur_changed.j1 (k+1) y0 y1 y2 y3 y4 y5))∧(∀y0 y1 y2 y3 y4,LeO (spec_l1Cur_changed.j2 k y0 y1 y2 y3 y4) (spec_l1Cur_changed.j2 (k+1) y0 y1 y2 y3 y4))
 | 0=>⟨fun _ _ _ _ _ r h=>by simp[spec_l1Cur_changed.l0]at h,fun _ _ _ _ _ _ r h=>by simp[spec_l1Cur_changed.j1]at h,fun _ _ _ _ _ r h=>by simp[spec_l1Cur_changed.j2]at h⟩
 | k+1=>by
  obtain⟨ih0,ih1,ih2⟩:=spec_l1Cur_changed.mono_l k
  refine⟨?_,?_,?_⟩
  intros
  unfold spec_l1Cur_changed.l0
  rotate_left
  intros
  unfold spec_l1Cur_changed.j1
  rotate_left
  intros
  unfold spec_l1Cur_changed.j2
  rotate_left
  all_goals repeat' first|(with_reducible first|exact ih0 _ _ _ _ _|exact ih1 _ _ _ _ _ _|exact ih2 _ _ _ _ _|exact spec_shGood.mono _ _|exact spec_shWith.mono _ _ _ _ _|exact LeO.refl _|exact LeO.none _|refine LeO.ite ?_ ?_|refine LeO.bind ?_ (fun _=>?_))|exact ih0 _ _ _ _ _|exact ih1 _ _ _ _ _ _|exact ih2 _ _ _ _ _|exact spec_shGood.mono _ _|exact spec_shWith.mono _ _ _ _ _|exact LeO.none _|refine LeO.ite ?_ ?_|refine LeO.bind ?_ (fun _=>?_)
theorem spec_l1Cur_changed.mono:∀a0 a1 a2 a3 k,LeO (spec_l1Cur_changed.f k a0 a1 a2 a3) (spec_l1Cur_changed.f (k+1) a0 a1 a2 a3):=by
 intro a0 a1 a2 a3 k
 obtain⟨ih0,ih1,ih2⟩:=spec_l1Cur_changed.mono_l k
 unfold spec_l1Cur_changed.f
 repeat' first
  |(with_reducible exact ih0 _ _ _ _ _)
  |(with_reducible exact ih1 _ _ _ _ _ _)
  |(with_reducible exact ih2 _ _ _ _ _)
  |(with_reducible exact spec_shGood.mono _ _)
  |(with_reducible exact spec_shWith.mono _ _ _ _ _)
  |(with_reducible exact LeO.refl _)
  |(with_reducible exact LeO.none _)
  |(with_reducible refine LeO.ite ?_ ?_)
  |(with_reducible refine LeO.bind ?_ (fun _=>?_))
  |exact ih0 _ _ _ _ _
  |exact ih1 _ _ _ _ _ _
  |exact ih2 _ _ _ _ _
  |exact spec_shGood.mono _ _
  |exact spec_shWith.mono _ _ _ _ _
  |exact LeO.none _
   | refine LeO.ite ?_ ?_
   | refine LeO.bind ?_ (fun _=>?_)
set_option maxHeartbeats 8000000 in
set_option maxRecDepth 100000 in
theorem spec_l1Cur_changed.calls (k:Nat) (g:Nat) (s0_0:List Int) (s0_1:Int) (s0_2:Int) (A1:Option Addr) (c1:Nat) (l1:List (S42)) (r1:List (S42)) (r2:Int) (r3:Int) (w0 w:World) (hI:IsS76 w0 w g s0_0 s0_1 s0_2) (hB:Below w0.heap.size w0 w) (hr1:∀W_,KeepBut w W_ g none→Kd.C k42 W_ A1 l1.length l1) (hc1:l1.length≤c1) (h:spec_l1Cur_changed.f k s0_0 s0_1 s0_2 l1=some (r1,r2,r3)) :
 Calls Try.prog 58 #[.pointer (some ⟨g,0,none⟩), .slice A1 l1.length c1] w fun e w'=>∃v0_:Value,e = .returned (v0_)∧Kd.R k42 42 w' w.heap.size (fun _=>True) v0_ r1∧IsS76 w0 w' g s0_0 r2 r3∧Below w0.heap.size w0 w'∧KeepBut w w' g none:=by
 have HR1:=am_ hr1
 have HC1:=am_ hc1
 clear hr1 hc1
 have HI0:=am_ hI
 have HK:=am_ (KeepBut.refl w g none)
 have HL:=am_ hB.size
 clear hI
 have HW0:=am_ hB.size
 have HB:=am_ hB
 clear hB
 have H:((some (([]:List (S42)):List (S42))).bind fun y324=>(if y324.length+l1.length<5864062014805 then((some (y324 ++ l1:List (S42))).bind fun y327=>((spec_shGood.f k l1).bind fun t330=>(if t330=true then((spec_l1Cur_pick.f s0_0 s0_1 s0_2 4).bind fun bt331=>(spec_l1Cur_changed.l0 k y327 bt331.1 s0_0 bt331.2.1 bt331.2.2)) else(some (y327,s0_1,s0_2))))) else(none)))=some (r1,r2,r3):=h
 clear h
 obtain⟨y324,hy324⟩:∃y_:List (S42),y_=(([]:List (S42))):=⟨_,rfl⟩
 replace H:(if y324.length+l1.length<5864062014805 then((some (y324 ++ l1:List (S42))).bind fun y327=>((spec_shGood.f k l1).bind fun t330=>(if t330=true then((spec_l1Cur_pick.f s0_0 s0_1 s0_2 4).bind fun bt331=>(spec_l1Cur_changed.l0 k y327 bt331.1 s0_0 bt331.2.1 bt331.2.2)) else(some (y327,s0_1,s0_2))))) else(none))=some (r1,r2,r3):=by first|(rw[hy324];with_reducible exact H)|(have H2_:=(Option.bind_some _ _).symm.trans H;rw[hy324];with_reducible exact H2_)|(have H2_:=(Option.bind_some _ _).symm.trans H;with_reducible exact H2_) | with_reducible exact H|(rw[hy324];exact H)|exact H
 have Ny324:=am_ hy324
 clear hy324
 by_cases c3:y324.length+l1.length<5864062014805
 ·rw[if_pos c3]at H
  have LMc3:=am_ c3
  clear c3
  obtain⟨y327,hy327⟩:∃y_:List (S42),y_=(y324 ++ l1):=⟨_,rfl⟩
  replace H:((spec_shGood.f k l1).bind fun t330=>(if t330=true then((spec_l1Cur_pick.f s0_0 s0_1 s0_2 4).bind fun bt331=>(spec_l1Cur_changed.l0 k y327 bt331.1 s0_0 bt331.2.1 bt331.2.2)) else(some (y327,s0_1,s0_2))))=some (r1,r2,r3):=by first|(rw[hy327];with_reducible exact H)|(have H2_:=(Option.bind_some _ _).symm.trans H;rw[hy327];with_reducible exact H2_)|(have H2_:=(Option.bind_some _ _).symm.trans H;with_reducible exact H2_) | with_reducible exact H|(rw[hy327];exact H)|exact H
  have Ny327:=am_ hy327
  clear hy327
  obtain⟨t330,A4,H⟩:=bo_ H
  try dsimp only at H
  by_cases c5:t330=true
  ·subst c5
   replace H:((spec_l1Cur_pick.f s0_0 s0_1 s0_2 4).bind fun bt331=>(spec_l1Cur_changed.l0 k y327 bt331.1 s0_0 bt331.2.1 bt331.2.2))=some (r1,r2,r3):=by rw[if_pos rfl]at H;exact H
   obtain⟨⟨t331,t332,t333⟩,A6,H⟩:=bo_ H
   try dsimp only at H
   have H':=am_ H
   clear H
   go_enter Try.func58,Try.ntmps58
   go_wp2_with (first|((with_reducible refine gate_dst (N:=9) rfl ?_);refine Kd.R_lit k42 _ 42 ?hg (N:=9) ?hd (xs:=([]:List (S42))) (inner:=[]) (ok:=fun _=>True) (okp:=fun _=>True) ?hr ?hp (fun _ hk=>hk) trivial (Below.refl _ _) (Nat.le_refl _) (by simp) ?_;(case hd=>rfl);(case hg=>rfl);(case hr=>exact hr_);(case hp=>exact(Reps.none _ _));intro v325 w7 ho8 hb hg_ hnew_;clear hg_ hnew_;(first|rw[← Ny324.out]at ho8|(simp only[Int.reduceToNat]at ho8;rw[← Ny324.out]at ho8));have HO326:=am_ (Kd.R_lower ho8 (keep_size (w:=w) (g:=g) (row:=none) (a6_)));replace HK:=am_ (KeepBut.trans (a6_) (KeepBut.of_below hb g none) (.inl rfl));replace HB:=am_ (below_step ((a4_ HI0.out)) hb);replace HI0:=am_ (IsS76.below ((a3_ HI0.out)) hb);clear hb ho8)|((with_reducible refine gate_builtin (b:= .append) (xs:= #[.tmp 9, .tmp 10]) rfl ?_);at_builtin;refine Kd.R_append_rows k42 w.heap.size rfl (.tmp 9) (.tmp 10) 32 42 (.agg #[(.int .i64 0),(.int .i64 0),(.int .i64 0)]) 24 rfl Try.underlying32 info42 rfl (by decide) (by omega) v325 y324 l1 _ _ _ (fun _=>True) (fun _=>False) rfl rfl ?aO ?aR (fun _ _ h=>h) (fun _ h=>h.elim) ?aF (Below.refl _ _) ?aS ?aL ?_;(case aR=>exact Kd.C_foot_now HR1.out (a6_));(case aF=>exact(fun _ _=>trivial));(case aO=>exact((a1_ HO326.out)));(case aS=>exact(keep_size (w:=w) (g:=g) (row:=none) (a6_)));(case aL=>have:=LMc3.out;omega);intro v328 w9 ho hb hg hat;rw[← Ny327.out]at ho;have n0_:=am_ (IsS76.grown ((a3_ HI0.out)) hg (IsS76.own_ne HI0.out HO326.out (by decide)));have n1_:=am_ (below_weaken ((a4_ HI0.out)) HL.out hb);have n2_:=am_ (KeepBut.trans (a6_) (KeepBut.of_grown hg g) (Kd.R_base2 HO326.out));have n3_:=am_ (ho);clear HI0 HB HK HO326;have HI0:=n0_;have HB:=n1_;have HK:=n2_;have HO329:=n3_;clear n0_ n1_ n2_ n3_ ho hb hg hat)|((with_reducible refine gate_callee (f:=62) rfl ?_);refine goesL_ (some 13) rfl rfl Try.func62 (by kernel_rfl) rfl #[.slice A1 l1.length c1] rfl gd_ ?_;(with_reducible refine(spec_shGood.calls k _ _ l1 true _ ?side1 ?side2 A4.out).mono ?_);(case side1=>exact Kd.C_foot_now HR1.out (a6_));(case side2=>exact HC1.out);rintro e w10 ⟨rfl,hb⟩;refine⟨_,rfl,?_⟩;replace HO329:=am_ (Kd.R_below ((a1_ HO329.out)) hb);replace HK:=am_ (KeepBut.trans (a6_) (KeepBut.of_below hb g none) (.inl rfl));replace HB:=am_ (below_step ((a4_ HI0.out)) hb);replace HI0:=am_ (IsS76.below ((a3_ HI0.out)) hb);(try clear hb);(try clear hb2);(try clear hk);(try clear hi))|((with_reducible refine gate_callee (f:=55) rfl ?_);refine goesL_ (some 17) rfl rfl Try.func55 (by kernel_rfl) rfl #[.pointer (some ⟨g,0,none⟩), .int .i64 4] rfl gd_ ?_;(with_reducible refine(spec_l1Cur_pick.calls g s0_0 s0_1 s0_2 4 t331 t332 t333 w0 _ ?side1 ?side2 A6.out).mono ?_);(case side1=>exact(a3_ HI0.out));(case side2=>exact(a4_ HI0.out));rintro e w11 ⟨rfl,hi,hb,hk⟩;refine⟨_,rfl,?_⟩;replace HO329:=am_ (Kd.R_mono (Kd.R_keep (IsS76.apart (show IsS76 w0 _ g s0_0 s0_1 s0_2 from(a3_ HI0.out)) ((a1_ HO329.out)) (by decide)) hk (fun _ h=>h.2)) (fun _ h=>h.1));replace HK:=am_ (KeepBut.trans (a6_) hk (.inl rfl));replace HB:=am_ (hb);replace HI0:=am_ (hi);(try clear hb);(try clear hb2);(try clear hk);(try clear hi)))
   (try simp only[Act.put,List.setIfInBounds_toArray,List.set_cons_zero,List.set_cons_succ])
   go_loopg [5,6] k (fun kq v5 v6 w'=>∃(x5_1:List (S42)) (x6_1:Int) (x1001_1:Int) (x1002_1:Int),v6 = .int .i64 x6_1∧Aside0 (spec_l1Cur_changed.l0 kq x5_1 x6_1 s0_0 x1001_1 x1002_1=some (r1,r2,r3))∧Aside0 (kq≤k)∧Aside0 (Kd.R k42 42 w' w.heap.size (fun _=>True) v5 x5_1)∧Aside0 (IsS76 w0 w' g s0_0 x1001_1 x1002_1)∧Aside0 (KeepBut w w' g none)∧Aside0 (Below w0.heap.size w0 w'))
   case atStart=>exact⟨(y327),(t331),(t332),(t333),(by first | rfl|(simp;done)|(simp[*];done)),H',⟨Nat.le_refl _⟩,⟨(a1_ HO329.out)⟩,⟨(a3_ HI0.out)⟩,⟨a6_⟩,⟨(a4_ HI0.out)⟩⟩
   case round=>
    clear H'
    try clear c1
    try clear p2
    try clear c3
    try clear c5
    try clear c6
    obtain⟨x5_1,x6_1,x1001_1,x1002_1,rfl,HA,HK1,HO_5,HI0,HK,HB⟩:=hrel
    cases gk with
    | zero=>exact absurd HA.out (by simp[spec_l1Cur_changed.l0])
    | succ k1=>
     have H:=HA.out
     clear HA
     simp only[spec_l1Cur_changed.l0]at H
     by_cases c12:x6_1>0
     ·rw[if_pos c12]at H
      have c12b0:decide (0<x6_1)=true:=decide_eq_true c12
      clear c12
      have HC13:=am_ H
      clear H
      go_upto_region 7 with (fail)
      go_cut [28] (fun v28 wc=>∃(kq:Nat) (x28_12:Bool) (x1001_12:Int) (x1002_12:Int),v28 = .bool x28_12∧Aside0 (spec_l1Cur_changed.j1 kq x5_1 x6_1 x28_12 s0_0 x1001_12 x1002_12=some (r1,r2,r3))∧Aside0 (kq≤k1)∧Aside0 (Kd.R k42 42 wc w.heap.size (fun _=>True) u5 x5_1)∧Aside0 (IsS76 w0 wc g s0_0 x1001_12 x1002_12)∧Aside0 (KeepBut w wc g none)∧Aside0 (Below w0.heap.size w0 wc))
      case first=>
       have H:=HC13.out
       clear HC13
       by_cases c14:(x5_1.length:Int)>0
       ·rw[if_pos c14]at H
        have c14b0:decide (0<(x5_1.length:Int))=true:=decide_eq_true c14
        have c14b1:decide (0<x5_1.length)=true:=decide_eq_true (by omega)
        clear c14
        (first|rw[c14b0]|(simp only[i64_w,i32_w];rw[c14b0]) | skip)
        obtain⟨⟨t334,t335,t336⟩,A15,H⟩:=bo_ H
        try dsimp only at H
        have H':=am_ H
        clear H
        obtain⟨Ao16,co16,eo16⟩:=Kd.R_slice HO_5.out
        subst eo16
        go_wp2_with (first|(go_at_call 56;(with_reducible refine(spec_l1Cur_one.calls g s0_0 x1001_1 x1002_1 2 t334 t335 t336 w0 _ ?side1 ?side2 A15.out).mono ?_);(case side1=>exact(a3_ HI0.out));(case side2=>exact(a4_ HI0.out));rintro e w17 ⟨rfl,hi,hb,hk⟩;replace HO_5:=am_ (Kd.R_mono (Kd.R_keep (IsS76.apart (show IsS76 w0 _ g s0_0 x1001_1 x1002_1 from(a3_ HI0.out)) ((a1_ HO_5.out)) (by decide)) hk (fun _ h=>h.2)) (fun _ h=>h.1));replace HK:=am_ (KeepBut.trans (a6_) hk (.inl rfl));replace HB:=am_ (hb);replace HI0:=am_ (hi);(try clear hb);(try clear hb2);(try clear hk);(try clear hi)))
        go_meet
        case rel=>exact⟨_,(t334),(t335),(t336),(by first | rfl|(simp;done)|(simp[*];done)),H',⟨by have:=HK1.out;first | omega|exact Nat.le_refl _⟩,⟨(a1_ HO_5.out)⟩,⟨(a3_ HI0.out)⟩,⟨a6_⟩,⟨(a4_ HI0.out)⟩⟩
       ·rw[if_neg c14]at H
        have c14b0:decide (0<(x5_1.length:Int))=false:=decide_eq_false c14
        have c14b1:decide (0<x5_1.length)=false:=decide_eq_false (by omega)
        clear c14
        (first|rw[c14b0]|(simp only[i64_w,i32_w];rw[c14b0]) | skip)
        have H':=am_ H
        clear H
        obtain⟨Ao18,co18,eo18⟩:=Kd.R_slice HO_5.out
        subst eo18
        go_wp2
        go_meet
        case rel=>exact⟨_,(false),(x1001_1),(x1002_1),(by first | rfl|(simp;done)|(simp[*];done)),H',⟨by have:=HK1.out;first | omega|exact Nat.le_refl _⟩,⟨(a1_ HO_5.out)⟩,⟨(a3_ HI0.out)⟩,⟨a6_⟩,⟨(a4_ HI0.out)⟩⟩
      case rest=>
       clear HC13
       try clear c1
       try clear p2
       try clear c3
       try clear c5
       try clear c6
       try clear c12
       try clear c12b0
       try clear c14
       try clear c14b0
       try clear c14b1
       try clear p2
       obtain⟨kq,x28_12,x1001_12,x1002_12,rfl,HA,HJ12,HO_5,HI0,HK,HB⟩:=hcut
       cases kq with
       | zero=>exact absurd HA.out (by simp[spec_l1Cur_changed.j1])
       | succ kj12=>
        have H:=HA.out
        clear HA
        simp only[spec_l1Cur_changed.j1]at H
        have HC19:=am_ H
        clear H
        go_upto_if 28 with (fail)
        go_cut [5] (fun v5 wc=>∃(kq:Nat) (x5_18:List (S42)) (x1001_18:Int) (x1002_18:Int),Aside0 (spec_l1Cur_changed.j2 kq x5_18 x6_1 s0_0 x1001_18 x1002_18=some (r1,r2,r3))∧Aside0 (kq≤kj12)∧Aside0 (Kd.R k42 42 wc w.heap.size (fun _=>True) v5 x5_18)∧Aside0 (IsS76 w0 wc g s0_0 x1001_18 x1002_18)∧Aside0 (KeepBut w wc g none)∧Aside0 (Below w0.heap.size w0 wc))
        case first=>
         have H:=HC19.out
         clear HC19
         by_cases c20:x28_12=true
         ·subst c20
          replace H:((spec_l1Cur_pick.f s0_0 x1001_12 x1002_12 (x5_1.length:Int)).bind fun bt337=>((spec_shDrop.f x5_1 bt337.1).bind fun t340=>(spec_l1Cur_changed.j2 kj12 t340 x6_1 s0_0 bt337.2.1 bt337.2.2)))=some (r1,r2,r3):=by rw[if_pos rfl]at H;exact H
          obtain⟨⟨t337,t338,t339⟩,A21,H⟩:=bo_ H
          try dsimp only at H
          obtain⟨t340,A22,H⟩:=bo_ H
          try dsimp only at H
          have H':=am_ H
          clear H
          obtain⟨Ao23,co23,eo23⟩:=Kd.R_slice HO_5.out
          subst eo23
          go_wp2_with (first|((with_reducible refine gate_callee (f:=55) rfl ?_);refine goesL_ (some 33) rfl rfl Try.func55 (by kernel_rfl) rfl #[.pointer (some ⟨g,0,none⟩), .int .i64 (x5_1.length:Int)] rfl gd_ ?_;(with_reducible refine(spec_l1Cur_pick.calls g s0_0 x1001_12 x1002_12 (x5_1.length:Int) t337 t338 t339 w0 _ ?side1 ?side2 A21.out).mono ?_);(case side1=>exact(a3_ HI0.out));(case side2=>exact(a4_ HI0.out));rintro e w24 ⟨rfl,hi,hb,hk⟩;refine⟨_,rfl,?_⟩;replace HO_5:=am_ (Kd.R_mono (Kd.R_keep (IsS76.apart (show IsS76 w0 _ g s0_0 x1001_12 x1002_12 from(a3_ HI0.out)) ((a1_ HO_5.out)) (by decide)) hk (fun _ h=>h.2)) (fun _ h=>h.1));replace HK:=am_ (KeepBut.trans (a6_) hk (.inl rfl));replace HB:=am_ (hb);replace HI0:=am_ (hi);(try clear hb);(try clear hb2);(try clear hk);(try clear hi))|((with_reducible refine gate_callee (f:=100) rfl ?_);refine goesL_ (some 34) rfl rfl Try.func100 (by kernel_rfl) rfl #[.slice Ao23 x5_1.length co23, .int .i64 t337] rfl gd_ ?_;(with_reducible refine(spec_shDrop.calls _ _ x5_1 t337 t340 _ ?side1 ?side2 A22.out).mono ?_);(case side1=>exact(a11_ HO_5.out));(case side2=>exact(Kd.R_reads' HO_5.out).2.1);rintro e w25 ⟨v341,rfl,ho0,hb⟩;refine⟨_,rfl,?_⟩;have HO342:=am_ (Kd.R_lower (Kd.R_new' ho0 (Kd.R_lt ((a1_ HO_5.out)))) (keep_size (w:=w) (g:=g) (row:=none) (a6_)));replace HO_5:=am_ (Kd.R_elder' ((a1_ HO_5.out)) (Kd.R_base ho0) hb);replace HK:=am_ (KeepBut.trans (a6_) (KeepBut.of_below hb g none) (.inl rfl));replace HB:=am_ (below_step ((a4_ HI0.out)) hb);replace HI0:=am_ (IsS76.below ((a3_ HI0.out)) hb);(try clear hb);(try clear hb2);(try clear hk);(try clear hi);(try clear ho0)))
          go_meet
          case rel=>exact⟨_,(t340),(t338),(t339),H',⟨by have:=HK1.out;have:=HJ12.out;first | omega|exact Nat.le_refl _⟩,⟨(a27_ HO342.out)⟩,⟨(a3_ HI0.out)⟩,⟨a6_⟩,⟨(a4_ HI0.out)⟩⟩
         ·replace c20:=Bool.eq_false_iff.mpr c20
          subst c20
          replace H:(spec_l1Cur_changed.j2 kj12 x5_1 x6_1 s0_0 x1001_12 x1002_12)=some (r1,r2,r3):=by rw[if_neg (show ¬(false=true) by decide)]at H;exact H
          have H':=am_ H
          clear H
          go_wp2
          go_meet
          case rel=>exact⟨_,(x5_1),(x1001_12),(x1002_12),H',⟨by have:=HK1.out;have:=HJ12.out;first | omega|exact Nat.le_refl _⟩,⟨(a1_ HO_5.out)⟩,⟨(a3_ HI0.out)⟩,⟨a6_⟩,⟨(a4_ HI0.out)⟩⟩
        case rest=>
         clear HC19
         try clear c1
         try clear c2
         try clear p2
         try clear c3
         try clear c5
         try clear c6
         try clear c10
         try clear c12
         try clear c12b0
         try clear c14
         try clear c14b0
         try clear c14b1
         try clear c20
         try clear p2
         obtain⟨kq,x5_18,x1001_18,x1002_18,HA,HJ18,HO_5,HI0,HK,HB⟩:=hcut
         cases kq with
         | zero=>exact absurd HA.out (by simp[spec_l1Cur_changed.j2])
         | succ kj18=>
          have H:=HA.out
          clear HA
          simp only[spec_l1Cur_changed.j2]at H
          obtain⟨⟨t343,t344,t345,t346,t347⟩,A26,H⟩:=bo_ H
          try dsimp only at H
          obtain⟨⟨t348,t351⟩,A27,H⟩:=bo_ H
          try dsimp only at H
          by_cases c28:t351=true
          ·subst c28
           replace H:(spec_l1Cur_changed.l0 kj18 t348 (wrap64 (x6_1-1)) s0_0 t346 t347)=some (r1,r2,r3):=by rw[if_pos rfl]at H;exact H
           have H':=am_ H
           clear H
           go_wp2_with (first|((with_reducible refine gate_callee (f:=101) rfl ?_);refine goesL_ (some 38) rfl rfl Try.func101 (by kernel_rfl) rfl #[.pointer (some ⟨g,0,none⟩)] rfl gd_ ?_;(with_reducible refine(spec_l1Cur_hole.calls g s0_0 x1001_18 x1002_18 t343 t344 t345 t346 t347 w0 _ ?side1 ?side2 A26.out).mono ?_);(case side1=>exact(a3_ HI0.out));(case side2=>exact(a4_ HI0.out));rintro e w29 ⟨rfl,hi,hb,hk⟩;refine⟨_,rfl,?_⟩;replace HO_5:=am_ (Kd.R_mono (Kd.R_keep (IsS76.apart (show IsS76 w0 _ g s0_0 x1001_18 x1002_18 from(a3_ HI0.out)) ((a1_ HO_5.out)) (by decide)) hk (fun _ h=>h.2)) (fun _ h=>h.1));replace HK:=am_ (KeepBut.trans (a6_) hk (.inl rfl));replace HB:=am_ (hb);replace HI0:=am_ (hi);(try clear hb);(try clear hb2);(try clear hk);(try clear hi);obtain⟨Ao30,co30,eo30⟩:=Kd.R_slice HO_5.out;subst eo30)|((with_reducible refine gate_callee (f:=88) rfl ?_);refine goesL_ (some 39) rfl rfl Try.func88 (by kernel_rfl) rfl #[.slice Ao30 x5_18.length co30, .agg #[.int .i64 t343, .int .i64 t344, .int .i64 t345]] rfl gd_ ?_;(with_reducible refine(spec_shWith.calls kj18 _ _ x5_18 t343 t344 t345 t348 true _ ?side1 ?side2 A27.out).mono ?_);(case side1=>exact(a11_ HO_5.out));(case side2=>exact(Kd.R_reads' HO_5.out).2.1);rintro e w31 ⟨v349,rfl,ho0,hb⟩;refine⟨_,rfl,?_⟩;have HO350:=am_ (Kd.R_lower (Kd.R_new' ho0 (Kd.R_lt ((a1_ HO_5.out)))) (keep_size (w:=w) (g:=g) (row:=none) (a6_)));replace HO_5:=am_ (Kd.R_elder' ((a1_ HO_5.out)) (Kd.R_base ho0) hb);replace HK:=am_ (KeepBut.trans (a6_) (KeepBut.of_below hb g none) (.inl rfl));replace HB:=am_ (below_step ((a4_ HI0.out)) hb);replace HI0:=am_ (IsS76.below ((a3_ HI0.out)) hb);(try clear hb);(try clear hb2);(try clear hk);(try clear hi);(try clear ho0)))
           go_roundg kj18
           case measure=>have:=HK1.out;have:=HJ12.out;have:=HJ18.out;omega
           case rel=>exact⟨(t348),(wrap64 (x6_1-1)),(t346),(t347),(by first | rfl|(simp;done)|(simp[*];done)),H',⟨by have:=HK1.out;have:=HJ12.out;have:=HJ18.out;omega⟩,⟨(a27_ HO350.out)⟩,⟨(a3_ HI0.out)⟩,⟨a6_⟩,⟨(a4_ HI0.out)⟩⟩
          ·replace c28:=Bool.eq_false_iff.mpr c28
           subst c28
           replace H:(spec_l1Cur_changed.l0 kj18 x5_18 (wrap64 (x6_1-1)) s0_0 t346 t347)=some (r1,r2,r3):=by rw[if_neg (show ¬(false=true) by decide)]at H;exact H
           have H':=am_ H
           clear H
           go_wp2_with (first|((with_reducible refine gate_callee (f:=101) rfl ?_);refine goesL_ (some 38) rfl rfl Try.func101 (by kernel_rfl) rfl #[.pointer (some ⟨g,0,none⟩)] rfl gd_ ?_;(with_reducible refine(spec_l1Cur_hole.calls g s0_0 x1001_18 x1002_18 t343 t344 t345 t346 t347 w0 _ ?side1 ?side2 A26.out).mono ?_);(case side1=>exact(a3_ HI0.out));(case side2=>exact(a4_ HI0.out));rintro e w32 ⟨rfl,hi,hb,hk⟩;refine⟨_,rfl,?_⟩;replace HO_5:=am_ (Kd.R_mono (Kd.R_keep (IsS76.apart (show IsS76 w0 _ g s0_0 x1001_18 x1002_18 from(a3_ HI0.out)) ((a1_ HO_5.out)) (by decide)) hk (fun _ h=>h.2)) (fun _ h=>h.1));replace HK:=am_ (KeepBut.trans (a6_) hk (.inl rfl));replace HB:=am_ (hb);replace HI0:=am_ (hi);(try clear hb);(try clear hb2);(try clear hk);(try clear hi);obtain⟨Ao33,co33,eo33⟩:=Kd.R_slice HO_5.out;subst eo33)|((with_reducible refine gate_callee (f:=88) rfl ?_);refine goesL_ (some 39) rfl rfl Try.func88 (by kernel_rfl) rfl #[.slice Ao33 x5_18.length co33, .agg #[.int .i64 t343, .int .i64 t344, .int .i64 t345]] rfl gd_ ?_;(with_reducible refine(spec_shWith.calls kj18 _ _ x5_18 t343 t344 t345 t348 false _ ?side1 ?side2 A27.out).mono ?_);(case side1=>exact(a11_ HO_5.out));(case side2=>exact(Kd.R_reads' HO_5.out).2.1);rintro e w34 ⟨v349,rfl,ho0,hb⟩;refine⟨_,rfl,?_⟩;have HO350:=am_ (Kd.R_lower (Kd.R_new' ho0 (Kd.R_lt ((a1_ HO_5.out)))) (keep_size (w:=w) (g:=g) (row:=none) (a6_)));replace HO_5:=am_ (Kd.R_elder' ((a1_ HO_5.out)) (Kd.R_base ho0) hb);replace HK:=am_ (KeepBut.trans (a6_) (KeepBut.of_below hb g none) (.inl rfl));replace HB:=am_ (below_step ((a4_ HI0.out)) hb);replace HI0:=am_ (IsS76.below ((a3_ HI0.out)) hb);(try clear hb);(try clear hb2);(try clear hk);(try clear hi);(try clear ho0)))
           go_roundg kj18
           case measure=>have:=HK1.out;have:=HJ12.out;have:=HJ18.out;omega
           case rel=>exact⟨(x5_18),(wrap64 (x6_1-1)),(t346),(t347),(by first | rfl|(simp;done)|(simp[*];done)),H',⟨by have:=HK1.out;have:=HJ12.out;have:=HJ18.out;omega⟩,⟨(a27_ HO_5.out)⟩,⟨(a3_ HI0.out)⟩,⟨a6_⟩,⟨(a4_ HI0.out)⟩⟩
     ·rw[if_neg c12]at H
      have c12b0:decide (0<x6_1)=false:=decide_eq_false c12
      clear c12
      simp only[Option.some.injEq,Prod.mk.injEq]at H
      obtain⟨rfl,rfl,rfl⟩:=H
      go_wp2
      go_ret
      exact⟨_,a9_,(a1_ HO_5.out),(a3_ HI0.out),(a4_ HI0.out),a6_⟩
  ·replace c5:=Bool.eq_false_iff.mpr c5
   subst c5
   replace H:(some (y327,s0_1,s0_2))=some (r1,r2,r3):=by rw[if_neg (show ¬(false=true) by decide)]at H;exact H
   simp only[Option.some.injEq,Prod.mk.injEq]at H
   obtain⟨rfl,rfl,rfl⟩:=H
   go_enter Try.func58,Try.ntmps58
   go_wp2_with (first|((with_reducible refine gate_dst (N:=9) rfl ?_);refine Kd.R_lit k42 _ 42 ?hg (N:=9) ?hd (xs:=([]:List (S42))) (inner:=[]) (ok:=fun _=>True) (okp:=fun _=>True) ?hr ?hp (fun _ hk=>hk) trivial (Below.refl _ _) (Nat.le_refl _) (by simp) ?_;(case hd=>rfl);(case hg=>rfl);(case hr=>exact hr_);(case hp=>exact(Reps.none _ _));intro v325 w35 ho36 hb hg_ hnew_;clear hg_ hnew_;(first|rw[← Ny324.out]at ho36|(simp only[Int.reduceToNat]at ho36;rw[← Ny324.out]at ho36));have HO326:=am_ (Kd.R_lower ho36 (keep_size (w:=w) (g:=g) (row:=none) (a6_)));replace HK:=am_ (KeepBut.trans (a6_) (KeepBut.of_below hb g none) (.inl rfl));replace HB:=am_ (below_step ((a4_ HI0.out)) hb);replace HI0:=am_ (IsS76.below ((a3_ HI0.out)) hb);clear hb ho36)|((with_reducible refine gate_builtin (b:= .append) (xs:= #[.tmp 9, .tmp 10]) rfl ?_);at_builtin;refine Kd.R_append_rows k42 w.heap.size rfl (.tmp 9) (.tmp 10) 32 42 (.agg #[(.int .i64 0),(.int .i64 0),(.int .i64 0)]) 24 rfl Try.underlying32 info42 rfl (by decide) (by omega) v325 y324 l1 _ _ _ (fun _=>True) (fun _=>False) rfl rfl ?aO ?aR (fun _ _ h=>h) (fun _ h=>h.elim) ?aF (Below.refl _ _) ?aS ?aL ?_;(case aR=>exact Kd.C_foot_now HR1.out (a6_));(case aF=>exact(fun _ _=>trivial));(case aO=>exact((a1_ HO326.out)));(case aS=>exact(keep_size (w:=w) (g:=g) (row:=none) (a6_)));(case aL=>have:=LMc3.out;omega);intro v328 w37 ho hb hg hat;rw[← Ny327.out]at ho;have n0_:=am_ (IsS76.grown ((a3_ HI0.out)) hg (IsS76.own_ne HI0.out HO326.out (by decide)));have n1_:=am_ (below_weaken ((a4_ HI0.out)) HL.out hb);have n2_:=am_ (KeepBut.trans (a6_) (KeepBut.of_grown hg g) (Kd.R_base2 HO326.out));have n3_:=am_ (ho);clear HI0 HB HK HO326;have HI0:=n0_;have HB:=n1_;have HK:=n2_;have HO329:=n3_;clear n0_ n1_ n2_ n3_ ho hb hg hat)|((with_reducible refine gate_callee (f:=62) rfl ?_);refine goesL_ (some 13) rfl rfl Try.func62 (by kernel_rfl) rfl #[.slice A1 l1.length c1] rfl gd_ ?_;(with_reducible refine(spec_shGood.calls k _ _ l1 false _ ?side1 ?side2 A4.out).mono ?_);(case side1=>exact Kd.C_foot_now HR1.out (a6_));(case side2=>exact HC1.out);rintro e w38 ⟨rfl,hb⟩;refine⟨_,rfl,?_⟩;replace HO329:=am_ (Kd.R_below ((a1_ HO329.out)) hb);replace HK:=am_ (KeepBut.trans (a6_) (KeepBut.of_below hb g none) (.inl rfl));replace HB:=am_ (below_step ((a4_ HI0.out)) hb);replace HI0:=am_ (IsS76.below ((a3_ HI0.out)) hb);(try clear hb);(try clear hb2);(try clear hk);(try clear hi)))
   go_ret
   exact⟨_,a9_,(a1_ HO329.out),(a3_ HI0.out),(a4_ HI0.out),a6_⟩
 ·rw[if_neg c3]at H
  exact absurd H (by simp)

/-! ### spec_DrawAgreeingCopies: function 10 -/
mutual
def spec_DrawAgreeingCopies.j0:Nat→List (S42)→List (List (S42))→Int→List Int→Int→Int→Option ((List (List (S42))))
 | 0,_,_,_,_,_,_=>none
 | k+1,x4,x5,x6,x353000,x353001,x353002=>spec_DrawAgreeingCopies.l0 k x4 x5 x6 x353000 x353001 x353002
def spec_DrawAgreeingCopies.l0:Nat→List (S42)→List (List (S42))→Int→List Int→Int→Int→Option ((List (List (S42))))
 | 0,_,_,_,_,_,_=>none
 | k+1,x4,x5,x6,x353000,x353001,x353002=>if(x5.length:Int)<x6 then((spec_l1Cur_one.f x353000 x353001 x353002 3).bind fun bt370=>(if bt370.1=true then((spec_l1Cur_changed.f k x353000 bt370.2.1 bt370.2.2 x4).bind fun bt373=>(if x5.length<5864062014805 then(spec_DrawAgreeingCopies.l0 k x4 (x5 ++ [bt373.1]) x6 x353000 bt373.2.1 bt373.2.2) else(none))) else(if x5.length<5864062014805 then(spec_DrawAgreeingCopies.l0 k x4 (x5 ++ [x4]) x6 x353000 bt370.2.1 bt370.2.2) else(none)))) else(some x5)
end
def spec_DrawAgreeingCopies.f (k:Nat) (l0:List Int):Option ((List (List (S42)))):=(spec_l1Cur_anySheet.f k l0 0 0).bind fun bt353=>((spec_l1Cur_pick.f l0 bt353.2.1 bt353.2.2 5).bind fun bt358=>((spec_l1Cur_one.f l0 bt358.2.1 bt358.2.2 16).bind fun bt361=>(if bt361.1=true then((spec_l1Cur_among.f l0 bt361.2.1 bt361.2.2 (([0,9,10]:List Int))).bind fun bt367=>(spec_DrawAgreeingCopies.j0 k bt353.1 ([]:List (List (S42))) bt367.1 l0 bt367.2.1 bt367.2.2)) else(spec_DrawAgreeingCopies.j0 k bt353.1 ([]:List (List (S42))) (wrap64 (1+bt358.1)) l0 bt361.2.1 bt361.2.2))))
theorem spec_DrawAgreeingCopies.mono_l:∀k,(∀y0 y1 y2 y3 y4 y5,LeO (spec_DrawAgreeingCopies.j0 k y0 y1 y2 y3 y4 y5) (spec_DrawAgreeingCopies.j0 (k+1) y0 y1 y2 y3 y4 y5))∧(∀y0 y1 y2 y3 y4 y5,LeO (spec_DrawAgreeingCopies.l0 k y0 y1 y2 y3 y4 y5) (spec_DrawAgreeingCopies.l0 (k+1) y0 y1 y2 y3 y4 y5))
 | 0=>⟨fun _ _ _ _ _ _ r h=>by simp[spec_DrawAgreeingCopies.j0]at h,fun _ _ _ _ _ _ r h=>by simp[spec_DrawAgreeingCopies.l0]at h⟩
 | k+1=>by
  obtain⟨ih0,ih1⟩:=spec_DrawAgreeingCopies.mono_l k
  refine⟨?_,?_⟩
  intros
  unfold spec_DrawAgreeingCopies.j0
  rotate_left
  intros
  unfold spec_DrawAgreeingCopies.l0
  rotate_left
  all_goals repeat' first|(with_reducible first|exact ih0 _ _ _ _ _ _|exact ih1 _ _ _ _ _ _|exact spec_l1Cur_anySheet.mono _ _ _ _|exact spec_l1Cur_changed.mono _ _ _ _ _|exact LeO.refl _|exact LeO.none _|refine LeO.ite ?_ ?_|refine LeO.bind ?_ (fun _=>?_))|exact ih0 _ _ _ _ _ _|exact ih1 _ _ _ _ _ _|exact spec_l1Cur_anySheet.mono _ _ _ _|exact spec_l1Cur_changed.mono _ _ _ _ _|exact LeO.none _|refine LeO.ite ?_ ?_|refine LeO.bind ?_ (fun _=>?_)
theorem spec_DrawAgreeingCopies.mono:∀a0 k,LeO (spec_DrawAgreeingCopies.f k a0) (spec_DrawAgreeingCopies.f (k+1) a0):=by
 intro a0 k
 obtain⟨ih0,ih1⟩:=spec_DrawAgreeingCopies.mono_l k
 unfold spec_DrawAgreeingCopies.f
 repeat' first
  |(with_reducible exact ih0 _ _ _ _ _ _)
  |(with_reducible exact ih1 _ _ _ _ _ _)
  |(with_reducible exact spec_l1Cur_anySheet.mono _ _ _ _)
  |(with_reducible exact spec_l1Cur_changed.mono _ _ _ _ _)
  |(with_reducible exact LeO.refl _)
  |(with_reducible exact LeO.none _)
  |(with_reducible refine LeO.ite ?_ ?_)
  |(with_reducible refine LeO.bind ?_ (fun _=>?_))
  |exact ih0 _ _ _ _ _ _
  |exact ih1 _ _ _ _ _ _
  |exact spec_l1Cur_anySheet.mono _ _ _ _
  |exact spec_l1Cur_changed.mono _ _ _ _ _
  |exact LeO.none _
   | refine LeO.ite ?_ ?_
   | refine LeO.bind ?_ (fun _=>?_)
set_option maxHeartbeats 8000000 in
set_option maxRecDepth 100000 in
theorem spec_DrawAgreeingCopies.calls (k:Nat) (A0:Option Addr) (c0:Nat) (l0:List Int) (r:List (List (S42))) (w:World) (hr0:Kd.C (Kd.int .u8) w A0 l0.length l0) (hc0:l0.length≤c0) (h:spec_DrawAgreeingCopies.f k l0=some r) :
 Calls Try.prog 10 #[.slice A0 l0.length c0] w fun e w'=>∃v0_:Value,e = .returned (v0_)∧Kd.R (Kd.slice 42 k42) 32 w' w.heap.size (fun _=>True) v0_ r∧Below w.heap.size w w':=by
 have hu76:=Try.underlying76
 have HR0:=am_ hr0
 have HC0:=am_ hc0
 clear hr0 hc0
 have HB:=am_ (Below.refl w.heap.size w)
 have H:((spec_l1Cur_anySheet.f k l0 0 0).bind fun bt353=>((spec_l1Cur_pick.f l0 bt353.2.1 bt353.2.2 5).bind fun bt358=>((spec_l1Cur_one.f l0 bt358.2.1 bt358.2.2 16).bind fun bt361=>(if bt361.1=true then((spec_l1Cur_among.f l0 bt361.2.1 bt361.2.2 (([0,9,10]:List Int))).bind fun bt367=>(spec_DrawAgreeingCopies.j0 k bt353.1 ([]:List (List (S42))) bt367.1 l0 bt367.2.1 bt367.2.2)) else(spec_DrawAgreeingCopies.j0 k bt353.1 ([]:List (List (S42))) (wrap64 (1+bt358.1)) l0 bt361.2.1 bt361.2.2)))))=some r:=h
 clear h
 obtain⟨⟨t353,t356,t357⟩,A2,H⟩:=bo_ H
 try dsimp only at H
 obtain⟨⟨t358,t359,t360⟩,A3,H⟩:=bo_ H
 try dsimp only at H
 obtain⟨⟨t361,t362,t363⟩,A4,H⟩:=bo_ H
 try dsimp only at H
 have HC5:=am_ H
 clear H
 go_enter Try.func10,Try.ntmps10
 go_upto_if 16 with (first|((with_reducible refine gate_dst (N:=9) rfl ?_);refine box_event ?hg (N:=9) ?hd (cs:= #[.slice A0 l0.length c0, .int .i64 0, .int .u64 0]) (t:=76) ?hr ?_;(case hd=>rfl);(case hg=>rfl);(case hr=>exact hr_);intro g352 hg w6 hbox hb;have HI352:=am_ ((⟨_,_,hbox,by rw[hg];exact(below_size (a0_)),HR0.out⟩:IsS76 w w6 g352 l0 0 0));replace HB:=am_ (below_step (a0_) hb);clear hb hbox hg)|((with_reducible refine gate_callee (f:=54) rfl ?_);refine goesL_ (some 11) rfl rfl Try.func54 (by kernel_rfl) rfl #[.pointer (some ⟨g352,0,none⟩)] rfl gd_ ?_;(with_reducible refine(spec_l1Cur_anySheet.calls k g352 l0 0 0 t353 t356 t357 w _ ?side1 ?side2 A2.out).mono ?_);(case side1=>exact(a3_ HI352.out));(case side2=>exact(a4_ HI352.out));rintro e w7 ⟨v354,rfl,ho0,hi,hb,hk⟩;refine⟨_,rfl,?_⟩;have HO355:=am_ (Kd.R_lower ho0 (below_size ((a4_ HI352.out))));replace HB:=am_ (hb);replace HI352:=am_ (hi);(try clear hb);(try clear hb2);(try clear hk);(try clear hi);(try clear ho0))|((with_reducible refine gate_callee (f:=55) rfl ?_);refine goesL_ (some 13) rfl rfl Try.func55 (by kernel_rfl) rfl #[.pointer (some ⟨g352,0,none⟩), .int .i64 5] rfl gd_ ?_;(with_reducible refine(spec_l1Cur_pick.calls g352 l0 t356 t357 5 t358 t359 t360 w _ ?side1 ?side2 A3.out).mono ?_);(case side1=>exact(a3_ HI352.out));(case side2=>exact(a4_ HI352.out));rintro e w8 ⟨rfl,hi,hb,hk⟩;refine⟨_,rfl,?_⟩;replace HO355:=am_ (Kd.R_mono (Kd.R_keep (IsS76.apart (show IsS76 w _ g352 l0 t356 t357 from(a3_ HI352.out)) ((a1_ HO355.out)) (by decide)) hk (fun _ h=>h.2)) (fun _ h=>h.1));replace HB:=am_ (hb);replace HI352:=am_ (hi);(try clear hb);(try clear hb2);(try clear hk);(try clear hi))|((with_reducible refine gate_callee (f:=56) rfl ?_);refine goesL_ (some 16) rfl rfl Try.func56 (by kernel_rfl) rfl #[.pointer (some ⟨g352,0,none⟩), .int .i64 16] rfl gd_ ?_;(with_reducible refine(spec_l1Cur_one.calls g352 l0 t359 t360 16 t361 t362 t363 w _ ?side1 ?side2 A4.out).mono ?_);(case side1=>exact(a3_ HI352.out));(case side2=>exact(a4_ HI352.out));rintro e w9 ⟨rfl,hi,hb,hk⟩;refine⟨_,rfl,?_⟩;replace HO355:=am_ (Kd.R_mono (Kd.R_keep (IsS76.apart (show IsS76 w _ g352 l0 t359 t360 from(a3_ HI352.out)) ((a1_ HO355.out)) (by decide)) hk (fun _ h=>h.2)) (fun _ h=>h.1));replace HB:=am_ (hb);replace HI352:=am_ (hi);(try clear hb);(try clear hb2);(try clear hk);(try clear hi)))
 (try simp only[Act.put,List.setIfInBounds_toArray,List.set_cons_zero,List.set_cons_succ])
 go_cut [6] (fun v6 wc=>∃(kq:Nat) (x6_4:Int) (x353001_4:Int) (x353002_4:Int),v6 = .int .i64 x6_4∧Aside0 (spec_DrawAgreeingCopies.j0 kq t353 ([]:List (List (S42))) x6_4 l0 x353001_4 x353002_4=some r)∧Aside0 (kq≤k)∧Aside0 (Kd.R k42 42 wc w.heap.size (fun _=>True) v354 t353)∧Aside0 (Kd.R (Kd.slice 42 k42) 32 wc w.heap.size (fun _=>True) (.slice none 0 0) ([]:List (List (S42))))∧Aside0 (IsS76 w wc g352 l0 x353001_4 x353002_4)∧Aside0 (Below w.heap.size w wc))
 case first=>
  have H:=HC5.out
  clear HC5
  by_cases c10:t361=true
  ·subst c10
   replace H:((spec_l1Cur_among.f l0 t362 t363 (([0,9,10]:List Int))).bind fun bt367=>(spec_DrawAgreeingCopies.j0 k t353 ([]:List (List (S42))) bt367.1 l0 bt367.2.1 bt367.2.2))=some r:=by rw[if_pos rfl]at H;exact H
   obtain⟨y364,hy364⟩:∃y_:List Int,y_=(([0,9,10]:List Int)):=⟨_,rfl⟩
   replace H:((spec_l1Cur_among.f l0 t362 t363 y364).bind fun bt367=>(spec_DrawAgreeingCopies.j0 k t353 ([]:List (List (S42))) bt367.1 l0 bt367.2.1 bt367.2.2))=some r:=by first|(rw[hy364];with_reducible exact H)|(have H2_:=(Option.bind_some _ _).symm.trans H;rw[hy364];with_reducible exact H2_)|(have H2_:=(Option.bind_some _ _).symm.trans H;with_reducible exact H2_) | with_reducible exact H|(rw[hy364];exact H)|exact H
   have Ny364:=am_ hy364
   clear hy364
   obtain⟨⟨t367,t368,t369⟩,A11,H⟩:=bo_ H
   try dsimp only at H
   have H':=am_ H
   clear H
   go_wp2_with (first|((with_reducible refine gate_dst (N:=18) rfl ?_);refine Kd.R_lit (Kd.int .i64) _ 3 ?hg (N:=18) ?hd (xs:=([0,9,10]:List Int)) (inner:=[.int .i64 0, .int .i64 9, .int .i64 10]) (ok:=fun _=>True) (okp:=fun _=>True) ?hr ?hp (fun _ hk=>hk) trivial (Below.refl _ _) (Nat.le_refl _) (by simp) ?_;(case hd=>rfl);(case hg=>rfl);(case hr=>exact hr_);(case hp=>exact(Reps.one (show Kd.M (Kd.int .i64) _ _ _ 0 [.int .i64 0] from rfl) (Reps.one (show Kd.M (Kd.int .i64) _ _ _ 9 [.int .i64 9] from rfl) (Reps.one (show Kd.M (Kd.int .i64) _ _ _ 10 [.int .i64 10] from rfl) (Reps.none _ _)))));intro v365 w12 ho13 hb hg_ hnew_;clear hg_ hnew_;(first|rw[← Ny364.out]at ho13|(simp only[Int.reduceToNat]at ho13;rw[← Ny364.out]at ho13));replace HO355:=am_ (Kd.R_below ((a1_ HO355.out)) hb);have HO366:=am_ (Kd.R_lower ho13 (below_size ((a4_ HI352.out))));replace HB:=am_ (below_step ((a4_ HI352.out)) hb);replace HI352:=am_ (IsS76.below ((a3_ HI352.out)) hb);clear hb ho13;obtain⟨Ao14,co14,eo14⟩:=Kd.R_slice HO366.out;subst eo14)|((with_reducible refine gate_callee (f:=57) rfl ?_);refine goesL_ (some 19) rfl rfl Try.func57 (by kernel_rfl) rfl #[.pointer (some ⟨g352,0,none⟩), .slice Ao14 y364.length co14] rfl gd_ ?_;(with_reducible refine(spec_l1Cur_among.calls g352 l0 t362 t363 _ _ y364 t367 t368 t369 w _ ?side1 ?side2 ?side3 ?side4 ?side5 A11.out).mono ?_);(case side1=>exact(a3_ HI352.out));(case side2=>exact(a4_ HI352.out));(case side3=>exact(a11_ HO366.out));(case side4=>exact(Kd.R_reads' HO366.out).2.1);(case side5=>exact far_slice (IsS76.own_ne HI352.out HO366.out (by decide)));rintro e w15 ⟨rfl,hi,hb,hk⟩;refine⟨_,rfl,?_⟩;replace HO355:=am_ (Kd.R_mono (Kd.R_keep (IsS76.apart (show IsS76 w _ g352 l0 t362 t363 from(a3_ HI352.out)) ((a1_ HO355.out)) (by decide)) hk (fun _ h=>h.2)) (fun _ h=>h.1));replace HO366:=am_ (Kd.R_mono (Kd.R_keep (IsS76.apart (show IsS76 w _ g352 l0 t362 t363 from(a3_ HI352.out)) ((a1_ HO366.out)) (by decide)) hk (fun _ h=>h.2)) (fun _ h=>h.1));replace HB:=am_ (hb);replace HI352:=am_ (hi);(try clear hb);(try clear hb2);(try clear hk);(try clear hi)))
   go_meet
   case rel=>exact⟨_,(t367),(t368),(t369),(by first | rfl|(simp;done)|(simp[*];done)),H',⟨by first | omega|exact Nat.le_refl _⟩,⟨(a1_ HO355.out)⟩,⟨a28_⟩,⟨(a3_ HI352.out)⟩,⟨(a4_ HI352.out)⟩⟩
  ·replace c10:=Bool.eq_false_iff.mpr c10
   subst c10
   replace H:(spec_DrawAgreeingCopies.j0 k t353 ([]:List (List (S42))) (wrap64 (1+t358)) l0 t362 t363)=some r:=by rw[if_neg (show ¬(false=true) by decide)]at H;exact H
   have H':=am_ H
   clear H
   go_wp2
   go_meet
   case rel=>exact⟨_,(wrap64 (1+t358)),(t362),(t363),(by first | rfl|(simp;done)|(simp[*];done)),H',⟨by first | omega|exact Nat.le_refl _⟩,⟨(a1_ HO355.out)⟩,⟨a28_⟩,⟨(a3_ HI352.out)⟩,⟨(a4_ HI352.out)⟩⟩
 case rest=>
  clear HC5
  try clear c1
  try clear p2
  try clear c5
  try clear p6
  try clear c10
  obtain⟨kq,x6_4,x353001_4,x353002_4,rfl,HA,HJ4,HO_4,HO_5,HI352,HB⟩:=hcut
  cases kq with
  | zero=>exact absurd HA.out (by simp[spec_DrawAgreeingCopies.j0])
  | succ kj4=>
   have H:=HA.out
   clear HA
   simp only[spec_DrawAgreeingCopies.j0]at H
   have H':=am_ H
   clear H
   go_wp2
   (try simp only[Act.put,List.setIfInBounds_toArray,List.set_cons_zero,List.set_cons_succ])
   go_loopg [5] kj4 (fun kq v5 w'=>∃(x5_2:List (List (S42))) (x353001_2:Int) (x353002_2:Int),Aside0 (spec_DrawAgreeingCopies.l0 kq t353 x5_2 x6_4 l0 x353001_2 x353002_2=some r)∧Aside0 (kq≤kj4)∧Aside0 (Kd.R k42 42 w' w.heap.size (fun _=>True) v354 t353)∧Aside0 (Kd.R (Kd.slice 42 k42) 32 w' w.heap.size (fun _=>True) v5 x5_2)∧Aside0 (IsS76 w w' g352 l0 x353001_2 x353002_2)∧Aside0 (Below w.heap.size w w'))
   case atStart=>exact⟨(([]:List (List (S42)))),(x353001_4),(x353002_4),H',⟨Nat.le_refl _⟩,⟨(a1_ HO_4.out)⟩,⟨(a1_ HO_5.out)⟩,⟨(a3_ HI352.out)⟩,⟨(a4_ HI352.out)⟩⟩
   case round=>
    clear H'
    try clear c1
    try clear p2
    try clear c5
    try clear p6
    try clear c10
    try clear p2
    try clear p6
    obtain⟨x5_2,x353001_2,x353002_2,HA,HK2,HO_4,HO_5,HI352,HB⟩:=hrel
    cases gk with
    | zero=>exact absurd HA.out (by simp[spec_DrawAgreeingCopies.l0])
    | succ k2=>
     have H:=HA.out
     clear HA
     simp only[spec_DrawAgreeingCopies.l0]at H
     by_cases c16:(x5_2.length:Int)<x6_4
     ·rw[if_pos c16]at H
      have c16b0:decide ((x5_2.length:Int)<x6_4)=true:=decide_eq_true c16
      clear c16
      obtain⟨⟨t370,t371,t372⟩,A17,H⟩:=bo_ H
      try dsimp only at H
      by_cases c18:t370=true
      ·subst c18
       replace H:((spec_l1Cur_changed.f k2 l0 t371 t372 t353).bind fun bt373=>(if x5_2.length<5864062014805 then(spec_DrawAgreeingCopies.l0 k2 t353 (x5_2 ++ [bt373.1]) x6_4 l0 bt373.2.1 bt373.2.2) else(none)))=some r:=by rw[if_pos rfl]at H;exact H
       obtain⟨⟨t373,t376,t377⟩,A19,H⟩:=bo_ H
       try dsimp only at H
       by_cases c20:x5_2.length<5864062014805
       ·rw[if_pos c20]at H
        have LMc20:=am_ c20
        clear c20
        obtain⟨y378,hy378⟩:∃y_:List (List (S42)),y_=(x5_2 ++ [t373]):=⟨_,rfl⟩
        replace H:(spec_DrawAgreeingCopies.l0 k2 t353 y378 x6_4 l0 t376 t377)=some r:=by first|(rw[hy378];with_reducible exact H)|(have H2_:=(Option.bind_some _ _).symm.trans H;rw[hy378];with_reducible exact H2_)|(have H2_:=(Option.bind_some _ _).symm.trans H;with_reducible exact H2_) | with_reducible exact H|(rw[hy378];exact H)|exact H
        have Ny378:=am_ hy378
        clear hy378
        have H':=am_ H
        clear H
        obtain⟨Ao21,co21,eo21⟩:=Kd.R_slice HO_5.out
        subst eo21
        go_wp2_with (first|((with_reducible refine gate_callee (f:=56) rfl ?_);refine goesL_ (some 25) rfl rfl Try.func56 (by kernel_rfl) rfl #[.pointer (some ⟨g352,0,none⟩), .int .i64 3] rfl gd_ ?_;(with_reducible refine(spec_l1Cur_one.calls g352 l0 x353001_2 x353002_2 3 true t371 t372 w _ ?side1 ?side2 A17.out).mono ?_);(case side1=>exact(a3_ HI352.out));(case side2=>exact(a4_ HI352.out));rintro e w22 ⟨rfl,hi,hb,hk⟩;refine⟨_,rfl,?_⟩;replace HO_4:=am_ (Kd.R_mono (Kd.R_keep (IsS76.apart (show IsS76 w _ g352 l0 x353001_2 x353002_2 from(a3_ HI352.out)) ((a1_ HO_4.out)) (by decide)) hk (fun _ h=>h.2)) (fun _ h=>h.1));replace HO_5:=am_ (Kd.R_mono (Kd.R_keep (IsS76.apart (show IsS76 w _ g352 l0 x353001_2 x353002_2 from(a3_ HI352.out)) ((a1_ HO_5.out)) (by decide)) hk (fun _ h=>h.2)) (fun _ h=>h.1));replace HB:=am_ (hb);replace HI352:=am_ (hi);(try clear hb);(try clear hb2);(try clear hk);(try clear hi);obtain⟨Ao23,co23,eo23⟩:=Kd.R_slice HO_4.out;subst eo23)|((with_reducible refine gate_callee (f:=58) rfl ?_);refine goesL_ (some 29) rfl rfl Try.func58 (by kernel_rfl) rfl #[.pointer (some ⟨g352,0,none⟩), .slice Ao23 t353.length co23] rfl gd_ ?_;(with_reducible refine(spec_l1Cur_changed.calls k2 g352 l0 t371 t372 _ _ t353 t373 t376 t377 w _ ?side1 ?side2 ?side3 ?side4 A19.out).mono ?_);(case side1=>exact(a3_ HI352.out));(case side2=>exact(a4_ HI352.out));(case side3=>exact Kd.C_foot_own (IsS76.apart (show IsS76 w _ g352 l0 t371 t372 from(a3_ HI352.out)) ((a1_ HO_4.out)) (by decide)) (fun _ h_=>h_.2));(case side4=>exact(Kd.R_reads' HO_4.out).2.1);rintro e w24 ⟨v374,rfl,ho0,hi,hb,hk⟩;refine⟨_,rfl,?_⟩;replace HO_5:=am_ (Kd.R_mono (Kd.R_told (Kd.R_oldK (IsS76.apart (show IsS76 w _ g352 l0 t371 t372 from(a3_ HI352.out)) ((a1_ HO_5.out)) (by decide)) hk) (Kd.R_base ho0)) (fun _ h_=>h_.1));have HO375:=am_ (Kd.R_lower (Kd.R_new' ho0 (Kd.R_lt ((a1_ HO_4.out)))) (below_size ((a4_ HI352.out))));replace HO_4:=am_ (Kd.R_mono (Kd.R_told (Kd.R_oldK (IsS76.apart (show IsS76 w _ g352 l0 t371 t372 from(a3_ HI352.out)) ((a1_ HO_4.out)) (by decide)) hk) (Kd.R_base ho0)) (fun _ h_=>h_.1));replace HB:=am_ (hb);replace HI352:=am_ (hi);(try clear hb);(try clear hb2);(try clear hk);(try clear hi);(try clear ho0);obtain⟨Ao26,co26,eo26⟩:=Kd.R_slice HO375.out;subst eo26)|((with_reducible refine gate_builtin (b:= .append) (xs:= #[.tmp 26, .tmp 30]) rfl ?_);at_builtin;refine Kd.R_append (Kd.slice 42 k42) (w0:=w) w.heap.size rfl (.tmp 26) (.tmp 30) 24 32 (.slice none 0 0) 24 rfl Try.underlying24 info32 rfl (by decide) (by omega) (.slice Ao21 x5_2.length co21) x5_2 t373 [.slice Ao26 t373.length co26] (fun _=>True) (fun k_=>((fun _=>True)) k_∧some k_≠(.slice Ao21 x5_2.length co21:Value).ownBlock) rfl rfl ?aP (fun _ hk=>hk) ?aF ?aO ?aB ?aS ?aL ?_;(case aP=>exact Kd.M_row (Kd.R_mono (Kd.R_apart' (HO375.out) (Kd.R_typed HO_5.out) (by decide)) (fun k_ hk=>⟨trivial,hk.2⟩)));(case aB=>exact((a4_ HI352.out)));(case aF=>exact(fun _ _=>trivial));(case aO=>exact((a27_ HO_5.out)));(case aS=>exact(below_size ((a4_ HI352.out))));(case aL=>have:=LMc20.out;omega);intro v379 w25 ho hb hg hat;rw[← Ny378.out]at ho;have n0_:=am_ (Kd.R_over' ((a1_ HO_4.out)) (Kd.R_typed ((a1_ HO_5.out))) (by decide) hg);have n1_:=am_ (IsS76.grown ((a3_ HI352.out)) hg (IsS76.own_ne HI352.out HO_5.out (by decide)));have n2_:=am_ (Kd.R_over' ((a1_ HO375.out)) (Kd.R_typed ((a1_ HO_5.out))) (by decide) hg);have n3_:=am_ (hb);have n4_:=am_ (ho);clear HO_4 HI352 HO375 HB HO_5;have HO_4:=n0_;have HI352:=n1_;have HO375:=n2_;have HB:=n3_;have HO380:=n4_;clear n0_ n1_ n2_ n3_ n4_ ho hb hg hat))
        go_roundg k2
        case measure=>have:=HJ4.out;have:=HK2.out;omega
        case rel=>exact⟨(y378),(t376),(t377),H',⟨by have:=HJ4.out;have:=HK2.out;omega⟩,⟨(a27_ HO_4.out)⟩,⟨(a1_ HO380.out)⟩,⟨(a3_ HI352.out)⟩,⟨(a4_ HI352.out)⟩⟩
       ·rw[if_neg c20]at H
        exact absurd H (by simp)
      ·replace c18:=Bool.eq_false_iff.mpr c18
       subst c18
       replace H:(if x5_2.length<5864062014805 then(spec_DrawAgreeingCopies.l0 k2 t353 (x5_2 ++ [t353]) x6_4 l0 t371 t372) else(none))=some r:=by rw[if_neg (show ¬(false=true) by decide)]at H;exact H
       by_cases c27:x5_2.length<5864062014805
       ·rw[if_pos c27]at H
        have LMc27:=am_ c27
        clear c27
        obtain⟨y381,hy381⟩:∃y_:List (List (S42)),y_=(x5_2 ++ [t353]):=⟨_,rfl⟩
        replace H:(spec_DrawAgreeingCopies.l0 k2 t353 y381 x6_4 l0 t371 t372)=some r:=by first|(rw[hy381];with_reducible exact H)|(have H2_:=(Option.bind_some _ _).symm.trans H;rw[hy381];with_reducible exact H2_)|(have H2_:=(Option.bind_some _ _).symm.trans H;with_reducible exact H2_) | with_reducible exact H|(rw[hy381];exact H)|exact H
        have Ny381:=am_ hy381
        clear hy381
        have H':=am_ H
        clear H
        obtain⟨Ao28,co28,eo28⟩:=Kd.R_slice HO_5.out
        subst eo28
        go_wp2_with (first|((with_reducible refine gate_callee (f:=56) rfl ?_);refine goesL_ (some 25) rfl rfl Try.func56 (by kernel_rfl) rfl #[.pointer (some ⟨g352,0,none⟩), .int .i64 3] rfl gd_ ?_;(with_reducible refine(spec_l1Cur_one.calls g352 l0 x353001_2 x353002_2 3 false t371 t372 w _ ?side1 ?side2 A17.out).mono ?_);(case side1=>exact(a3_ HI352.out));(case side2=>exact(a4_ HI352.out));rintro e w29 ⟨rfl,hi,hb,hk⟩;refine⟨_,rfl,?_⟩;replace HO_4:=am_ (Kd.R_mono (Kd.R_keep (IsS76.apart (show IsS76 w _ g352 l0 x353001_2 x353002_2 from(a3_ HI352.out)) ((a1_ HO_4.out)) (by decide)) hk (fun _ h=>h.2)) (fun _ h=>h.1));replace HO_5:=am_ (Kd.R_mono (Kd.R_keep (IsS76.apart (show IsS76 w _ g352 l0 x353001_2 x353002_2 from(a3_ HI352.out)) ((a1_ HO_5.out)) (by decide)) hk (fun _ h=>h.2)) (fun _ h=>h.1));replace HB:=am_ (hb);replace HI352:=am_ (hi);(try clear hb);(try clear hb2);(try clear hk);(try clear hi);obtain⟨Ao31,co31,eo31⟩:=Kd.R_slice HO_4.out;subst eo31)|((with_reducible refine gate_builtin (b:= .append) (xs:= #[.tmp 32, .tmp 34]) rfl ?_);at_builtin;refine Kd.R_append (Kd.slice 42 k42) (w0:=w) w.heap.size rfl (.tmp 32) (.tmp 34) 24 32 (.slice none 0 0) 24 rfl Try.underlying24 info32 rfl (by decide) (by omega) (.slice Ao28 x5_2.length co28) x5_2 t353 [.slice Ao31 t353.length co31] (fun _=>True) (fun k_=>((fun _=>True)) k_∧some k_≠(.slice Ao28 x5_2.length co28:Value).ownBlock) rfl rfl ?aP (fun _ hk=>hk) ?aF ?aO ?aB ?aS ?aL ?_;(case aP=>exact Kd.M_row (Kd.R_mono (Kd.R_apart' (HO_4.out) (Kd.R_typed HO_5.out) (by decide)) (fun k_ hk=>⟨trivial,hk.2⟩)));(case aB=>exact((a4_ HI352.out)));(case aF=>exact(fun _ _=>trivial));(case aO=>exact((a1_ HO_5.out)));(case aS=>exact(below_size ((a4_ HI352.out))));(case aL=>have:=LMc27.out;omega);intro v382 w30 ho hb hg hat;rw[← Ny381.out]at ho;have n0_:=am_ (Kd.R_over' ((a1_ HO_4.out)) (Kd.R_typed ((a1_ HO_5.out))) (by decide) hg);have n1_:=am_ (IsS76.grown ((a3_ HI352.out)) hg (IsS76.own_ne HI352.out HO_5.out (by decide)));have n2_:=am_ (hb);have n3_:=am_ (ho);clear HO_4 HI352 HB HO_5;have HO_4:=n0_;have HI352:=n1_;have HB:=n2_;have HO383:=n3_;clear n0_ n1_ n2_ n3_ ho hb hg hat))
        go_roundg k2
        case measure=>have:=HJ4.out;have:=HK2.out;omega
        case rel=>exact⟨(y381),(t371),(t372),H',⟨by have:=HJ4.out;have:=HK2.out;omega⟩,⟨(a1_ HO_4.out)⟩,⟨(a1_ HO383.out)⟩,⟨(a3_ HI352.out)⟩,⟨(a4_ HI352.out)⟩⟩
       ·rw[if_neg c27]at H
        exact absurd H (by simp)
     ·rw[if_neg c16]at H
      have c16b0:decide ((x5_2.length:Int)<x6_4)=false:=decide_eq_false c16
      clear c16
      obtain rfl:=Option.some.inj H
      obtain⟨Ao32,co32,eo32⟩:=Kd.R_slice HO_5.out
      subst eo32
      go_wp2
      go_ret
      exact⟨_,a9_,(a1_ HO_5.out),(a4_ HI352.out)⟩

/-! ### impl_isTrack: function 103 -/
def impl_isTrack.f (a0:Int):Option (Bool):=if a0≥0 then(some (decide (a0<20))) else(some false)
set_option maxHeartbeats 8000000 in
set_option maxRecDepth 100000 in
theorem impl_isTrack.calls (a0:Int) (r:Bool) (w:World) (h:impl_isTrack.f a0=some r) :
 Calls Try.prog 103 #[.int .i64 a0] w fun e w'=>e = .returned (.bool r)∧Drawn0 w w':=by
 have H:(if a0≥0 then(some (decide (a0<20))) else(some false))=some r:=h
 clear h
 by_cases c2:a0≥0
 ·rw[if_pos c2]at H
  have c2b0:decide (0≤a0)=true:=decide_eq_true c2
  clear c2
  obtain rfl:=Option.some.inj H
  go_enter Try.func103,Try.ntmps103
  go_wp2
  go_ret
  exact⟨by first | rfl|(simp;done)|(simp[*];done),a29_⟩
 ·rw[if_neg c2]at H
  have c2b0:decide (0≤a0)=false:=decide_eq_false c2
  clear c2
  obtain rfl:=Option.some.inj H
  go_enter Try.func103,Try.ntmps103
  go_wp2
  go_ret
  exact⟨by first | rfl|(simp;done)|(simp[*];done),a29_⟩

/-! ### impl_IsHole: function 69 -/
def impl_IsHole.f (a0_0:Int) (a0_1:Int) (a0_2:Int):Option (Bool):=(impl_isTrack.f a0_0).bind fun t385=>(if t385=true then(if a0_1≥0 then(if a0_1<a0_2 then(some (decide (a0_2≤2000))) else(some false)) else(some false)) else(some false))
set_option maxHeartbeats 8000000 in
set_option maxRecDepth 100000 in
theorem impl_IsHole.calls (a0_0:Int) (a0_1:Int) (a0_2:Int) (r:Bool) (w:World) (h:impl_IsHole.f a0_0 a0_1 a0_2=some r) :
 Calls Try.prog 69 #[.agg #[.int .i64 a0_0, .int .i64 a0_1, .int .i64 a0_2]] w fun e w'=>e = .returned (.bool r)∧Below w.heap.size w w':=by
 have hu42:=Try.underlying42
 have HB:=am_ (Below.refl w.heap.size w)
 have H:((impl_isTrack.f a0_0).bind fun t385=>(if t385=true then(if a0_1≥0 then(if a0_1<a0_2 then(some (decide (a0_2≤2000))) else(some false)) else(some false)) else(some false)))=some r:=h
 clear h
 obtain⟨t385,A2,H⟩:=bo_ H
 try dsimp only at H
 by_cases c3:t385=true
 ·subst c3
  replace H:(if a0_1≥0 then(if a0_1<a0_2 then(some (decide (a0_2≤2000))) else(some false)) else(some false))=some r:=by rw[if_pos rfl]at H;exact H
  by_cases c4:a0_1≥0
  ·rw[if_pos c4]at H
   have c4b0:decide (0≤a0_1)=true:=decide_eq_true c4
   clear c4
   by_cases c5:a0_1<a0_2
   ·rw[if_pos c5]at H
    have c5b0:decide (a0_1<a0_2)=true:=decide_eq_true c5
    clear c5
    obtain rfl:=Option.some.inj H
    go_enter Try.func69,Try.ntmps69
    go_wp2_with (first|((with_reducible refine gate_dst (N:=1) rfl ?_);refine box_event ?hg (N:=1) ?hd (cs:= #[.int .i64 a0_0, .int .i64 a0_1, .int .i64 a0_2]) (t:=42) ?hr ?_;(case hd=>rfl);(case hg=>rfl);(case hr=>exact hr_);intro gb384 hg w6 hbox hb;have BK384:=am_ (hbox);have GW384:=am_ ((by rw[hg];exact(below_size (a0_)):w.heap.size≤gb384));have GE384:=am_ ((by rw[hg];exact(below_size (a0_)):w.heap.size≤gb384));replace HB:=am_ (below_step (a0_) hb);clear hb hbox hg;have hcz7_0:w6.cell? ⟨gb384,0,none⟩=some (.int .i64 a0_0):=(blk_cell BK384.out 0).trans rfl;have hcz7_1:w6.cell? ⟨gb384,1,none⟩=some (.int .i64 a0_1):=(blk_cell BK384.out 1).trans rfl;have hcz7_2:w6.cell? ⟨gb384,2,none⟩=some (.int .i64 a0_2):=(blk_cell BK384.out 2).trans rfl;have hfz7_0:=blk_frozen BK384.out 0;have hfz7_1:=blk_frozen BK384.out 1;have hfz7_2:=blk_frozen BK384.out 2)|((with_reducible refine gate_callee (f:=103) rfl ?_);refine goesL_ (some 5) rfl rfl Try.func103 (by kernel_rfl) rfl #[.int .i64 a0_0] rfl gd_ ?_;(with_reducible refine(impl_isTrack.calls a0_0 true _ A2.out).mono ?_);rintro e w' ⟨rfl,⟨nd,rfl⟩⟩;refine⟨_,rfl,?_⟩))
    go_ret
    exact⟨a9_,(a2_ GE384.out)⟩
   ·rw[if_neg c5]at H
    have c5b0:decide (a0_1<a0_2)=false:=decide_eq_false c5
    clear c5
    obtain rfl:=Option.some.inj H
    go_enter Try.func69,Try.ntmps69
    go_wp2_with (first|((with_reducible refine gate_dst (N:=1) rfl ?_);refine box_event ?hg (N:=1) ?hd (cs:= #[.int .i64 a0_0, .int .i64 a0_1, .int .i64 a0_2]) (t:=42) ?hr ?_;(case hd=>rfl);(case hg=>rfl);(case hr=>exact hr_);intro gb384 hg w8 hbox hb;have BK384:=am_ (hbox);have GW384:=am_ ((by rw[hg];exact(below_size (a0_)):w.heap.size≤gb384));have GE384:=am_ ((by rw[hg];exact(below_size (a0_)):w.heap.size≤gb384));replace HB:=am_ (below_step (a0_) hb);clear hb hbox hg;have hcz9_0:w8.cell? ⟨gb384,0,none⟩=some (.int .i64 a0_0):=(blk_cell BK384.out 0).trans rfl;have hcz9_1:w8.cell? ⟨gb384,1,none⟩=some (.int .i64 a0_1):=(blk_cell BK384.out 1).trans rfl;have hcz9_2:w8.cell? ⟨gb384,2,none⟩=some (.int .i64 a0_2):=(blk_cell BK384.out 2).trans rfl;have hfz9_0:=blk_frozen BK384.out 0;have hfz9_1:=blk_frozen BK384.out 1;have hfz9_2:=blk_frozen BK384.out 2)|((with_reducible refine gate_callee (f:=103) rfl ?_);refine goesL_ (some 5) rfl rfl Try.func103 (by kernel_rfl) rfl #[.int .i64 a0_0] rfl gd_ ?_;(with_reducible refine(impl_isTrack.calls a0_0 true _ A2.out).mono ?_);rintro e w' ⟨rfl,⟨nd,rfl⟩⟩;refine⟨_,rfl,?_⟩))
    go_ret
    exact⟨a9_,(a2_ GE384.out)⟩
  ·rw[if_neg c4]at H
   have c4b0:decide (0≤a0_1)=false:=decide_eq_false c4
   clear c4
   obtain rfl:=Option.some.inj H
   go_enter Try.func69,Try.ntmps69
   go_wp2_with (first|((with_reducible refine gate_dst (N:=1) rfl ?_);refine box_event ?hg (N:=1) ?hd (cs:= #[.int .i64 a0_0, .int .i64 a0_1, .int .i64 a0_2]) (t:=42) ?hr ?_;(case hd=>rfl);(case hg=>rfl);(case hr=>exact hr_);intro gb384 hg w10 hbox hb;have BK384:=am_ (hbox);have GW384:=am_ ((by rw[hg];exact(below_size (a0_)):w.heap.size≤gb384));have GE384:=am_ ((by rw[hg];exact(below_size (a0_)):w.heap.size≤gb384));replace HB:=am_ (below_step (a0_) hb);clear hb hbox hg;have hcz11_0:w10.cell? ⟨gb384,0,none⟩=some (.int .i64 a0_0):=(blk_cell BK384.out 0).trans rfl;have hcz11_1:w10.cell? ⟨gb384,1,none⟩=some (.int .i64 a0_1):=(blk_cell BK384.out 1).trans rfl;have hcz11_2:w10.cell? ⟨gb384,2,none⟩=some (.int .i64 a0_2):=(blk_cell BK384.out 2).trans rfl;have hfz11_0:=blk_frozen BK384.out 0;have hfz11_1:=blk_frozen BK384.out 1;have hfz11_2:=blk_frozen BK384.out 2)|((with_reducible refine gate_callee (f:=103) rfl ?_);refine goesL_ (some 5) rfl rfl Try.func103 (by kernel_rfl) rfl #[.int .i64 a0_0] rfl gd_ ?_;(with_reducible refine(impl_isTrack.calls a0_0 true _ A2.out).mono ?_);rintro e w' ⟨rfl,⟨nd,rfl⟩⟩;refine⟨_,rfl,?_⟩))
   go_ret
   exact⟨a9_,(a2_ GE384.out)⟩
 ·replace c3:=Bool.eq_false_iff.mpr c3
  subst c3
  replace H:(some false)=some r:=by rw[if_neg (show ¬(false=true) by decide)]at H;exact H
  obtain rfl:=Option.some.inj H
  go_enter Try.func69,Try.ntmps69
  go_wp2_with (first|((with_reducible refine gate_dst (N:=1) rfl ?_);refine box_event ?hg (N:=1) ?hd (cs:= #[.int .i64 a0_0, .int .i64 a0_1, .int .i64 a0_2]) (t:=42) ?hr ?_;(case hd=>rfl);(case hg=>rfl);(case hr=>exact hr_);intro gb384 hg w12 hbox hb;have BK384:=am_ (hbox);have GW384:=am_ ((by rw[hg];exact(below_size (a0_)):w.heap.size≤gb384));have GE384:=am_ ((by rw[hg];exact(below_size (a0_)):w.heap.size≤gb384));replace HB:=am_ (below_step (a0_) hb);clear hb hbox hg;have hcz13_0:w12.cell? ⟨gb384,0,none⟩=some (.int .i64 a0_0):=(blk_cell BK384.out 0).trans rfl;have hcz13_1:w12.cell? ⟨gb384,1,none⟩=some (.int .i64 a0_1):=(blk_cell BK384.out 1).trans rfl;have hcz13_2:w12.cell? ⟨gb384,2,none⟩=some (.int .i64 a0_2):=(blk_cell BK384.out 2).trans rfl;have hfz13_0:=blk_frozen BK384.out 0;have hfz13_1:=blk_frozen BK384.out 1;have hfz13_2:=blk_frozen BK384.out 2)|((with_reducible refine gate_callee (f:=103) rfl ?_);refine goesL_ (some 5) rfl rfl Try.func103 (by kernel_rfl) rfl #[.int .i64 a0_0] rfl gd_ ?_;(with_reducible refine(impl_isTrack.calls a0_0 false _ A2.out).mono ?_);rintro e w' ⟨rfl,⟨nd,rfl⟩⟩;refine⟨_,rfl,?_⟩))
  go_ret
  exact⟨a9_,(a2_ GE384.out)⟩

/-! ### impl_holeLess: function 70 -/
def impl_holeLess.f (a0_0:Int) (a0_1:Int) (a0_2:Int) (a1_0:Int) (a1_1:Int) (a1_2:Int):Option (Bool):=if a0_1=a1_1 then(some (decide (a0_0<a1_0))) else(some (decide (a0_1<a1_1)))
set_option maxHeartbeats 8000000 in
set_option maxRecDepth 100000 in
theorem impl_holeLess.calls (a0_0:Int) (a0_1:Int) (a0_2:Int) (a1_0:Int) (a1_1:Int) (a1_2:Int) (r:Bool) (w:World) (h:impl_holeLess.f a0_0 a0_1 a0_2 a1_0 a1_1 a1_2=some r) :
 Calls Try.prog 70 #[.agg #[.int .i64 a0_0, .int .i64 a0_1, .int .i64 a0_2], .agg #[.int .i64 a1_0, .int .i64 a1_1, .int .i64 a1_2]] w fun e w'=>e = .returned (.bool r)∧Below w.heap.size w w':=by
 have hu42:=Try.underlying42
 have HB:=am_ (Below.refl w.heap.size w)
 have H:(if a0_1=a1_1 then(some (decide (a0_0<a1_0))) else(some (decide (a0_1<a1_1))))=some r:=h
 clear h
 by_cases c3:a0_1=a1_1
 ·rw[if_pos c3]at H
  have c3b0:(a0_1 == a1_1)=true:=beq_iff_eq.mpr c3
  have c3b1:(a0_1 != a1_1)=false:=bne_eq_false_iff_eq.mpr c3
  clear c3
  obtain rfl:=Option.some.inj H
  go_enter Try.func70,Try.ntmps70
  go_wp2_with (first|((with_reducible refine gate_dst (N:=2) rfl ?_);refine box_event ?hg (N:=2) ?hd (cs:= #[.int .i64 a0_0, .int .i64 a0_1, .int .i64 a0_2]) (t:=42) ?hr ?_;(case hd=>rfl);(case hg=>rfl);(case hr=>exact hr_);intro gb386 hg w4 hbox hb;have BK386:=am_ (hbox);have GW386:=am_ ((by rw[hg];exact(below_size (a0_)):w.heap.size≤gb386));have GE386:=am_ ((by rw[hg];exact(below_size (a0_)):w.heap.size≤gb386));replace HB:=am_ (below_step (a0_) hb);clear hb hbox hg)|((with_reducible refine gate_dst (N:=3) rfl ?_);refine box_event ?hg (N:=3) ?hd (cs:= #[.int .i64 a1_0, .int .i64 a1_1, .int .i64 a1_2]) (t:=42) ?hr ?_;(case hd=>rfl);(case hg=>rfl);(case hr=>exact hr_);intro gb387 hg w5 hbox hb;have BK387:=am_ (hbox);have GW387:=am_ ((by rw[hg];exact(below_size ((a2_ GE386.out))):w.heap.size≤gb387));have GE387:=am_ ((by rw[hg];exact(below_size ((a2_ GE386.out))):w.heap.size≤gb387));replace HB:=am_ (below_step ((a2_ GE386.out)) hb);have NB386_387:=am_ ((by rw[hg];exact Nat.ne_of_lt (blk_lt (g:=gb386) (o:= .cells #[.int .i64 a0_0, .int .i64 a0_1, .int .i64 a0_2] 42 (0,0)) ((a5_ BK386.out))):gb386≠gb387));have NB387_386:=am_ ((by rw[hg];exact Nat.ne_of_gt (blk_lt (g:=gb386) (o:= .cells #[.int .i64 a0_0, .int .i64 a0_1, .int .i64 a0_2] 42 (0,0)) ((a5_ BK386.out))):gb387≠gb386));replace BK386:=am_ (blk_below (g:=gb386) (o:= .cells #[.int .i64 a0_0, .int .i64 a0_1, .int .i64 a0_2] 42 (0,0)) ((a5_ BK386.out)) hb);clear hb hbox hg;have hnb6:=NB386_387.out;have hnc6:=NB387_386.out;have hcz7_0:w5.cell? ⟨gb386,0,none⟩=some (.int .i64 a0_0):=(blk_cell BK386.out 0).trans rfl;have hcz7_1:w5.cell? ⟨gb386,1,none⟩=some (.int .i64 a0_1):=(blk_cell BK386.out 1).trans rfl;have hcz7_2:w5.cell? ⟨gb386,2,none⟩=some (.int .i64 a0_2):=(blk_cell BK386.out 2).trans rfl;have hfz7_0:=blk_frozen BK386.out 0;have hfz7_1:=blk_frozen BK386.out 1;have hfz7_2:=blk_frozen BK386.out 2;have hcz8_0:w5.cell? ⟨gb387,0,none⟩=some (.int .i64 a1_0):=(blk_cell BK387.out 0).trans rfl;have hcz8_1:w5.cell? ⟨gb387,1,none⟩=some (.int .i64 a1_1):=(blk_cell BK387.out 1).trans rfl;have hcz8_2:w5.cell? ⟨gb387,2,none⟩=some (.int .i64 a1_2):=(blk_cell BK387.out 2).trans rfl;have hfz8_0:=blk_frozen BK387.out 0;have hfz8_1:=blk_frozen BK387.out 1;have hfz8_2:=blk_frozen BK387.out 2))
  go_ret
  exact⟨a9_,(a24_ GE386.out GE387.out)⟩
 ·rw[if_neg c3]at H
  have c3b0:(a0_1 == a1_1)=false:=beq_eq_false_iff_ne.mpr c3
  have c3b1:(a0_1 != a1_1)=true:=bne_iff_ne.mpr c3
  obtain rfl:=Option.some.inj H
  go_enter Try.func70,Try.ntmps70
  go_wp2_with (first|((with_reducible refine gate_dst (N:=2) rfl ?_);refine box_event ?hg (N:=2) ?hd (cs:= #[.int .i64 a0_0, .int .i64 a0_1, .int .i64 a0_2]) (t:=42) ?hr ?_;(case hd=>rfl);(case hg=>rfl);(case hr=>exact hr_);intro gb386 hg w9 hbox hb;have BK386:=am_ (hbox);have GW386:=am_ ((by rw[hg];exact(below_size (a0_)):w.heap.size≤gb386));have GE386:=am_ ((by rw[hg];exact(below_size (a0_)):w.heap.size≤gb386));replace HB:=am_ (below_step (a0_) hb);clear hb hbox hg)|((with_reducible refine gate_dst (N:=3) rfl ?_);refine box_event ?hg (N:=3) ?hd (cs:= #[.int .i64 a1_0, .int .i64 a1_1, .int .i64 a1_2]) (t:=42) ?hr ?_;(case hd=>rfl);(case hg=>rfl);(case hr=>exact hr_);intro gb387 hg w10 hbox hb;have BK387:=am_ (hbox);have GW387:=am_ ((by rw[hg];exact(below_size ((a2_ GE386.out))):w.heap.size≤gb387));have GE387:=am_ ((by rw[hg];exact(below_size ((a2_ GE386.out))):w.heap.size≤gb387));replace HB:=am_ (below_step ((a2_ GE386.out)) hb);have NB386_387:=am_ ((by rw[hg];exact Nat.ne_of_lt (blk_lt (g:=gb386) (o:= .cells #[.int .i64 a0_0, .int .i64 a0_1, .int .i64 a0_2] 42 (0,0)) ((a5_ BK386.out))):gb386≠gb387));have NB387_386:=am_ ((by rw[hg];exact Nat.ne_of_gt (blk_lt (g:=gb386) (o:= .cells #[.int .i64 a0_0, .int .i64 a0_1, .int .i64 a0_2] 42 (0,0)) ((a5_ BK386.out))):gb387≠gb386));replace BK386:=am_ (blk_below (g:=gb386) (o:= .cells #[.int .i64 a0_0, .int .i64 a0_1, .int .i64 a0_2] 42 (0,0)) ((a5_ BK386.out)) hb);clear hb hbox hg;have hnb11:=NB386_387.out;have hnc11:=NB387_386.out;have hcz12_0:w10.cell? ⟨gb386,0,none⟩=some (.int .i64 a0_0):=(blk_cell BK386.out 0).trans rfl;have hcz12_1:w10.cell? ⟨gb386,1,none⟩=some (.int .i64 a0_1):=(blk_cell BK386.out 1).trans rfl;have hcz12_2:w10.cell? ⟨gb386,2,none⟩=some (.int .i64 a0_2):=(blk_cell BK386.out 2).trans rfl;have hfz12_0:=blk_frozen BK386.out 0;have hfz12_1:=blk_frozen BK386.out 1;have hfz12_2:=blk_frozen BK386.out 2;have hcz13_0:w10.cell? ⟨gb387,0,none⟩=some (.int .i64 a1_0):=(blk_cell BK387.out 0).trans rfl;have hcz13_1:w10.cell? ⟨gb387,1,none⟩=some (.int .i64 a1_1):=(blk_cell BK387.out 1).trans rfl;have hcz13_2:w10.cell? ⟨gb387,2,none⟩=some (.int .i64 a1_2):=(blk_cell BK387.out 2).trans rfl;have hfz13_0:=blk_frozen BK387.out 0;have hfz13_1:=blk_frozen BK387.out 1;have hfz13_2:=blk_frozen BK387.out 2))
  go_ret
  exact⟨a9_,(a24_ GE386.out GE387.out)⟩

end Go.Proofs.Ytplpjmhmochcfaa.QFnCopies
