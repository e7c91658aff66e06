/- Written by a program of this session (the kit's printer, with leaf contracts proved by hand put in): what each Go function computes, and that the call computes it. No condition but those that each theorem names. -/
import Derived.Test.YtplpjmhmochcfaaGreatQFnDifferencesx0
import Derived.Test.YtplpjmhmochcfaaGreatQFnDifferencesx3
import Derived.Test.YtplpjmhmochcfaaGreatQFnDifferencesx4
import Derived.Test.YtplpjmhmochcfaaGreatQFnDifferencesx9
namespace Go.Proofs.YtplpjmhmochcfaaGreat.QFnDifferences
open Go.RowKit Go.Proofs.YtplpjmhmochcfaaGreatW.PrintWords Go.Proofs.YtplpjmhmochcfaaGreatW.PrintLast Go.Proofs.YtplpjmhmochcfaaGreatW.PrintMore
attribute [local go_sem] max2_int min2_int max_two min_two max_three min_three max_four min_four   -- for this text's walks alone
set_option linter.unusedVariables false
set_option linter.unusedSimpArgs false

/-! ### spec_ApplyDifference: function 23 -/
mutual
def spec_ApplyDifference.j0:Nat→List (S40)→List (S40)→List (S40)→Bool→Option ((List (S40))×Bool)
 | 0,_,_,_,_=>none
 | k+1,x0,x1,x2,x26=>if x26=true then(some (([]:List (S40)),false)) else((spec_mgLess.f k x0 x1).bind fun t657=>(spec_ApplyDifference.l0 k x2 t657 x2 (x2.length:Int) 0))
def spec_ApplyDifference.l0:Nat→List (S40)→List (S40)→List (S40)→Int→Int→Option ((List (S40))×Bool)
 | 0,_,_,_,_,_=>none
 | k+1,x2,x8,x30,x31,x32=>if x32<x31 then(if 0≤x32 then(if x32<(x30.length:Int) then((spec_mgHas.f k x8 ((rd_T40 x30 x32).f0) ((rd_T40 x30 x32).f1) ((rd_T40 x30 x32).f2)).bind fun t662=>(if t662=true then(some (([]:List (S40)),false)) else(spec_ApplyDifference.l0 k x2 x8 x30 x31 (wrap64 (x32+1))))) else(none)) else(none)) else(if x8.length+x2.length<5864062014805 then((spec_shSorted.f k (x8 ++ x2)).bind fun bt666=>(some (bt666.1,bt666.2))) else(none))
end
def spec_ApplyDifference.f (k:Nat) (l0:List (S40)) (l1:List (S40)) (l2:List (S40)):Option ((List (S40))×Bool):=(spec_shGood.f k l0).bind fun t652=>(if t652=true then((spec_mgTwo.f k l1 l2).bind fun t653=>(if t653=true then((spec_mgLess.f k l1 l0).bind fun t654=>(spec_ApplyDifference.j0 k l0 l1 l2 (decide ((t654.length:Int)>0)))) else(spec_ApplyDifference.j0 k l0 l1 l2 true))) else(spec_ApplyDifference.j0 k l0 l1 l2 true))
theorem spec_ApplyDifference.mono_l:∀k,(∀y0 y1 y2 y3,LeO (spec_ApplyDifference.j0 k y0 y1 y2 y3) (spec_ApplyDifference.j0 (k+1) y0 y1 y2 y3))∧(∀y0 y1 y2 y3 y4,LeO (spec_ApplyDifference.l0 k y0 y1 y2 y3 y4) (spec_ApplyDifference.l0 (k+1) y0 y1 y2 y3 y4))
 | 0=>⟨fun _ _ _ _ r h=>by simp[spec_ApplyDifference.j0]at h,fun _ _ _ _ _ r h=>by simp[spec_ApplyDifference.l0]at h⟩
 | k+1=>by
  obtain⟨ih0,ih1⟩:=spec_ApplyDifference.mono_l k
  refine⟨?_,?_⟩
  intros
  unfold spec_ApplyDifference.j0
  rotate_left
  intros
  unfold spec_ApplyDifference.l0
  rotate_left
  all_goals repeat' first|(with_reducible first|exact ih0 _ _ _ _|exact ih1 _ _ _ _ _|exact spec_mgHas.mono _ _ _ _ _|exact spec_mgLess.mono _ _ _|exact spec_mgTwo.mono _ _ _|exact spec_shGood.mono _ _|exact spec_shSorted.mono _ _|exact LeO.refl _|exact LeO.none _|refine LeO.ite ?_ ?_|refine LeO.bind ?_ (fun _=>?_))|exact ih0 _ _ _ _|exact ih1 _ _ _ _ _|exact spec_mgHas.mono _ _ _ _ _|exact spec_mgLess.mono _ _ _|exact spec_mgTwo.mono _ _ _|exact spec_shGood.mono _ _|exact spec_shSorted.mono _ _|exact LeO.none _|refine LeO.ite ?_ ?_|refine LeO.bind ?_ (fun _=>?_)
theorem spec_ApplyDifference.mono:∀a0 a1 a2 k,LeO (spec_ApplyDifference.f k a0 a1 a2) (spec_ApplyDifference.f (k+1) a0 a1 a2):=by
 intro a0 a1 a2 k
 obtain⟨ih0,ih1⟩:=spec_ApplyDifference.mono_l k
 unfold spec_ApplyDifference.f
 repeat' first
  |(with_reducible exact ih0 _ _ _ _)
  |(with_reducible exact ih1 _ _ _ _ _)
  |(with_reducible exact spec_mgHas.mono _ _ _ _ _)
  |(with_reducible exact spec_mgLess.mono _ _ _)
  |(with_reducible exact spec_mgTwo.mono _ _ _)
  |(with_reducible exact spec_shGood.mono _ _)
  |(with_reducible exact spec_shSorted.mono _ _)
  |(with_reducible exact LeO.refl _)
  |(with_reducible exact LeO.none _)
  |(with_reducible refine LeO.ite ?_ ?_)
  |(with_reducible refine LeO.bind ?_ (fun _=>?_))
  |exact ih0 _ _ _ _
  |exact ih1 _ _ _ _ _
  |exact spec_mgHas.mono _ _ _ _ _
  |exact spec_mgLess.mono _ _ _
  |exact spec_mgTwo.mono _ _ _
  |exact spec_shGood.mono _ _
  |exact spec_shSorted.mono _ _
  |exact LeO.none _
   | refine LeO.ite ?_ ?_
   | refine LeO.bind ?_ (fun _=>?_)
set_option maxHeartbeats 8000000 in
set_option maxRecDepth 100000 in
theorem spec_ApplyDifference.calls (k:Nat) (A0:Option Addr) (c0:Nat) (l0:List (S40)) (A1:Option Addr) (c1:Nat) (l1:List (S40)) (A2:Option Addr) (c2:Nat) (l2:List (S40)) (r1:List (S40)) (r2:Bool) (w:World) (hr0:Kd.C k40 w A0 l0.length l0) (hc0:l0.length≤c0) (hr1:Kd.C k40 w A1 l1.length l1) (hc1:l1.length≤c1) (hr2:Kd.C k40 w A2 l2.length l2) (hc2:l2.length≤c2) (h:spec_ApplyDifference.f k l0 l1 l2=some (r1,r2)) :
 Calls Tryz.prog 23 #[.slice A0 l0.length c0, .slice A1 l1.length c1, .slice A2 l2.length c2] w fun e w'=>∃v0_:Value,e = .returned (.tuple #[v0_, .bool r2])∧Kd.R k40 40 w' w.heap.size (fun _=>True) v0_ r1∧Below w.heap.size w w':=by
 have hu40:=Tryz.underlying40
 have HR0:=am_ hr0
 have HC0:=am_ hc0
 clear hr0 hc0
 have HR1:=am_ hr1
 have HC1:=am_ hc1
 clear hr1 hc1
 have HR2:=am_ hr2
 have HC2:=am_ hc2
 clear hr2 hc2
 have HB:=am_ (Below.refl w.heap.size w)
 have H:((spec_shGood.f k l0).bind fun t652=>(if t652=true then((spec_mgTwo.f k l1 l2).bind fun t653=>(if t653=true then((spec_mgLess.f k l1 l0).bind fun t654=>(spec_ApplyDifference.j0 k l0 l1 l2 (decide ((t654.length:Int)>0)))) else(spec_ApplyDifference.j0 k l0 l1 l2 true))) else(spec_ApplyDifference.j0 k l0 l1 l2 true)))=some (r1,r2):=h
 clear h
 have HC4:=am_ H
 clear H
 go_enter Tryz.func23,Tryz.ntmps23
 go_upto_region 1 with (fail)
 go_cut [26] (fun v26 wc=>∃(kq:Nat) (x26_3:Bool),v26 = .bool x26_3∧Aside0 (spec_ApplyDifference.j0 kq l0 l1 l2 x26_3=some (r1,r2))∧Aside0 (kq≤k)∧Aside0 (Below w.heap.size w wc))
 case first=>
  have H:=HC4.out
  clear HC4
  obtain⟨t652,A5,H⟩:=bo_ H
  try dsimp only at H
  by_cases c6:t652=true
  ·subst c6
   replace H:((spec_mgTwo.f k l1 l2).bind fun t653=>(if t653=true then((spec_mgLess.f k l1 l0).bind fun t654=>(spec_ApplyDifference.j0 k l0 l1 l2 (decide ((t654.length:Int)>0)))) else(spec_ApplyDifference.j0 k l0 l1 l2 true)))=some (r1,r2):=by rw[if_pos rfl]at H;exact H
   obtain⟨t653,A7,H⟩:=bo_ H
   try dsimp only at H
   by_cases c8:t653=true
   ·subst c8
    replace H:((spec_mgLess.f k l1 l0).bind fun t654=>(spec_ApplyDifference.j0 k l0 l1 l2 (decide ((t654.length:Int)>0))))=some (r1,r2):=by rw[if_pos rfl]at H;exact H
    obtain⟨t654,A9,H⟩:=bo_ H
    try dsimp only at H
    have H':=am_ H
    clear H
    go_wp2_with (first|((with_reducible refine gate_callee (f:=58) rfl ?_);refine goesL_ (some 12) rfl rfl Tryz.func58 (by kernel_rfl) rfl #[.slice A0 l0.length c0] rfl gd_ ?_;(with_reducible refine(spec_shGood.calls k _ _ l0 true _ ?side1 ?side2 A5.out).mono ?_);(case side1=>exact(a6_ HR0.out));(case side2=>exact HC0.out);rintro e w10 ⟨rfl,hb⟩;refine⟨_,rfl,?_⟩;replace HB:=am_ (below_step (a1_) hb);(try clear hb);(try clear hb2);(try clear hk);(try clear hi))|(go_at_call 47;(with_reducible refine(spec_mgTwo.calls k _ _ l1 _ _ l2 true _ ?side1 ?side2 ?side3 ?side4 A7.out).mono ?_);(case side1=>exact(a6_ HR1.out));(case side2=>exact HC1.out);(case side3=>exact(a6_ HR2.out));(case side4=>exact HC2.out);rintro e w11 ⟨rfl,hb⟩;replace HB:=am_ (below_step (a1_) hb);(try clear hb);(try clear hb2);(try clear hk);(try clear hi))|(go_at_call 48;(with_reducible refine(spec_mgLess.calls k _ _ l1 _ _ l0 t654 _ ?side1 ?side2 ?side3 ?side4 A9.out).mono ?_);(case side1=>exact(a6_ HR1.out));(case side2=>exact HC1.out);(case side3=>exact(a6_ HR0.out));(case side4=>exact HC0.out);rintro e w12 ⟨v655,rfl,ho0,hb⟩;have HO656:=am_ (Kd.R_lower ho0 (below_size (a1_)));replace HB:=am_ (below_step (a1_) hb);(try clear hb);(try clear hb2);(try clear hk);(try clear hi);(try clear ho0);obtain⟨Ao13,co13,eo13⟩:=Kd.R_slice HO656.out;subst eo13))
    go_meet
    case rel=>exact⟨_,(decide ((t654.length:Int)>0)),(by first | rfl|(simp;done)|(simp[*];done)),H',⟨by first | omega|exact Nat.le_refl _⟩,⟨a1_⟩⟩
   ·replace c8:=Bool.eq_false_iff.mpr c8
    subst c8
    replace H:(spec_ApplyDifference.j0 k l0 l1 l2 true)=some (r1,r2):=by rw[if_neg (show ¬(false=true) by decide)]at H;exact H
    have H':=am_ H
    clear H
    go_wp2_with (first|((with_reducible refine gate_callee (f:=58) rfl ?_);refine goesL_ (some 12) rfl rfl Tryz.func58 (by kernel_rfl) rfl #[.slice A0 l0.length c0] rfl gd_ ?_;(with_reducible refine(spec_shGood.calls k _ _ l0 true _ ?side1 ?side2 A5.out).mono ?_);(case side1=>exact(a6_ HR0.out));(case side2=>exact HC0.out);rintro e w14 ⟨rfl,hb⟩;refine⟨_,rfl,?_⟩;replace HB:=am_ (below_step (a1_) hb);(try clear hb);(try clear hb2);(try clear hk);(try clear hi))|(go_at_call 47;(with_reducible refine(spec_mgTwo.calls k _ _ l1 _ _ l2 false _ ?side1 ?side2 ?side3 ?side4 A7.out).mono ?_);(case side1=>exact(a6_ HR1.out));(case side2=>exact HC1.out);(case side3=>exact(a6_ HR2.out));(case side4=>exact HC2.out);rintro e w15 ⟨rfl,hb⟩;replace HB:=am_ (below_step (a1_) hb);(try clear hb);(try clear hb2);(try clear hk);(try clear hi)))
    go_meet
    case rel=>exact⟨_,(true),(by first | rfl|(simp;done)|(simp[*];done)),H',⟨by first | omega|exact Nat.le_refl _⟩,⟨a1_⟩⟩
  ·replace c6:=Bool.eq_false_iff.mpr c6
   subst c6
   replace H:(spec_ApplyDifference.j0 k l0 l1 l2 true)=some (r1,r2):=by rw[if_neg (show ¬(false=true) by decide)]at H;exact H
   have H':=am_ H
   clear H
   go_wp2_with (first|((with_reducible refine gate_callee (f:=58) rfl ?_);refine goesL_ (some 12) rfl rfl Tryz.func58 (by kernel_rfl) rfl #[.slice A0 l0.length c0] rfl gd_ ?_;(with_reducible refine(spec_shGood.calls k _ _ l0 false _ ?side1 ?side2 A5.out).mono ?_);(case side1=>exact(a6_ HR0.out));(case side2=>exact HC0.out);rintro e w16 ⟨rfl,hb⟩;refine⟨_,rfl,?_⟩;replace HB:=am_ (below_step (a1_) hb);(try clear hb);(try clear hb2);(try clear hk);(try clear hi)))
   go_meet
   case rel=>exact⟨_,(true),(by first | rfl|(simp;done)|(simp[*];done)),H',⟨by first | omega|exact Nat.le_refl _⟩,⟨a1_⟩⟩
 case rest=>
  clear HC4
  try clear c1
  try clear c2
  try clear p2
  try clear c5
  try clear c6
  try clear c8
  obtain⟨kq,x26_3,rfl,HA,HJ3,HB⟩:=hcut
  cases kq with
  | zero=>exact absurd HA.out (by simp[spec_ApplyDifference.j0])
  | succ kj3=>
   have H:=HA.out
   clear HA
   simp only[spec_ApplyDifference.j0]at H
   by_cases c17:x26_3=true
   ·subst c17
    replace H:(some (([]:List (S40)),false))=some (r1,r2):=by rw[if_pos rfl]at H;exact H
    simp only[Option.some.injEq,Prod.mk.injEq]at H
    obtain⟨rfl,rfl⟩:=H
    go_wp2
    go_ret2
    exact⟨_,a10_,a23_,a1_⟩
   ·replace c17:=Bool.eq_false_iff.mpr c17
    subst c17
    replace H:((spec_mgLess.f kj3 l0 l1).bind fun t657=>(spec_ApplyDifference.l0 kj3 l2 t657 l2 (l2.length:Int) 0))=some (r1,r2):=by rw[if_neg (show ¬(false=true) by decide)]at H;exact H
    obtain⟨t657,A18,H⟩:=bo_ H
    try dsimp only at H
    have H':=am_ H
    clear H
    go_wp2_with (first|((with_reducible refine gate_callee (f:=48) rfl ?_);refine goesL_ (some 29) rfl rfl Tryz.func48 (by kernel_rfl) rfl #[.slice A0 l0.length c0, .slice A1 l1.length c1] rfl gd_ ?_;(with_reducible refine(spec_mgLess.calls kj3 _ _ l0 _ _ l1 t657 _ ?side1 ?side2 ?side3 ?side4 A18.out).mono ?_);(case side1=>exact(a6_ HR0.out));(case side2=>exact HC0.out);(case side3=>exact(a6_ HR1.out));(case side4=>exact HC1.out);rintro e w19 ⟨v658,rfl,ho0,hb⟩;refine⟨_,rfl,?_⟩;have HO659:=am_ (Kd.R_lower ho0 (below_size (a1_)));replace HB:=am_ (below_step (a1_) hb);(try clear hb);(try clear hb2);(try clear hk);(try clear hi);(try clear ho0)))
    (try simp only[Act.put,List.setIfInBounds_toArray,List.set_cons_zero,List.set_cons_succ])
    go_loopg [32] kj3 (fun kq v32 w'=>∃(x32_2:Int),v32 = .int .i64 x32_2∧Aside0 (spec_ApplyDifference.l0 kq l2 t657 l2 (l2.length:Int) x32_2=some (r1,r2))∧Aside0 (kq≤kj3)∧Aside0 (Kd.R k40 40 w' w.heap.size (fun _=>True) v658 t657)∧Aside0 (Below w.heap.size w w'))
    case atStart=>exact⟨(0),(by first | rfl|(simp;done)|(simp[*];done)),H',⟨Nat.le_refl _⟩,⟨(a0_ HO659.out)⟩,⟨a1_⟩⟩
    case round=>
     clear H'
     try clear c1
     try clear c2
     try clear p2
     try clear c4
     try clear c5
     try clear c6
     try clear c8
     try clear c17
     try clear p2
     obtain⟨x32_2,rfl,HA,HK2,HO_8,HB⟩:=hrel
     cases gk with
     | zero=>exact absurd HA.out (by simp[spec_ApplyDifference.l0])
     | succ k2=>
      have H:=HA.out
      clear HA
      simp only[spec_ApplyDifference.l0]at H
      by_cases c20:x32_2<(l2.length:Int)
      ·rw[if_pos c20]at H
       have c20b0:decide (x32_2<(l2.length:Int))=true:=decide_eq_true c20
       clear c20
       by_cases c21:0≤x32_2
       ·rw[if_pos c21]at H
        have c21b0:decide (0≤x32_2)=true:=decide_eq_true c21
        clear c21
        by_cases c22:x32_2<(l2.length:Int)
        ·rw[if_pos c22]at H
         have c22b0:decide (x32_2<(l2.length:Int))=true:=decide_eq_true c22
         clear c22
         obtain⟨t662,A23,H⟩:=bo_ H
         try dsimp only at H
         by_cases c24:t662=true
         ·subst c24
          replace H:(some (([]:List (S40)),false))=some (r1,r2):=by rw[if_pos rfl]at H;exact H
          simp only[Option.some.injEq,Prod.mk.injEq]at H
          obtain⟨rfl,rfl⟩:=H
          have p660:0≤(x32_2:Int):=of_decide_eq_true (a12_)
          have q660:x32_2<(l2.length:Int):=of_decide_eq_true (a12_)
          obtain⟨ad660,e660,hx660_0,hx660_1,hx660_2⟩:=at_T40 HR2.out x32_2 p660 q660
          cases e660
          replace hx660_0:=(HB.out.cell (World.block_lt_of_cell? w _ hx660_0)).trans hx660_0
          replace hx660_1:=(HB.out.cell (World.block_lt_of_cell? w _ hx660_1)).trans hx660_1
          replace hx660_2:=(HB.out.cell (World.block_lt_of_cell? w _ hx660_2)).trans hx660_2
          replace p660:=eq_true p660
          replace q660:=eq_true q660
          go_wp2_with (first|((with_reducible refine gate_dst (N:=10) rfl ?_);(try(refine gate_guard (by rfl) ?_;dsimp only));refine box_event ?hg (N:=10) ?hd (cs:= #[.int .i64 0, .int .i64 0, .int .i64 0]) (t:=40) ?hr ?_;(case hd=>rfl);(case hg=>rfl);(case hr=>exact hr_);intro gb661 hg w25 hbox hb;replace HO_8:=am_ (Kd.R_below (Kd.R_elderB ((a0_ HO_8.out)) gb661 (Nat.le_of_eq hg.symm)) hb);have BK661:=am_ (hbox);have GW661:=am_ ((by rw[hg];exact(below_size (a1_)):w.heap.size≤gb661));have GE661:=am_ ((by rw[hg];exact(below_size (a1_)):w.heap.size≤gb661));replace HB:=am_ (below_step (a1_) hb);clear hb hbox hg;have hcz26_0:w25.cell? ⟨gb661,0,none⟩=some (.int .i64 0):=(blk_cell BK661.out 0).trans rfl;have hcz26_1:w25.cell? ⟨gb661,1,none⟩=some (.int .i64 0):=(blk_cell BK661.out 1).trans rfl;have hcz26_2:w25.cell? ⟨gb661,2,none⟩=some (.int .i64 0):=(blk_cell BK661.out 2).trans rfl;have hfz26_0:=blk_frozen BK661.out 0;have hfz26_1:=blk_frozen BK661.out 1;have hfz26_2:=blk_frozen BK661.out 2;obtain⟨Ao27,co27,eo27⟩:=Kd.R_slice HO_8.out;subst eo27)|((with_reducible refine gate_callee (f:=62) rfl ?_);refine goesL_ (some 38) rfl rfl Tryz.func62 (by kernel_rfl) rfl #[.slice Ao27 t657.length co27, .agg #[.int .i64 ((rd_T40 l2 x32_2).f0), .int .i64 ((rd_T40 l2 x32_2).f1), .int .i64 ((rd_T40 l2 x32_2).f2)]] rfl gd_ ?_;(with_reducible refine(spec_mgHas.calls k2 _ _ t657 ((rd_T40 l2 x32_2).f0) ((rd_T40 l2 x32_2).f1) ((rd_T40 l2 x32_2).f2) true _ ?side1 ?side2 A23.out).mono ?_);(case side1=>refine(Kd.R_reads' (e:=40) (base:=w.heap.size) (ok:=fun k_=>(True∧k_≠gb661)) (n:=t657.length) (c:=co27) ?_).2.2;exact((a30_ HO_8.out)));(case side2=>exact(Kd.R_reads' HO_8.out).2.1);rintro e w28 ⟨rfl,hb⟩;refine⟨_,rfl,?_⟩;replace HO_8:=am_ (Kd.R_below ((a30_ HO_8.out)) hb);replace BK661:=am_ (blk_below (g:=gb661) (o:= .cells #[.int .i64 ((rd_T40 l2 x32_2).f0), .int .i64 ((rd_T40 l2 x32_2).f1), .int .i64 ((rd_T40 l2 x32_2).f2)] 40 (0,0)) ((a35_ BK661.out)) hb);replace HB:=am_ (below_step ((a4_ GE661.out)) hb);(try clear hb);(try clear hb2);(try clear hk);(try clear hi)))
          go_ret2
          exact⟨_,a10_,a23_,(a4_ GE661.out)⟩
         ·replace c24:=Bool.eq_false_iff.mpr c24
          subst c24
          replace H:(spec_ApplyDifference.l0 k2 l2 t657 l2 (l2.length:Int) (wrap64 (x32_2+1)))=some (r1,r2):=by rw[if_neg (show ¬(false=true) by decide)]at H;exact H
          have H':=am_ H
          clear H
          have p660:0≤(x32_2:Int):=of_decide_eq_true (a12_)
          have q660:x32_2<(l2.length:Int):=of_decide_eq_true (a12_)
          obtain⟨ad660,e660,hx660_0,hx660_1,hx660_2⟩:=at_T40 HR2.out x32_2 p660 q660
          cases e660
          replace hx660_0:=(HB.out.cell (World.block_lt_of_cell? w _ hx660_0)).trans hx660_0
          replace hx660_1:=(HB.out.cell (World.block_lt_of_cell? w _ hx660_1)).trans hx660_1
          replace hx660_2:=(HB.out.cell (World.block_lt_of_cell? w _ hx660_2)).trans hx660_2
          replace p660:=eq_true p660
          replace q660:=eq_true q660
          go_wp2_with (first|((with_reducible refine gate_dst (N:=10) rfl ?_);(try(refine gate_guard (by rfl) ?_;dsimp only));refine box_event ?hg (N:=10) ?hd (cs:= #[.int .i64 0, .int .i64 0, .int .i64 0]) (t:=40) ?hr ?_;(case hd=>rfl);(case hg=>rfl);(case hr=>exact hr_);intro gb661 hg w29 hbox hb;replace HO_8:=am_ (Kd.R_below (Kd.R_elderB ((a0_ HO_8.out)) gb661 (Nat.le_of_eq hg.symm)) hb);have BK661:=am_ (hbox);have GW661:=am_ ((by rw[hg];exact(below_size (a1_)):w.heap.size≤gb661));have GE661:=am_ ((by rw[hg];exact(below_size (a1_)):w.heap.size≤gb661));replace HB:=am_ (below_step (a1_) hb);clear hb hbox hg;have hcz30_0:w29.cell? ⟨gb661,0,none⟩=some (.int .i64 0):=(blk_cell BK661.out 0).trans rfl;have hcz30_1:w29.cell? ⟨gb661,1,none⟩=some (.int .i64 0):=(blk_cell BK661.out 1).trans rfl;have hcz30_2:w29.cell? ⟨gb661,2,none⟩=some (.int .i64 0):=(blk_cell BK661.out 2).trans rfl;have hfz30_0:=blk_frozen BK661.out 0;have hfz30_1:=blk_frozen BK661.out 1;have hfz30_2:=blk_frozen BK661.out 2;obtain⟨Ao31,co31,eo31⟩:=Kd.R_slice HO_8.out;subst eo31)|((with_reducible refine gate_callee (f:=62) rfl ?_);refine goesL_ (some 38) rfl rfl Tryz.func62 (by kernel_rfl) rfl #[.slice Ao31 t657.length co31, .agg #[.int .i64 ((rd_T40 l2 x32_2).f0), .int .i64 ((rd_T40 l2 x32_2).f1), .int .i64 ((rd_T40 l2 x32_2).f2)]] rfl gd_ ?_;(with_reducible refine(spec_mgHas.calls k2 _ _ t657 ((rd_T40 l2 x32_2).f0) ((rd_T40 l2 x32_2).f1) ((rd_T40 l2 x32_2).f2) false _ ?side1 ?side2 A23.out).mono ?_);(case side1=>refine(Kd.R_reads' (e:=40) (base:=w.heap.size) (ok:=fun k_=>(True∧k_≠gb661)) (n:=t657.length) (c:=co31) ?_).2.2;exact((a30_ HO_8.out)));(case side2=>exact(Kd.R_reads' HO_8.out).2.1);rintro e w32 ⟨rfl,hb⟩;refine⟨_,rfl,?_⟩;replace HO_8:=am_ (Kd.R_below ((a30_ HO_8.out)) hb);replace BK661:=am_ (blk_below (g:=gb661) (o:= .cells #[.int .i64 ((rd_T40 l2 x32_2).f0), .int .i64 ((rd_T40 l2 x32_2).f1), .int .i64 ((rd_T40 l2 x32_2).f2)] 40 (0,0)) ((a35_ BK661.out)) hb);replace HB:=am_ (below_step ((a4_ GE661.out)) hb);(try clear hb);(try clear hb2);(try clear hk);(try clear hi)))
          go_roundg k2
          case measure=>have:=HJ3.out;have:=HK2.out;omega
          case rel=>exact⟨(wrap64 (x32_2+1)),(by first | rfl|(simp;done)|(simp[*];done)),H',⟨by have:=HJ3.out;have:=HK2.out;omega⟩,⟨(a25_ HO_8.out)⟩,⟨(a4_ GE661.out)⟩⟩
        ·rw[if_neg c22]at H
         exact absurd H (by simp)
       ·rw[if_neg c21]at H
        exact absurd H (by simp)
      ·rw[if_neg c20]at H
       have c20b0:decide (x32_2<(l2.length:Int))=false:=decide_eq_false c20
       clear c20
       by_cases c33:t657.length+l2.length<5864062014805
       ·rw[if_pos c33]at H
        have LMc33:=am_ c33
        clear c33
        obtain⟨y663,hy663⟩:∃y_:List (S40),y_=(t657 ++ l2):=⟨_,rfl⟩
        replace H:((spec_shSorted.f k2 y663).bind fun bt666=>(some (bt666.1,bt666.2)))=some (r1,r2):=by first|(rw[hy663];with_reducible exact H)|(have H2_:=(Option.bind_some _ _).symm.trans H;rw[hy663];with_reducible exact H2_)|(have H2_:=(Option.bind_some _ _).symm.trans H;with_reducible exact H2_) | with_reducible exact H|(rw[hy663];exact H)|exact H
        have Ny663:=am_ hy663
        clear hy663
        obtain⟨⟨t666,t667⟩,A34,H⟩:=bo_ H
        try dsimp only at H
        simp only[Option.some.injEq,Prod.mk.injEq]at H
        obtain⟨rfl,rfl⟩:=H
        go_wp2_with (first|((with_reducible refine gate_builtin (b:= .append) (xs:= #[.tmp 40, .tmp 41]) rfl ?_);(try(refine gate_guard (by rfl) ?_;dsimp only));at_builtin;refine Kd.R_append_rows k40 (w0:=w) w.heap.size rfl (.tmp 40) (.tmp 41) 24 40 (.agg #[(.int .i64 0),(.int .i64 0),(.int .i64 0)]) 24 rfl Tryz.underlying24 info40 rfl (by decide) (by omega) v658 t657 l2 _ _ _ (fun _=>True) (fun _=>False) rfl rfl ?aO ?aR (fun _ _ h=>h) (fun _ h=>h.elim) ?aF ?aB ?aS ?aL ?_;(case aR=>exact(a6_ HR2.out));(case aB=>exact(a1_));(case aF=>exact(fun _ _=>trivial));(case aO=>exact((a0_ HO_8.out)));(case aS=>exact(below_size (a1_)));(case aL=>have:=LMc33.out;omega);intro v664 w35 ho hb hg hat;rw[← Ny663.out]at ho;have n0_:=am_ (hb);have n1_:=am_ (ho);clear HB HO_8;have HB:=n0_;have HO665:=n1_;clear n0_ n1_ ho hb hg hat;obtain⟨Ao36,co36,eo36⟩:=Kd.R_slice HO665.out;subst eo36)|((with_reducible refine gate_callee (f:=63) rfl ?_);refine goesL_ (some 43) rfl rfl Tryz.func63 (by kernel_rfl) rfl #[.slice Ao36 y663.length co36] rfl gd_ ?_;(with_reducible refine(spec_shSorted.calls k2 _ _ y663 t666 t667 _ ?side1 ?side2 A34.out).mono ?_);(case side1=>exact(a8_ HO665.out));(case side2=>exact(Kd.R_reads' HO665.out).2.1);rintro e w37 ⟨v668,rfl,ho0,hb⟩;refine⟨_,rfl,?_⟩;have HO669:=am_ (Kd.R_lower (Kd.R_new' ho0 (Kd.R_lt ((a0_ HO665.out)))) (below_size (a1_)));replace HO665:=am_ (Kd.R_elder' ((a0_ HO665.out)) (Kd.R_base ho0) hb);replace HB:=am_ (below_step (a1_) hb);(try clear hb);(try clear hb2);(try clear hk);(try clear hi);(try clear ho0)))
        go_ret2
        exact⟨_,a10_,(a25_ HO669.out),a1_⟩
       ·rw[if_neg c33]at H
        exact absurd H (by simp)

end Go.Proofs.YtplpjmhmochcfaaGreat.QFnDifferences
