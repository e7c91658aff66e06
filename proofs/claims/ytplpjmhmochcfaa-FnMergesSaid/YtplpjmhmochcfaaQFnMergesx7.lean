/- Written by a program of this session (the kit's printer, with leaf contracts proved by hand put in): what each Go function computes, and that the call computes it. No condition but those that each theorem names. -/
import Derived.Test.YtplpjmhmochcfaaQFnMergesx0
import Derived.Test.YtplpjmhmochcfaaQFnMergesx4
import Derived.Test.YtplpjmhmochcfaaQFnMergesx5
import Derived.Test.YtplpjmhmochcfaaQFnMergesx6
namespace Go.Proofs.Ytplpjmhmochcfaa.QFnMerges
open Go.RowKit Go.Proofs.YtplpjmhmochcfaaW.PrintWords Go.Proofs.YtplpjmhmochcfaaW.PrintLast Go.Proofs.YtplpjmhmochcfaaW.PrintMore
attribute [local go_sem] max2_int min2_int max_two min_two max_three min_three max_four min_four   -- for this text's walks alone
set_option linter.unusedVariables false
set_option linter.unusedSimpArgs false

/-! ### spec_mgTwo: function 77 -/
def spec_mgTwo.f (k:Nat) (l0:List (S42)) (l1:List (S42)):Option (Bool):=(spec_shGood.f k l0).bind fun t198=>(if t198=true then((spec_shGood.f k l1).bind fun t199=>(some t199)) else(some false))
theorem spec_mgTwo.mono:∀a0 a1 k,LeO (spec_mgTwo.f k a0 a1) (spec_mgTwo.f (k+1) a0 a1):=by
 intro a0 a1 k
 unfold spec_mgTwo.f
 repeat' first
  |(with_reducible exact spec_shGood.mono _ _)
  |(with_reducible exact LeO.refl _)
  |(with_reducible exact LeO.none _)
  |(with_reducible refine LeO.ite ?_ ?_)
  |(with_reducible refine LeO.bind ?_ (fun _=>?_))
  |exact spec_shGood.mono _ _
  |exact LeO.none _
   | refine LeO.ite ?_ ?_
   | refine LeO.bind ?_ (fun _=>?_)
set_option maxHeartbeats 8000000 in
set_option maxRecDepth 100000 in
theorem spec_mgTwo.calls (k:Nat) (A0:Option Addr) (c0:Nat) (l0:List (S42)) (A1:Option Addr) (c1:Nat) (l1:List (S42)) (r:Bool) (w:World) (hr0:Kd.C k42 w A0 l0.length l0) (hc0:l0.length≤c0) (hr1:Kd.C k42 w A1 l1.length l1) (hc1:l1.length≤c1) (h:spec_mgTwo.f k l0 l1=some r) :
 Calls Try.prog 77 #[.slice A0 l0.length c0, .slice A1 l1.length c1] w fun e w'=>e = .returned (.bool r)∧Below w.heap.size w w':=by
 have HR0:=am_ hr0
 have HC0:=am_ hc0
 clear hr0 hc0
 have HR1:=am_ hr1
 have HC1:=am_ hc1
 clear hr1 hc1
 have HB:=am_ (Below.refl w.heap.size w)
 have H:((spec_shGood.f k l0).bind fun t198=>(if t198=true then((spec_shGood.f k l1).bind fun t199=>(some t199)) else(some false)))=some r:=h
 clear h
 obtain⟨t198,A3,H⟩:=bo_ H
 try dsimp only at H
 by_cases c4:t198=true
 ·subst c4
  replace H:((spec_shGood.f k l1).bind fun t199=>(some t199))=some r:=by rw[if_pos rfl]at H;exact H
  obtain⟨t199,A5,H⟩:=bo_ H
  try dsimp only at H
  obtain rfl:=Option.some.inj H
  go_enter Try.func77,Try.ntmps77
  go_wp2_with (first|((with_reducible refine gate_callee (f:=62) rfl ?_);refine goesL_ (some 6) rfl rfl Try.func62 (by kernel_rfl) rfl #[.slice A0 l0.length c0] rfl gd_ ?_;(with_reducible refine(spec_shGood.calls k _ _ l0 true _ ?side1 ?side2 A3.out).mono ?_);(case side1=>exact(a16_ HR0.out));(case side2=>exact HC0.out);rintro e w6 ⟨rfl,hb⟩;refine⟨_,rfl,?_⟩;replace HB:=am_ (below_step (a1_) hb);(try clear hb);(try clear hb2);(try clear hk);(try clear hi))|(go_at_call 62;(with_reducible refine(spec_shGood.calls k _ _ l1 t199 _ ?side1 ?side2 A5.out).mono ?_);(case side1=>exact(a8_ HR1.out));(case side2=>exact HC1.out);rintro e w7 ⟨rfl,hb⟩;replace HB:=am_ (below_step (a1_) hb);(try clear hb);(try clear hb2);(try clear hk);(try clear hi)))
  go_ret
  exact⟨a12_,a1_⟩
 ·replace c4:=Bool.eq_false_iff.mpr c4
  subst c4
  replace H:(some false)=some r:=by rw[if_neg (show ¬(false=true) by decide)]at H;exact H
  obtain rfl:=Option.some.inj H
  go_enter Try.func77,Try.ntmps77
  go_wp2_with (first|((with_reducible refine gate_callee (f:=62) rfl ?_);refine goesL_ (some 6) rfl rfl Try.func62 (by kernel_rfl) rfl #[.slice A0 l0.length c0] rfl gd_ ?_;(with_reducible refine(spec_shGood.calls k _ _ l0 false _ ?side1 ?side2 A3.out).mono ?_);(case side1=>exact(a16_ HR0.out));(case side2=>exact HC0.out);rintro e w8 ⟨rfl,hb⟩;refine⟨_,rfl,?_⟩;replace HB:=am_ (below_step (a1_) hb);(try clear hb);(try clear hb2);(try clear hk);(try clear hi)))
  go_ret
  exact⟨a12_,a1_⟩

/-! ### spec_mgThree: function 85 -/
def spec_mgThree.f (k:Nat) (l0:List (S42)) (l1:List (S42)) (l2:List (S42)):Option (Bool):=(spec_shGood.f k l0).bind fun t200=>(if t200=true then((spec_mgTwo.f k l1 l2).bind fun t201=>(some t201)) else(some false))
theorem spec_mgThree.mono:∀a0 a1 a2 k,LeO (spec_mgThree.f k a0 a1 a2) (spec_mgThree.f (k+1) a0 a1 a2):=by
 intro a0 a1 a2 k
 unfold spec_mgThree.f
 repeat' first
  |(with_reducible exact spec_mgTwo.mono _ _ _)
  |(with_reducible exact spec_shGood.mono _ _)
  |(with_reducible exact LeO.refl _)
  |(with_reducible exact LeO.none _)
  |(with_reducible refine LeO.ite ?_ ?_)
  |(with_reducible refine LeO.bind ?_ (fun _=>?_))
  |exact spec_mgTwo.mono _ _ _
  |exact spec_shGood.mono _ _
  |exact LeO.none _
   | refine LeO.ite ?_ ?_
   | refine LeO.bind ?_ (fun _=>?_)
set_option maxHeartbeats 8000000 in
set_option maxRecDepth 100000 in
theorem spec_mgThree.calls (k:Nat) (A0:Option Addr) (c0:Nat) (l0:List (S42)) (A1:Option Addr) (c1:Nat) (l1:List (S42)) (A2:Option Addr) (c2:Nat) (l2:List (S42)) (r:Bool) (w:World) (hr0:Kd.C k42 w A0 l0.length l0) (hc0:l0.length≤c0) (hr1:Kd.C k42 w A1 l1.length l1) (hc1:l1.length≤c1) (hr2:Kd.C k42 w A2 l2.length l2) (hc2:l2.length≤c2) (h:spec_mgThree.f k l0 l1 l2=some r) :
 Calls Try.prog 85 #[.slice A0 l0.length c0, .slice A1 l1.length c1, .slice A2 l2.length c2] w fun e w'=>e = .returned (.bool r)∧Below w.heap.size w w':=by
 have HR0:=am_ hr0
 have HC0:=am_ hc0
 clear hr0 hc0
 have HR1:=am_ hr1
 have HC1:=am_ hc1
 clear hr1 hc1
 have HR2:=am_ hr2
 have HC2:=am_ hc2
 clear hr2 hc2
 have HB:=am_ (Below.refl w.heap.size w)
 have H:((spec_shGood.f k l0).bind fun t200=>(if t200=true then((spec_mgTwo.f k l1 l2).bind fun t201=>(some t201)) else(some false)))=some r:=h
 clear h
 obtain⟨t200,A4,H⟩:=bo_ H
 try dsimp only at H
 by_cases c5:t200=true
 ·subst c5
  replace H:((spec_mgTwo.f k l1 l2).bind fun t201=>(some t201))=some r:=by rw[if_pos rfl]at H;exact H
  obtain⟨t201,A6,H⟩:=bo_ H
  try dsimp only at H
  obtain rfl:=Option.some.inj H
  go_enter Try.func85,Try.ntmps85
  go_wp2_with (first|((with_reducible refine gate_callee (f:=62) rfl ?_);refine goesL_ (some 8) rfl rfl Try.func62 (by kernel_rfl) rfl #[.slice A0 l0.length c0] rfl gd_ ?_;(with_reducible refine(spec_shGood.calls k _ _ l0 true _ ?side1 ?side2 A4.out).mono ?_);(case side1=>exact(a16_ HR0.out));(case side2=>exact HC0.out);rintro e w7 ⟨rfl,hb⟩;refine⟨_,rfl,?_⟩;replace HB:=am_ (below_step (a1_) hb);(try clear hb);(try clear hb2);(try clear hk);(try clear hi))|(go_at_call 77;(with_reducible refine(spec_mgTwo.calls k _ _ l1 _ _ l2 t201 _ ?side1 ?side2 ?side3 ?side4 A6.out).mono ?_);(case side1=>exact(a8_ HR1.out));(case side2=>exact HC1.out);(case side3=>exact(a8_ HR2.out));(case side4=>exact HC2.out);rintro e w8 ⟨rfl,hb⟩;replace HB:=am_ (below_step (a1_) hb);(try clear hb);(try clear hb2);(try clear hk);(try clear hi)))
  go_ret
  exact⟨a12_,a1_⟩
 ·replace c5:=Bool.eq_false_iff.mpr c5
  subst c5
  replace H:(some false)=some r:=by rw[if_neg (show ¬(false=true) by decide)]at H;exact H
  obtain rfl:=Option.some.inj H
  go_enter Try.func85,Try.ntmps85
  go_wp2_with (first|((with_reducible refine gate_callee (f:=62) rfl ?_);refine goesL_ (some 8) rfl rfl Try.func62 (by kernel_rfl) rfl #[.slice A0 l0.length c0] rfl gd_ ?_;(with_reducible refine(spec_shGood.calls k _ _ l0 false _ ?side1 ?side2 A4.out).mono ?_);(case side1=>exact(a16_ HR0.out));(case side2=>exact HC0.out);rintro e w9 ⟨rfl,hb⟩;refine⟨_,rfl,?_⟩;replace HB:=am_ (below_step (a1_) hb);(try clear hb);(try clear hb2);(try clear hk);(try clear hi)))
  go_ret
  exact⟨a12_,a1_⟩

/-! ### spec_mgKept: function 86 -/
def spec_mgKept.l0:Nat→List (S42)→List (S42)→List (S42)→List (S42)→Int→Int→Option ((List (S42)))
 | 0,_,_,_,_,_,_=>none
 | k+1,x1,x2,x7,x10,x11,x12=>if x12<x11 then(if 0≤x12 then(if x12<(x10.length:Int) then((spec_mgHas.f k x1 ((rd_T42 x10 x12).f0) ((rd_T42 x10 x12).f1) ((rd_T42 x10 x12).f2)).bind fun t204=>(if t204=true then((spec_mgHas.f k x2 ((rd_T42 x10 x12).f0) ((rd_T42 x10 x12).f1) ((rd_T42 x10 x12).f2)).bind fun t205=>(if t205=true then(if x7.length<5864062014805 then(spec_mgKept.l0 k x1 x2 (x7 ++ [(⟨(rd_T42 x10 x12).f0,(rd_T42 x10 x12).f1,(rd_T42 x10 x12).f2⟩:S42)]) x10 x11 (wrap64 (x12+1))) else(none)) else(spec_mgKept.l0 k x1 x2 x7 x10 x11 (wrap64 (x12+1))))) else(spec_mgKept.l0 k x1 x2 x7 x10 x11 (wrap64 (x12+1))))) else(none)) else(none)) else(some x7)
def spec_mgKept.f (k:Nat) (l0:List (S42)) (l1:List (S42)) (l2:List (S42)):Option ((List (S42))):=spec_mgKept.l0 k l1 l2 ([]:List (S42)) l0 (l0.length:Int) 0
theorem spec_mgKept.mono_l:∀k,(∀y0 y1 y2 y3 y4 y5,LeO (spec_mgKept.l0 k y0 y1 y2 y3 y4 y5) (spec_mgKept.l0 (k+1) y0 y1 y2 y3 y4 y5))
 | 0=>fun _ _ _ _ _ _ r h=>by simp[spec_mgKept.l0]at h
 | k+1=>by
  have ih0:=spec_mgKept.mono_l k
  intros
  unfold spec_mgKept.l0
  rotate_left
  all_goals repeat' first|(with_reducible first|exact ih0 _ _ _ _ _ _|exact spec_mgHas.mono _ _ _ _ _|exact LeO.refl _|exact LeO.none _|refine LeO.ite ?_ ?_|refine LeO.bind ?_ (fun _=>?_))|exact ih0 _ _ _ _ _ _|exact spec_mgHas.mono _ _ _ _ _|exact LeO.none _|refine LeO.ite ?_ ?_|refine LeO.bind ?_ (fun _=>?_)
theorem spec_mgKept.mono:∀a0 a1 a2 k,LeO (spec_mgKept.f k a0 a1 a2) (spec_mgKept.f (k+1) a0 a1 a2):=by
 intro a0 a1 a2 k
 have ih0:=spec_mgKept.mono_l k
 unfold spec_mgKept.f
 repeat' first
  |(with_reducible exact ih0 _ _ _ _ _ _)
  |(with_reducible exact spec_mgHas.mono _ _ _ _ _)
  |(with_reducible exact LeO.refl _)
  |(with_reducible exact LeO.none _)
  |(with_reducible refine LeO.ite ?_ ?_)
  |(with_reducible refine LeO.bind ?_ (fun _=>?_))
  |exact ih0 _ _ _ _ _ _
  |exact spec_mgHas.mono _ _ _ _ _
  |exact LeO.none _
   | refine LeO.ite ?_ ?_
   | refine LeO.bind ?_ (fun _=>?_)
set_option maxHeartbeats 8000000 in
set_option maxRecDepth 100000 in
theorem spec_mgKept.calls (k:Nat) (A0:Option Addr) (c0:Nat) (l0:List (S42)) (A1:Option Addr) (c1:Nat) (l1:List (S42)) (A2:Option Addr) (c2:Nat) (l2:List (S42)) (r:List (S42)) (w:World) (hr0:Kd.C k42 w A0 l0.length l0) (hc0:l0.length≤c0) (hr1:Kd.C k42 w A1 l1.length l1) (hc1:l1.length≤c1) (hr2:Kd.C k42 w A2 l2.length l2) (hc2:l2.length≤c2) (h:spec_mgKept.f k l0 l1 l2=some r) :
 Calls Try.prog 86 #[.slice A0 l0.length c0, .slice A1 l1.length c1, .slice A2 l2.length c2] w fun e w'=>∃v0_:Value,e = .returned (v0_)∧Kd.R k42 42 w' w.heap.size (fun _=>True) v0_ r∧Below w.heap.size w w':=by
 have hu42:=Try.underlying42
 have HR0:=am_ hr0
 have HC0:=am_ hc0
 clear hr0 hc0
 have HR1:=am_ hr1
 have HC1:=am_ hc1
 clear hr1 hc1
 have HR2:=am_ hr2
 have HC2:=am_ hc2
 clear hr2 hc2
 have HB:=am_ (Below.refl w.heap.size w)
 have H:(spec_mgKept.l0 k l1 l2 ([]:List (S42)) l0 (l0.length:Int) 0)=some r:=h
 clear h
 have H':=am_ H
 clear H
 go_enter Try.func86,Try.ntmps86
 go_wp2
 go_loopg [7,12] k (fun kq v7 v12 w'=>∃(x7_1:List (S42)) (x12_1:Int),v12 = .int .i64 x12_1∧Aside0 (spec_mgKept.l0 kq l1 l2 x7_1 l0 (l0.length:Int) x12_1=some r)∧Aside0 (kq≤k)∧Aside0 (Kd.R k42 42 w' w.heap.size (fun _=>True) v7 x7_1)∧Aside0 (Below w.heap.size w w'))
 case atStart=>exact⟨(([]:List (S42))),(0),(by first | rfl|(simp;done)|(simp[*];done)),H',⟨Nat.le_refl _⟩,⟨a35_⟩,⟨a1_⟩⟩
 case round=>
  clear H'
  try clear c1
  try clear c2
  try clear p2
  obtain⟨x7_1,x12_1,rfl,HA,HK1,HO_7,HB⟩:=hrel
  cases gk with
  | zero=>exact absurd HA.out (by simp[spec_mgKept.l0])
  | succ k1=>
   have H:=HA.out
   clear HA
   simp only[spec_mgKept.l0]at H
   by_cases c4:x12_1<(l0.length:Int)
   ·rw[if_pos c4]at H
    have c4b0:decide (x12_1<(l0.length:Int))=true:=decide_eq_true c4
    clear c4
    by_cases c5:0≤x12_1
    ·rw[if_pos c5]at H
     have c5b0:decide (0≤x12_1)=true:=decide_eq_true c5
     clear c5
     by_cases c6:x12_1<(l0.length:Int)
     ·rw[if_pos c6]at H
      have c6b0:decide (x12_1<(l0.length:Int))=true:=decide_eq_true c6
      clear c6
      obtain⟨t204,A7,H⟩:=bo_ H
      try dsimp only at H
      by_cases c8:t204=true
      ·subst c8
       replace H:((spec_mgHas.f k1 l2 ((rd_T42 l0 x12_1).f0) ((rd_T42 l0 x12_1).f1) ((rd_T42 l0 x12_1).f2)).bind fun t205=>(if t205=true then(if x7_1.length<5864062014805 then(spec_mgKept.l0 k1 l1 l2 (x7_1 ++ [(⟨(rd_T42 l0 x12_1).f0,(rd_T42 l0 x12_1).f1,(rd_T42 l0 x12_1).f2⟩:S42)]) l0 (l0.length:Int) (wrap64 (x12_1+1))) else(none)) else(spec_mgKept.l0 k1 l1 l2 x7_1 l0 (l0.length:Int) (wrap64 (x12_1+1)))))=some r:=by rw[if_pos rfl]at H;exact H
       obtain⟨t205,A9,H⟩:=bo_ H
       try dsimp only at H
       by_cases c10:t205=true
       ·subst c10
        replace H:(if x7_1.length<5864062014805 then(spec_mgKept.l0 k1 l1 l2 (x7_1 ++ [(⟨(rd_T42 l0 x12_1).f0,(rd_T42 l0 x12_1).f1,(rd_T42 l0 x12_1).f2⟩:S42)]) l0 (l0.length:Int) (wrap64 (x12_1+1))) else(none))=some r:=by rw[if_pos rfl]at H;exact H
        by_cases c11:x7_1.length<5864062014805
        ·rw[if_pos c11]at H
         have LMc11:=am_ c11
         clear c11
         obtain⟨y206,hy206⟩:∃y_:List (S42),y_=(x7_1 ++ [(⟨(rd_T42 l0 x12_1).f0,(rd_T42 l0 x12_1).f1,(rd_T42 l0 x12_1).f2⟩:S42)]):=⟨_,rfl⟩
         replace H:(spec_mgKept.l0 k1 l1 l2 y206 l0 (l0.length:Int) (wrap64 (x12_1+1)))=some r:=by first|(rw[hy206];with_reducible exact H)|(have H2_:=(Option.bind_some _ _).symm.trans H;rw[hy206];with_reducible exact H2_)|(have H2_:=(Option.bind_some _ _).symm.trans H;with_reducible exact H2_) | with_reducible exact H|(rw[hy206];exact H)|exact H
         have Ny206:=am_ hy206
         clear hy206
         have H':=am_ H
         clear H
         have p202:0≤(x12_1:Int):=of_decide_eq_true (a13_)
         have q202:x12_1<(l0.length:Int):=of_decide_eq_true (a13_)
         obtain⟨ad202,e202,hx202_0,hx202_1,hx202_2⟩:=at_T42 HR0.out x12_1 p202 q202
         cases e202
         replace hx202_0:=(HB.out.cell (World.block_lt_of_cell? w _ hx202_0)).trans hx202_0
         replace hx202_1:=(HB.out.cell (World.block_lt_of_cell? w _ hx202_1)).trans hx202_1
         replace hx202_2:=(HB.out.cell (World.block_lt_of_cell? w _ hx202_2)).trans hx202_2
         replace p202:=eq_true p202
         replace q202:=eq_true q202
         go_wp2_with (first|((with_reducible refine gate_dst (N:=9) rfl ?_);refine box_event ?hg (N:=9) ?hd (cs:= #[.int .i64 0, .int .i64 0, .int .i64 0]) (t:=42) ?hr ?_;(case hd=>rfl);(case hg=>rfl);(case hr=>exact hr_);intro gb203 hg w12 hbox hb;replace HO_7:=am_ (Kd.R_below (Kd.R_elderB ((a0_ HO_7.out)) gb203 (Nat.le_of_eq hg.symm)) hb);have BK203:=am_ (hbox);have GW203:=am_ ((by rw[hg];exact(below_size (a1_)):w.heap.size≤gb203));have GE203:=am_ ((by rw[hg];exact(below_size (a1_)):w.heap.size≤gb203));replace HB:=am_ (below_step (a1_) hb);clear hb hbox hg;have hcz13_0:w12.cell? ⟨gb203,0,none⟩=some (.int .i64 0):=(blk_cell BK203.out 0).trans rfl;have hcz13_1:w12.cell? ⟨gb203,1,none⟩=some (.int .i64 0):=(blk_cell BK203.out 1).trans rfl;have hcz13_2:w12.cell? ⟨gb203,2,none⟩=some (.int .i64 0):=(blk_cell BK203.out 2).trans rfl;have hfz13_0:=blk_frozen BK203.out 0;have hfz13_1:=blk_frozen BK203.out 1;have hfz13_2:=blk_frozen BK203.out 2)|((with_reducible refine gate_callee (f:=79) rfl ?_);refine goesL_ (some 18) rfl rfl Try.func79 (by kernel_rfl) rfl #[.slice A1 l1.length c1, .agg #[.int .i64 ((rd_T42 l0 x12_1).f0), .int .i64 ((rd_T42 l0 x12_1).f1), .int .i64 ((rd_T42 l0 x12_1).f2)]] rfl gd_ ?_;(with_reducible refine(spec_mgHas.calls k1 _ _ l1 ((rd_T42 l0 x12_1).f0) ((rd_T42 l0 x12_1).f1) ((rd_T42 l0 x12_1).f2) true _ ?side1 ?side2 A7.out).mono ?_);(case side1=>exact Kd.C_below HR1.out ((a2_ GE203.out)));(case side2=>exact HC1.out);rintro e w14 ⟨rfl,hb⟩;refine⟨_,rfl,?_⟩;replace HO_7:=am_ (Kd.R_below ((a43_ HO_7.out)) hb);replace BK203:=am_ (blk_below (g:=gb203) (o:= .cells #[.int .i64 ((rd_T42 l0 x12_1).f0), .int .i64 ((rd_T42 l0 x12_1).f1), .int .i64 ((rd_T42 l0 x12_1).f2)] 42 (0,0)) ((a19_ BK203.out)) hb);replace HB:=am_ (below_step ((a2_ GE203.out)) hb);(try clear hb);(try clear hb2);(try clear hk);(try clear hi);have hcz15_0:w14.cell? ⟨gb203,0,none⟩=some (.int .i64 ((rd_T42 l0 x12_1).f0)):=(blk_cell BK203.out 0).trans rfl;have hcz15_1:w14.cell? ⟨gb203,1,none⟩=some (.int .i64 ((rd_T42 l0 x12_1).f1)):=(blk_cell BK203.out 1).trans rfl;have hcz15_2:w14.cell? ⟨gb203,2,none⟩=some (.int .i64 ((rd_T42 l0 x12_1).f2)):=(blk_cell BK203.out 2).trans rfl;have hfz15_0:=blk_frozen BK203.out 0;have hfz15_1:=blk_frozen BK203.out 1;have hfz15_2:=blk_frozen BK203.out 2)|(go_at_call 79;(with_reducible refine(spec_mgHas.calls k1 _ _ l2 ((rd_T42 l0 x12_1).f0) ((rd_T42 l0 x12_1).f1) ((rd_T42 l0 x12_1).f2) true _ ?side1 ?side2 A9.out).mono ?_);(case side1=>exact(a8_ HR2.out));(case side2=>exact HC2.out);rintro e w16 ⟨rfl,hb⟩;replace HO_7:=am_ (Kd.R_below ((a0_ HO_7.out)) hb);replace BK203:=am_ (blk_below (g:=gb203) (o:= .cells #[.int .i64 ((rd_T42 l0 x12_1).f0), .int .i64 ((rd_T42 l0 x12_1).f1), .int .i64 ((rd_T42 l0 x12_1).f2)] 42 (0,0)) ((a3_ BK203.out)) hb);replace HB:=am_ (below_step ((a2_ GE203.out)) hb);(try clear hb);(try clear hb2);(try clear hk);(try clear hi);have hcz17_0:w16.cell? ⟨gb203,0,none⟩=some (.int .i64 ((rd_T42 l0 x12_1).f0)):=(blk_cell BK203.out 0).trans rfl;have hcz17_1:w16.cell? ⟨gb203,1,none⟩=some (.int .i64 ((rd_T42 l0 x12_1).f1)):=(blk_cell BK203.out 1).trans rfl;have hcz17_2:w16.cell? ⟨gb203,2,none⟩=some (.int .i64 ((rd_T42 l0 x12_1).f2)):=(blk_cell BK203.out 2).trans rfl;have hfz17_0:=blk_frozen BK203.out 0;have hfz17_1:=blk_frozen BK203.out 1;have hfz17_2:=blk_frozen BK203.out 2)|((with_reducible refine gate_builtin (b:= .append) (xs:= #[.tmp 24, .tmp 26]) rfl ?_);at_builtin;refine Kd.R_append k42 (w0:=w) w.heap.size rfl (.tmp 24) (.tmp 26) 32 42 (.agg #[(.int .i64 0),(.int .i64 0),(.int .i64 0)]) 24 rfl Try.underlying32 info42 rfl (by decide) (by omega) u7 x7_1 (⟨(rd_T42 l0 x12_1).f0,(rd_T42 l0 x12_1).f1,(rd_T42 l0 x12_1).f2⟩:S42) [.int .i64 ((rd_T42 l0 x12_1).f0), .int .i64 ((rd_T42 l0 x12_1).f1), .int .i64 ((rd_T42 l0 x12_1).f2)] (fun k_=>k_≠gb203) (fun _=>False) rfl rfl ?aP (fun _ hk=>hk.elim) ?aF ?aO ?aB ?aS ?aL ?_;(case aP=>exact k42_mkM _ _ _ (⟨(rd_T42 l0 x12_1).f0,(rd_T42 l0 x12_1).f1,(rd_T42 l0 x12_1).f2⟩:S42));(case aB=>exact((a2_ GE203.out)));(case aF=>exact(fun k_ hk=>Kd.freshB (g:=gb203) (o:= .cells #[.int .i64 ((rd_T42 l0 x12_1).f0), .int .i64 ((rd_T42 l0 x12_1).f1), .int .i64 ((rd_T42 l0 x12_1).f2)] 42 (0,0)) ((a3_ BK203.out)) k_ hk));(case aO=>exact((a44_ HO_7.out)));(case aS=>exact(below_size ((a2_ GE203.out))));(case aL=>have:=LMc11.out;omega);intro v207 w18 ho hb hg hat;rw[← Ny206.out]at ho;have n0_:=am_ (blk_grown (g:=gb203) (o:= .cells #[.int .i64 ((rd_T42 l0 x12_1).f0), .int .i64 ((rd_T42 l0 x12_1).f1), .int .i64 ((rd_T42 l0 x12_1).f2)] 42 (0,0)) ((a3_ BK203.out)) hg (Kd.R_away HO_7.out (fun _ hk=>hk.2)));have n1_:=am_ (hb);have n2_:=am_ (ho);clear BK203 HB HO_7;have BK203:=n0_;have HB:=n1_;have HO208:=n2_;clear n0_ n1_ n2_ ho hb hg hat))
         go_roundg k1
         case measure=>have:=HK1.out;omega
         case rel=>exact⟨(y206),(wrap64 (x12_1+1)),(by first | rfl|(simp;done)|(simp[*];done)),H',⟨by have:=HK1.out;omega⟩,⟨(a28_ HO208.out)⟩,⟨(a2_ GE203.out)⟩⟩
        ·rw[if_neg c11]at H
         exact absurd H (by simp)
       ·replace c10:=Bool.eq_false_iff.mpr c10
        subst c10
        replace H:(spec_mgKept.l0 k1 l1 l2 x7_1 l0 (l0.length:Int) (wrap64 (x12_1+1)))=some r:=by rw[if_neg (show ¬(false=true) by decide)]at H;exact H
        have H':=am_ H
        clear H
        have p202:0≤(x12_1:Int):=of_decide_eq_true (a13_)
        have q202:x12_1<(l0.length:Int):=of_decide_eq_true (a13_)
        obtain⟨ad202,e202,hx202_0,hx202_1,hx202_2⟩:=at_T42 HR0.out x12_1 p202 q202
        cases e202
        replace hx202_0:=(HB.out.cell (World.block_lt_of_cell? w _ hx202_0)).trans hx202_0
        replace hx202_1:=(HB.out.cell (World.block_lt_of_cell? w _ hx202_1)).trans hx202_1
        replace hx202_2:=(HB.out.cell (World.block_lt_of_cell? w _ hx202_2)).trans hx202_2
        replace p202:=eq_true p202
        replace q202:=eq_true q202
        go_wp2_with (first|((with_reducible refine gate_dst (N:=9) rfl ?_);refine box_event ?hg (N:=9) ?hd (cs:= #[.int .i64 0, .int .i64 0, .int .i64 0]) (t:=42) ?hr ?_;(case hd=>rfl);(case hg=>rfl);(case hr=>exact hr_);intro gb203 hg w19 hbox hb;replace HO_7:=am_ (Kd.R_below (Kd.R_elderB ((a0_ HO_7.out)) gb203 (Nat.le_of_eq hg.symm)) hb);have BK203:=am_ (hbox);have GW203:=am_ ((by rw[hg];exact(below_size (a1_)):w.heap.size≤gb203));have GE203:=am_ ((by rw[hg];exact(below_size (a1_)):w.heap.size≤gb203));replace HB:=am_ (below_step (a1_) hb);clear hb hbox hg;have hcz20_0:w19.cell? ⟨gb203,0,none⟩=some (.int .i64 0):=(blk_cell BK203.out 0).trans rfl;have hcz20_1:w19.cell? ⟨gb203,1,none⟩=some (.int .i64 0):=(blk_cell BK203.out 1).trans rfl;have hcz20_2:w19.cell? ⟨gb203,2,none⟩=some (.int .i64 0):=(blk_cell BK203.out 2).trans rfl;have hfz20_0:=blk_frozen BK203.out 0;have hfz20_1:=blk_frozen BK203.out 1;have hfz20_2:=blk_frozen BK203.out 2)|((with_reducible refine gate_callee (f:=79) rfl ?_);refine goesL_ (some 18) rfl rfl Try.func79 (by kernel_rfl) rfl #[.slice A1 l1.length c1, .agg #[.int .i64 ((rd_T42 l0 x12_1).f0), .int .i64 ((rd_T42 l0 x12_1).f1), .int .i64 ((rd_T42 l0 x12_1).f2)]] rfl gd_ ?_;(with_reducible refine(spec_mgHas.calls k1 _ _ l1 ((rd_T42 l0 x12_1).f0) ((rd_T42 l0 x12_1).f1) ((rd_T42 l0 x12_1).f2) true _ ?side1 ?side2 A7.out).mono ?_);(case side1=>exact Kd.C_below HR1.out ((a2_ GE203.out)));(case side2=>exact HC1.out);rintro e w21 ⟨rfl,hb⟩;refine⟨_,rfl,?_⟩;replace HO_7:=am_ (Kd.R_below ((a43_ HO_7.out)) hb);replace BK203:=am_ (blk_below (g:=gb203) (o:= .cells #[.int .i64 ((rd_T42 l0 x12_1).f0), .int .i64 ((rd_T42 l0 x12_1).f1), .int .i64 ((rd_T42 l0 x12_1).f2)] 42 (0,0)) ((a19_ BK203.out)) hb);replace HB:=am_ (below_step ((a2_ GE203.out)) hb);(try clear hb);(try clear hb2);(try clear hk);(try clear hi);have hcz22_0:w21.cell? ⟨gb203,0,none⟩=some (.int .i64 ((rd_T42 l0 x12_1).f0)):=(blk_cell BK203.out 0).trans rfl;have hcz22_1:w21.cell? ⟨gb203,1,none⟩=some (.int .i64 ((rd_T42 l0 x12_1).f1)):=(blk_cell BK203.out 1).trans rfl;have hcz22_2:w21.cell? ⟨gb203,2,none⟩=some (.int .i64 ((rd_T42 l0 x12_1).f2)):=(blk_cell BK203.out 2).trans rfl;have hfz22_0:=blk_frozen BK203.out 0;have hfz22_1:=blk_frozen BK203.out 1;have hfz22_2:=blk_frozen BK203.out 2)|(go_at_call 79;(with_reducible refine(spec_mgHas.calls k1 _ _ l2 ((rd_T42 l0 x12_1).f0) ((rd_T42 l0 x12_1).f1) ((rd_T42 l0 x12_1).f2) false _ ?side1 ?side2 A9.out).mono ?_);(case side1=>exact(a8_ HR2.out));(case side2=>exact HC2.out);rintro e w23 ⟨rfl,hb⟩;replace HO_7:=am_ (Kd.R_below ((a0_ HO_7.out)) hb);replace BK203:=am_ (blk_below (g:=gb203) (o:= .cells #[.int .i64 ((rd_T42 l0 x12_1).f0), .int .i64 ((rd_T42 l0 x12_1).f1), .int .i64 ((rd_T42 l0 x12_1).f2)] 42 (0,0)) ((a3_ BK203.out)) hb);replace HB:=am_ (below_step ((a2_ GE203.out)) hb);(try clear hb);(try clear hb2);(try clear hk);(try clear hi)))
        go_roundg k1
        case measure=>have:=HK1.out;omega
        case rel=>exact⟨(x7_1),(wrap64 (x12_1+1)),(by first | rfl|(simp;done)|(simp[*];done)),H',⟨by have:=HK1.out;omega⟩,⟨(a28_ HO_7.out)⟩,⟨(a2_ GE203.out)⟩⟩
      ·replace c8:=Bool.eq_false_iff.mpr c8
       subst c8
       replace H:(spec_mgKept.l0 k1 l1 l2 x7_1 l0 (l0.length:Int) (wrap64 (x12_1+1)))=some r:=by rw[if_neg (show ¬(false=true) by decide)]at H;exact H
       have H':=am_ H
       clear H
       have p202:0≤(x12_1:Int):=of_decide_eq_true (a13_)
       have q202:x12_1<(l0.length:Int):=of_decide_eq_true (a13_)
       obtain⟨ad202,e202,hx202_0,hx202_1,hx202_2⟩:=at_T42 HR0.out x12_1 p202 q202
       cases e202
       replace hx202_0:=(HB.out.cell (World.block_lt_of_cell? w _ hx202_0)).trans hx202_0
       replace hx202_1:=(HB.out.cell (World.block_lt_of_cell? w _ hx202_1)).trans hx202_1
       replace hx202_2:=(HB.out.cell (World.block_lt_of_cell? w _ hx202_2)).trans hx202_2
       replace p202:=eq_true p202
       replace q202:=eq_true q202
       go_wp2_with (first|((with_reducible refine gate_dst (N:=9) rfl ?_);refine box_event ?hg (N:=9) ?hd (cs:= #[.int .i64 0, .int .i64 0, .int .i64 0]) (t:=42) ?hr ?_;(case hd=>rfl);(case hg=>rfl);(case hr=>exact hr_);intro gb203 hg w24 hbox hb;replace HO_7:=am_ (Kd.R_below (Kd.R_elderB ((a0_ HO_7.out)) gb203 (Nat.le_of_eq hg.symm)) hb);have BK203:=am_ (hbox);have GW203:=am_ ((by rw[hg];exact(below_size (a1_)):w.heap.size≤gb203));have GE203:=am_ ((by rw[hg];exact(below_size (a1_)):w.heap.size≤gb203));replace HB:=am_ (below_step (a1_) hb);clear hb hbox hg;have hcz25_0:w24.cell? ⟨gb203,0,none⟩=some (.int .i64 0):=(blk_cell BK203.out 0).trans rfl;have hcz25_1:w24.cell? ⟨gb203,1,none⟩=some (.int .i64 0):=(blk_cell BK203.out 1).trans rfl;have hcz25_2:w24.cell? ⟨gb203,2,none⟩=some (.int .i64 0):=(blk_cell BK203.out 2).trans rfl;have hfz25_0:=blk_frozen BK203.out 0;have hfz25_1:=blk_frozen BK203.out 1;have hfz25_2:=blk_frozen BK203.out 2)|((with_reducible refine gate_callee (f:=79) rfl ?_);refine goesL_ (some 18) rfl rfl Try.func79 (by kernel_rfl) rfl #[.slice A1 l1.length c1, .agg #[.int .i64 ((rd_T42 l0 x12_1).f0), .int .i64 ((rd_T42 l0 x12_1).f1), .int .i64 ((rd_T42 l0 x12_1).f2)]] rfl gd_ ?_;(with_reducible refine(spec_mgHas.calls k1 _ _ l1 ((rd_T42 l0 x12_1).f0) ((rd_T42 l0 x12_1).f1) ((rd_T42 l0 x12_1).f2) false _ ?side1 ?side2 A7.out).mono ?_);(case side1=>exact Kd.C_below HR1.out ((a2_ GE203.out)));(case side2=>exact HC1.out);rintro e w26 ⟨rfl,hb⟩;refine⟨_,rfl,?_⟩;replace HO_7:=am_ (Kd.R_below ((a43_ HO_7.out)) hb);replace BK203:=am_ (blk_below (g:=gb203) (o:= .cells #[.int .i64 ((rd_T42 l0 x12_1).f0), .int .i64 ((rd_T42 l0 x12_1).f1), .int .i64 ((rd_T42 l0 x12_1).f2)] 42 (0,0)) ((a19_ BK203.out)) hb);replace HB:=am_ (below_step ((a2_ GE203.out)) hb);(try clear hb);(try clear hb2);(try clear hk);(try clear hi)))
       go_roundg k1
       case measure=>have:=HK1.out;omega
       case rel=>exact⟨(x7_1),(wrap64 (x12_1+1)),(by first | rfl|(simp;done)|(simp[*];done)),H',⟨by have:=HK1.out;omega⟩,⟨(a28_ HO_7.out)⟩,⟨(a2_ GE203.out)⟩⟩
     ·rw[if_neg c6]at H
      exact absurd H (by simp)
    ·rw[if_neg c5]at H
     exact absurd H (by simp)
   ·rw[if_neg c4]at H
    have c4b0:decide (x12_1<(l0.length:Int))=false:=decide_eq_false c4
    clear c4
    obtain rfl:=Option.some.inj H
    go_wp2
    go_ret
    exact⟨_,a12_,(a0_ HO_7.out),a1_⟩

/-! ### spec_MergeSheets: function 35 -/
def spec_MergeSheets.f (k:Nat) (l0:List (S42)) (l1:List (S42)) (l2:List (S42)):Option ((List (S42))×Bool):=(spec_mgThree.f k l0 l1 l2).bind fun t209=>(if t209=true then((spec_mgKept.f k l0 l1 l2).bind fun t210=>((spec_mgLess.f k l1 l0).bind fun t213=>(if t210.length+t213.length<5864062014805 then((some (t210 ++ t213:List (S42))).bind fun y216=>((spec_mgLess.f k l2 l0).bind fun t219=>((spec_mgLess.f k t219 l1).bind fun t222=>(if y216.length+t222.length<5864062014805 then((spec_shSorted.f k (y216 ++ t222)).bind fun bt228=>(some (bt228.1,bt228.2))) else(none))))) else(none)))) else(some (([]:List (S42)),false)))
theorem spec_MergeSheets.mono:∀a0 a1 a2 k,LeO (spec_MergeSheets.f k a0 a1 a2) (spec_MergeSheets.f (k+1) a0 a1 a2):=by
 intro a0 a1 a2 k
 unfold spec_MergeSheets.f
 repeat' first
  |(with_reducible exact spec_mgKept.mono _ _ _ _)
  |(with_reducible exact spec_mgLess.mono _ _ _)
  |(with_reducible exact spec_mgThree.mono _ _ _ _)
  |(with_reducible exact spec_shSorted.mono _ _)
  |(with_reducible exact LeO.refl _)
  |(with_reducible exact LeO.none _)
  |(with_reducible refine LeO.ite ?_ ?_)
  |(with_reducible refine LeO.bind ?_ (fun _=>?_))
  |exact spec_mgKept.mono _ _ _ _
  |exact spec_mgLess.mono _ _ _
  |exact spec_mgThree.mono _ _ _ _
  |exact spec_shSorted.mono _ _
  |exact LeO.none _
   | refine LeO.ite ?_ ?_
   | refine LeO.bind ?_ (fun _=>?_)
set_option maxHeartbeats 8000000 in
set_option maxRecDepth 100000 in
theorem spec_MergeSheets.calls (k:Nat) (A0:Option Addr) (c0:Nat) (l0:List (S42)) (A1:Option Addr) (c1:Nat) (l1:List (S42)) (A2:Option Addr) (c2:Nat) (l2:List (S42)) (r1:List (S42)) (r2:Bool) (w:World) (hr0:Kd.C k42 w A0 l0.length l0) (hc0:l0.length≤c0) (hr1:Kd.C k42 w A1 l1.length l1) (hc1:l1.length≤c1) (hr2:Kd.C k42 w A2 l2.length l2) (hc2:l2.length≤c2) (h:spec_MergeSheets.f k l0 l1 l2=some (r1,r2)) :
 Calls Try.prog 35 #[.slice A0 l0.length c0, .slice A1 l1.length c1, .slice A2 l2.length c2] w fun e w'=>∃v0_:Value,e = .returned (.tuple #[v0_, .bool r2])∧Kd.R k42 42 w' w.heap.size (fun _=>True) v0_ r1∧Below w.heap.size w w':=by
 have HR0:=am_ hr0
 have HC0:=am_ hc0
 clear hr0 hc0
 have HR1:=am_ hr1
 have HC1:=am_ hc1
 clear hr1 hc1
 have HR2:=am_ hr2
 have HC2:=am_ hc2
 clear hr2 hc2
 have HB:=am_ (Below.refl w.heap.size w)
 have H:((spec_mgThree.f k l0 l1 l2).bind fun t209=>(if t209=true then((spec_mgKept.f k l0 l1 l2).bind fun t210=>((spec_mgLess.f k l1 l0).bind fun t213=>(if t210.length+t213.length<5864062014805 then((some (t210 ++ t213:List (S42))).bind fun y216=>((spec_mgLess.f k l2 l0).bind fun t219=>((spec_mgLess.f k t219 l1).bind fun t222=>(if y216.length+t222.length<5864062014805 then((spec_shSorted.f k (y216 ++ t222)).bind fun bt228=>(some (bt228.1,bt228.2))) else(none))))) else(none)))) else(some (([]:List (S42)),false))))=some (r1,r2):=h
 clear h
 obtain⟨t209,A4,H⟩:=bo_ H
 try dsimp only at H
 by_cases c5:t209=true
 ·subst c5
  replace H:((spec_mgKept.f k l0 l1 l2).bind fun t210=>((spec_mgLess.f k l1 l0).bind fun t213=>(if t210.length+t213.length<5864062014805 then((some (t210 ++ t213:List (S42))).bind fun y216=>((spec_mgLess.f k l2 l0).bind fun t219=>((spec_mgLess.f k t219 l1).bind fun t222=>(if y216.length+t222.length<5864062014805 then((spec_shSorted.f k (y216 ++ t222)).bind fun bt228=>(some (bt228.1,bt228.2))) else(none))))) else(none))))=some (r1,r2):=by rw[if_pos rfl]at H;exact H
  obtain⟨t210,A6,H⟩:=bo_ H
  try dsimp only at H
  obtain⟨t213,A7,H⟩:=bo_ H
  try dsimp only at H
  by_cases c8:t210.length+t213.length<5864062014805
  ·rw[if_pos c8]at H
   have LMc8:=am_ c8
   clear c8
   obtain⟨y216,hy216⟩:∃y_:List (S42),y_=(t210 ++ t213):=⟨_,rfl⟩
   replace H:((spec_mgLess.f k l2 l0).bind fun t219=>((spec_mgLess.f k t219 l1).bind fun t222=>(if y216.length+t222.length<5864062014805 then((spec_shSorted.f k (y216 ++ t222)).bind fun bt228=>(some (bt228.1,bt228.2))) else(none))))=some (r1,r2):=by first|(rw[hy216];with_reducible exact H)|(have H2_:=(Option.bind_some _ _).symm.trans H;rw[hy216];with_reducible exact H2_)|(have H2_:=(Option.bind_some _ _).symm.trans H;with_reducible exact H2_) | with_reducible exact H|(rw[hy216];exact H)|exact H
   have Ny216:=am_ hy216
   clear hy216
   obtain⟨t219,A9,H⟩:=bo_ H
   try dsimp only at H
   obtain⟨t222,A10,H⟩:=bo_ H
   try dsimp only at H
   by_cases c11:y216.length+t222.length<5864062014805
   ·rw[if_pos c11]at H
    have LMc11:=am_ c11
    clear c11
    obtain⟨y225,hy225⟩:∃y_:List (S42),y_=(y216 ++ t222):=⟨_,rfl⟩
    replace H:((spec_shSorted.f k y225).bind fun bt228=>(some (bt228.1,bt228.2)))=some (r1,r2):=by first|(rw[hy225];with_reducible exact H)|(have H2_:=(Option.bind_some _ _).symm.trans H;rw[hy225];with_reducible exact H2_)|(have H2_:=(Option.bind_some _ _).symm.trans H;with_reducible exact H2_) | with_reducible exact H|(rw[hy225];exact H)|exact H
    have Ny225:=am_ hy225
    clear hy225
    obtain⟨⟨t228,t229⟩,A12,H⟩:=bo_ H
    try dsimp only at H
    simp only[Option.some.injEq,Prod.mk.injEq]at H
    obtain⟨rfl,rfl⟩:=H
    go_enter Try.func35,Try.ntmps35
    go_wp2_with (first|((with_reducible refine gate_callee (f:=85) rfl ?_);refine goesL_ (some 12) rfl rfl Try.func85 (by kernel_rfl) rfl #[.slice A0 l0.length c0, .slice A1 l1.length c1, .slice A2 l2.length c2] rfl gd_ ?_;(with_reducible refine(spec_mgThree.calls k _ _ l0 _ _ l1 _ _ l2 true _ ?side1 ?side2 ?side3 ?side4 ?side5 ?side6 A4.out).mono ?_);(case side1=>exact(a16_ HR0.out));(case side2=>exact HC0.out);(case side3=>exact(a16_ HR1.out));(case side4=>exact HC1.out);(case side5=>exact(a16_ HR2.out));(case side6=>exact HC2.out);rintro e w13 ⟨rfl,hb⟩;refine⟨_,rfl,?_⟩;replace HB:=am_ (below_step (a1_) hb);(try clear hb);(try clear hb2);(try clear hk);(try clear hi))|((with_reducible refine gate_callee (f:=86) rfl ?_);refine goesL_ (some 17) rfl rfl Try.func86 (by kernel_rfl) rfl #[.slice A0 l0.length c0, .slice A1 l1.length c1, .slice A2 l2.length c2] rfl gd_ ?_;(with_reducible refine(spec_mgKept.calls k _ _ l0 _ _ l1 _ _ l2 t210 _ ?side1 ?side2 ?side3 ?side4 ?side5 ?side6 A6.out).mono ?_);(case side1=>exact(a8_ HR0.out));(case side2=>exact HC0.out);(case side3=>exact(a8_ HR1.out));(case side4=>exact HC1.out);(case side5=>exact(a8_ HR2.out));(case side6=>exact HC2.out);rintro e w14 ⟨v211,rfl,ho0,hb⟩;refine⟨_,rfl,?_⟩;have HO212:=am_ (Kd.R_lower ho0 (below_size (a1_)));replace HB:=am_ (below_step (a1_) hb);(try clear hb);(try clear hb2);(try clear hk);(try clear hi);(try clear ho0))|((with_reducible refine gate_callee (f:=78) rfl ?_);refine goesL_ (some 20) rfl rfl Try.func78 (by kernel_rfl) rfl #[.slice A1 l1.length c1, .slice A0 l0.length c0] rfl gd_ ?_;(with_reducible refine(spec_mgLess.calls k _ _ l1 _ _ l0 t213 _ ?side1 ?side2 ?side3 ?side4 A7.out).mono ?_);(case side1=>exact(a8_ HR1.out));(case side2=>exact HC1.out);(case side3=>exact(a8_ HR0.out));(case side4=>exact HC0.out);rintro e w15 ⟨v214,rfl,ho0,hb⟩;refine⟨_,rfl,?_⟩;have HO215:=am_ (Kd.R_lower (Kd.R_new' ho0 (Kd.R_lt ((a0_ HO212.out)))) (below_size (a1_)));replace HO212:=am_ (Kd.R_elder' ((a0_ HO212.out)) (Kd.R_base ho0) hb);replace HB:=am_ (below_step (a1_) hb);(try clear hb);(try clear hb2);(try clear hk);(try clear hi);(try clear ho0);obtain⟨Ao17,co17,eo17⟩:=Kd.R_slice HO215.out;subst eo17)|((with_reducible refine gate_builtin (b:= .append) (xs:= #[.tmp 17, .tmp 20]) rfl ?_);at_builtin;refine Kd.R_append_rows k42 (w0:=w) w.heap.size rfl (.tmp 17) (.tmp 20) 32 42 (.agg #[(.int .i64 0),(.int .i64 0),(.int .i64 0)]) 24 rfl Try.underlying32 info42 rfl (by decide) (by omega) v211 t210 t213 _ _ _ (fun k_=>some k_≠(.slice Ao17 t213.length co17:Value).ownBlock) (fun _=>False) rfl rfl ?aO ?aR (fun _ _ h=>h) (fun _ h=>h.elim) ?aF ?aB ?aS ?aL ?_;(case aR=>exact(a4_ HO215.out));(case aB=>exact(a1_));(case aF=>exact(fun k_ hk=>Kd.fresh' (Kd.R_lt ((a0_ HO215.out))) k_ hk));(case aO=>exact((a44_ HO212.out)));(case aS=>exact(below_size (a1_)));(case aL=>have:=LMc8.out;omega);intro v217 w16 ho hb hg hat;rw[← Ny216.out]at ho;have n0_:=am_ (Kd.R_after (ok:=(fun _=>True)) ((a0_ HO215.out)) hg hat);have n1_:=am_ (hb);have n2_:=am_ (ho);clear HO215 HB HO212;have HO215:=n0_;have HB:=n1_;have HO218:=n2_;clear n0_ n1_ n2_ ho hb hg hat)|((with_reducible refine gate_callee (f:=78) rfl ?_);refine goesL_ (some 25) rfl rfl Try.func78 (by kernel_rfl) rfl #[.slice A2 l2.length c2, .slice A0 l0.length c0] rfl gd_ ?_;(with_reducible refine(spec_mgLess.calls k _ _ l2 _ _ l0 t219 _ ?side1 ?side2 ?side3 ?side4 A9.out).mono ?_);(case side1=>exact(a8_ HR2.out));(case side2=>exact HC2.out);(case side3=>exact(a8_ HR0.out));(case side4=>exact HC0.out);rintro e w18 ⟨v220,rfl,ho0,hb⟩;refine⟨_,rfl,?_⟩;have HO221:=am_ (Kd.R_lower (Kd.R_new' (Kd.R_new' ho0 (Kd.R_lt ((a0_ HO215.out)))) (Kd.R_lt ((a0_ HO218.out)))) (below_size (a1_)));replace HO215:=am_ (Kd.R_elder' ((a0_ HO215.out)) (Kd.R_base ho0) hb);replace HO218:=am_ (Kd.R_elder' ((a0_ HO218.out)) (Kd.R_base ho0) hb);replace HB:=am_ (below_step (a1_) hb);(try clear hb);(try clear hb2);(try clear hk);(try clear hi);(try clear ho0);obtain⟨Ao19,co19,eo19⟩:=Kd.R_slice HO221.out;subst eo19)|((with_reducible refine gate_callee (f:=78) rfl ?_);refine goesL_ (some 27) rfl rfl Try.func78 (by kernel_rfl) rfl #[.slice Ao19 t219.length co19, .slice A1 l1.length c1] rfl gd_ ?_;(with_reducible refine(spec_mgLess.calls k _ _ t219 _ _ l1 t222 _ ?side1 ?side2 ?side3 ?side4 A10.out).mono ?_);(case side1=>exact(a4_ HO221.out));(case side2=>exact(Kd.R_reads' HO221.out).2.1);(case side3=>exact(a8_ HR1.out));(case side4=>exact HC1.out);rintro e w20 ⟨v223,rfl,ho0,hb⟩;refine⟨_,rfl,?_⟩;have HO224:=am_ (Kd.R_lower (Kd.R_new' (Kd.R_new' (Kd.R_new' ho0 (Kd.R_lt ((a0_ HO215.out)))) (Kd.R_lt ((a0_ HO218.out)))) (Kd.R_lt ((a0_ HO221.out)))) (below_size (a1_)));replace HO215:=am_ (Kd.R_elder' ((a0_ HO215.out)) (Kd.R_base ho0) hb);replace HO218:=am_ (Kd.R_elder' ((a0_ HO218.out)) (Kd.R_base ho0) hb);replace HO221:=am_ (Kd.R_elder' ((a0_ HO221.out)) (Kd.R_base ho0) hb);replace HB:=am_ (below_step (a1_) hb);(try clear hb);(try clear hb2);(try clear hk);(try clear hi);(try clear ho0);obtain⟨Ao22,co22,eo22⟩:=Kd.R_slice HO224.out;subst eo22)|((with_reducible refine gate_builtin (b:= .append) (xs:= #[.tmp 22, .tmp 27]) rfl ?_);at_builtin;refine Kd.R_append_rows k42 (w0:=w) w.heap.size rfl (.tmp 22) (.tmp 27) 32 42 (.agg #[(.int .i64 0),(.int .i64 0),(.int .i64 0)]) 24 rfl Try.underlying32 info42 rfl (by decide) (by omega) v217 y216 t222 _ _ _ (fun k_=>some k_≠(.slice Ao17 t213.length co17:Value).ownBlock∧some k_≠(.slice Ao19 t219.length co19:Value).ownBlock∧some k_≠(.slice Ao22 t222.length co22:Value).ownBlock) (fun _=>False) rfl rfl ?aO ?aR (fun _ _ h=>h) (fun _ h=>h.elim) ?aF ?aB ?aS ?aL ?_;(case aR=>exact(a4_ HO224.out));(case aB=>exact(a1_));(case aF=>exact(fun k_ hk=>⟨Kd.fresh' (Kd.R_lt ((a0_ HO215.out))) k_ hk,Kd.fresh' (Kd.R_lt ((a0_ HO221.out))) k_ hk,Kd.fresh' (Kd.R_lt ((a0_ HO224.out))) k_ hk⟩));(case aO=>exact(by(with_reducible repeat (first|apply Kd.R_alloc|apply Kd.R_drewN|apply Kd.R_drew));exact Kd.R_mono HO218.out (fun _ hk=>⟨hk.1.1,⟨hk.1.2,hk.2⟩⟩)));(case aS=>exact(below_size (a1_)));(case aL=>have:=LMc11.out;omega);intro v226 w21 ho hb hg hat;rw[← Ny225.out]at ho;have n0_:=am_ (Kd.R_after (ok:=(fun k_=>some k_≠(.slice Ao19 t219.length co19:Value).ownBlock∧some k_≠(.slice Ao22 t222.length co22:Value).ownBlock)) (by(with_reducible repeat (first|apply Kd.R_alloc|apply Kd.R_drewN|apply Kd.R_drew));exact Kd.R_mono HO215.out (fun _ hk=>⟨⟨hk.1.2,hk.2⟩,hk.1.1.2⟩)) hg hat);have n1_:=am_ (Kd.R_after (ok:=(fun k_=>some k_≠(.slice Ao17 t213.length co17:Value).ownBlock∧some k_≠(.slice Ao22 t222.length co22:Value).ownBlock)) ((a61_ HO221.out)) hg hat);have n2_:=am_ (Kd.R_after (ok:=(fun k_=>some k_≠(.slice Ao17 t213.length co17:Value).ownBlock∧some k_≠(.slice Ao19 t219.length co19:Value).ownBlock)) ((a61_ HO224.out)) hg hat);have n3_:=am_ (hb);have n4_:=am_ (ho);clear HO215 HO221 HO224 HB HO218;have HO215:=n0_;have HO221:=n1_;have HO224:=n2_;have HB:=n3_;have HO227:=n4_;clear n0_ n1_ n2_ n3_ n4_ ho hb hg hat;obtain⟨Ao23,co23,eo23⟩:=Kd.R_slice HO227.out;subst eo23)|((with_reducible refine gate_callee (f:=80) rfl ?_);refine goesL_ (some 29) rfl rfl Try.func80 (by kernel_rfl) rfl #[.slice Ao23 y225.length co23] rfl gd_ ?_;(with_reducible refine(spec_shSorted.calls k _ _ y225 t228 t229 _ ?side1 ?side2 A12.out).mono ?_);(case side1=>exact(a4_ HO227.out));(case side2=>exact(Kd.R_reads' HO227.out).2.1);rintro e w24 ⟨v230,rfl,ho0,hb⟩;refine⟨_,rfl,?_⟩;have HO231:=am_ (Kd.R_lower (Kd.R_new' (Kd.R_new' (Kd.R_new' (Kd.R_new' ho0 (Kd.R_lt ((a0_ HO215.out)))) (Kd.R_lt ((a0_ HO221.out)))) (Kd.R_lt ((a0_ HO224.out)))) (Kd.R_lt ((a0_ HO227.out)))) (below_size (a1_)));replace HO215:=am_ (Kd.R_elder' ((a0_ HO215.out)) (Kd.R_base ho0) hb);replace HO221:=am_ (Kd.R_elder' ((a0_ HO221.out)) (Kd.R_base ho0) hb);replace HO224:=am_ (Kd.R_elder' ((a0_ HO224.out)) (Kd.R_base ho0) hb);replace HO227:=am_ (Kd.R_elder' ((a0_ HO227.out)) (Kd.R_base ho0) hb);replace HB:=am_ (below_step (a1_) hb);(try clear hb);(try clear hb2);(try clear hk);(try clear hi);(try clear ho0)))
    go_ret2
    exact⟨_,a12_,(a28_ HO231.out),a1_⟩
   ·rw[if_neg c11]at H
    exact absurd H (by simp)
  ·rw[if_neg c8]at H
   exact absurd H (by simp)
 ·replace c5:=Bool.eq_false_iff.mpr c5
  subst c5
  replace H:(some (([]:List (S42)),false))=some (r1,r2):=by rw[if_neg (show ¬(false=true) by decide)]at H;exact H
  simp only[Option.some.injEq,Prod.mk.injEq]at H
  obtain⟨rfl,rfl⟩:=H
  go_enter Try.func35,Try.ntmps35
  go_wp2_with (first|((with_reducible refine gate_callee (f:=85) rfl ?_);refine goesL_ (some 12) rfl rfl Try.func85 (by kernel_rfl) rfl #[.slice A0 l0.length c0, .slice A1 l1.length c1, .slice A2 l2.length c2] rfl gd_ ?_;(with_reducible refine(spec_mgThree.calls k _ _ l0 _ _ l1 _ _ l2 false _ ?side1 ?side2 ?side3 ?side4 ?side5 ?side6 A4.out).mono ?_);(case side1=>exact(a16_ HR0.out));(case side2=>exact HC0.out);(case side3=>exact(a16_ HR1.out));(case side4=>exact HC1.out);(case side5=>exact(a16_ HR2.out));(case side6=>exact HC2.out);rintro e w25 ⟨rfl,hb⟩;refine⟨_,rfl,?_⟩;replace HB:=am_ (below_step (a1_) hb);(try clear hb);(try clear hb2);(try clear hk);(try clear hi)))
  go_ret2
  exact⟨_,a12_,a35_,a1_⟩

/-! ### impl_Hole_66: function 66 (by hand: a copy of a slice) -/
def impl_Hole_66.f (l0:List S42):Option (List S42):=if l0.length<1000000000 then some l0 else none
theorem impl_Hole_66.info:(Try.prog.info? 42).map (fun i=>(i.zero,i.size,i.bytes))=some (some (.agg #[(.int .i64 0),(.int .i64 0),(.int .i64 0)]),3,24):=by kernel_rfl
set_option maxHeartbeats 8000000 in
set_option maxRecDepth 100000 in
theorem impl_Hole_66.calls (A0:Option Addr) (c0:Nat) (l0:List S42) (r:List S42) (w:World) (hr0:Kd.C k42 w A0 l0.length l0) (hc0:l0.length≤c0) (h:impl_Hole_66.f l0=some r) :
 Calls Try.prog 66 #[.slice A0 l0.length c0] w fun e w'=>∃v0_:Value,e = .returned (v0_)∧Kd.R k42 42 w' w.heap.size (fun _=>True) v0_ r∧Below w.heap.size w w':=by
 unfold impl_Hole_66.f at h
 by_cases hlen:l0.length<1000000000
 ·rw[if_pos hlen]at h
  obtain rfl:=Option.some.inj h
  clear h
  cases A0 with
  | none=>
   have hz:l0 = []:=by
    rcases Nat.eq_zero_or_pos l0.length with h0 | h0
    ·exact List.eq_nil_of_length_eq_zero h0
    ·obtain⟨ad,e,_⟩:=hr0.2.2 h0
     cases e
   subst hz
   have hq:∀W:World,(binOp .eql 32 (.slice none 0 c0) (.slice none 0 0)).run Try.prog W = .ok (.bool true) W:=fun W=>Go.run_eql_slice_nil W 32 42 none 0 c0 Try.underlying32
   clear hr0 hc0 hlen
   go_enter Try.func66,Try.ntmps66
   go_wp2
   go_ret
   exact⟨_,rfl,Kd.R_nil _ _ _ _ _,Below.refl _ _⟩
  | some ad=>
   have hq:∀W:World,(binOp .eql 32 (.slice (some ad) l0.length c0) (.slice none 0 0)).run Try.prog W = .ok (.bool false) W:=fun W=>Go.run_eql_slice_nil W 32 42 (some ad) l0.length c0 Try.underlying32
   have HR0:=am_ hr0
   have HC0:=am_ hc0
   have HL:=am_ hlen
   clear hr0 hc0 hlen
   have HB:=am_ (Below.refl w.heap.size w)
   go_enter Try.func66,Try.ntmps66
   go_wp2_with (first|((with_reducible refine gate_dst (N:=5) rfl ?_);refine Kd.R_lit k42 _ 42 ?hg (N:=5) ?hd (xs:=([]:List S42)) (inner:=[]) (ok:=fun _=>True) (okp:=fun _=>True) ?hr ?hp (fun _ hk=>hk) trivial (Below.refl _ _) (Nat.le_refl _) (by simp) ?_;(case hd=>rfl);(case hg=>rfl);(case hr=>exact hr_);(case hp=>exact(Reps.none _ _));intro v112 w3 ho4 hb hg_ hnew_;clear hg_ hnew_;have HO113:=am_ (Kd.R_lower ho4 (below_size (a1_)));replace HB:=am_ (below_step (a1_) hb);clear hb ho4)|((with_reducible refine gate_builtin (b:= .append) (xs:= #[.tmp 5, .tmp 6]) rfl ?_);at_builtin;refine Kd.R_append_rows k42 (w0:=w) w.heap.size rfl (.tmp 5) (.tmp 6) 32 42 (.agg #[(.int .i64 0),(.int .i64 0),(.int .i64 0)]) 24 rfl Try.underlying32 impl_Hole_66.info rfl (by decide) (by omega) v112 [] l0 _ _ _ (fun _=>True) (fun _=>False) rfl rfl ?aO ?aR (fun _ _ h=>h) (fun _ h=>h.elim) ?aF ?aB ?aS ?aL ?_;(case aR=>exact(a8_ HR0.out));(case aB=>exact(a1_));(case aF=>exact(fun _ _=>trivial));(case aO=>exact((a0_ HO113.out)));(case aS=>exact(below_size (a1_)));(case aL=>have:=HL.out;simp only[List.length_nil];omega);intro v115 w5 ho hb hg hat;have n0_:=am_ (hb);have n1_:=am_ (ho);clear HB HO113;have HB:=n0_;have HO116:=n1_;clear n0_ n1_ ho hb hg hat))
   go_ret
   refine⟨_,rfl,?_,a1_⟩
   have HX:=HO116.out
   rw[List.nil_append]at HX
   exact(by(with_reducible repeat (first|apply Kd.R_alloc|apply Kd.R_drewN|apply Kd.R_drew));exact HX)
 ·rw[if_neg hlen]at h
  exact absurd h (by simp)


-- NOT PRINTED: function 118 (reflectlite_ValueOf)

-- NOT PRINTED: function 119 (reflectlite_Swapper)

-- NOT PRINTED: function 133 (sort_insertionSort_func)

-- NOT PRINTED: function 139 (sort_swapRange_func)

-- NOT PRINTED: function 137 (sort_rotate_func)

-- NOT PRINTED: function 134 (sort_symMerge_func)

-- NOT PRINTED: function 120 (sort_stable_func)

-- NOT PRINTED: function 121 (reflectlite_Value_Len)

-- NOT PRINTED: function 107 (sort_SliceStable)

end Go.Proofs.Ytplpjmhmochcfaa.QFnMerges
