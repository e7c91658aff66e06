/- Written by a program of this session (the kit's printer, with leaf contracts proved by hand put in): what each Go function computes, and that the call computes it. No condition but those that each theorem names. -/
import Derived.Test.YtbbiihhaljigjaaQFnExactMakeEditionx0
import Derived.Test.YtbbiihhaljigjaaQFnExactMakeEditionx1
import Derived.Test.YtbbiihhaljigjaaQFnExactMakeEditionx2
namespace Go.Proofs.Ytbbiihhaljigjaa.QFnExactMakeEdition
open Go.RowKit Go.Proofs.YtbbiihhaljigjaaW.PrintWords Go.Proofs.YtbbiihhaljigjaaW.PrintLast Go.Proofs.YtbbiihhaljigjaaW.PrintMore
attribute [local go_sem] max2_int min2_int max_two min_two max_three min_three max_four min_four   -- for this text's walks alone
set_option linter.unusedVariables false
set_option linter.unusedSimpArgs false

/-! ### spec_shStep: function 55 -/
def spec_shStep.f (a0:Int):Option (Bool):=(spec_l1In.f a0 0 1999).bind fun t120=>(some t120)
set_option maxHeartbeats 8000000 in
set_option maxRecDepth 100000 in
theorem spec_shStep.calls (a0:Int) (r:Bool) (w:World) (h:spec_shStep.f a0=some r) :
 Calls Try.prog 55 #[.int .i64 a0] w fun e w'=>e = .returned (.bool r)∧Drawn0 w w':=by
 have H:((spec_l1In.f a0 0 1999).bind fun t120=>(some t120))=some r:=h
 clear h
 replace H:=Option.bind_eq_some_iff.mp H
 obtain⟨t120,A20,H⟩:=H
 replace H:(some t120)=some r:=H
 have A2:=am_ A20
 clear A20
 obtain rfl:=Option.some.inj H
 go_enter Try.func55,Try.ntmps55
 go_wp2_with (first | ((with_reducible refine gate_callee (f:=42) rfl ?_);refine goesL_ (some 4) rfl rfl Try.func42 (by kernel_rfl) rfl #[.int .i64 a0, .int .i64 0, .int .i64 1999] rfl (by(try simp only[List.map_toArray,List.map_cons,List.map_nil]);first | done | rfl | (simp only[List.length_drop,List.length_take];rfl)) ?_;(with_reducible refine(spec_l1In.calls a0 0 1999 t120 _ A2.out).mono ?_);rintro e w' ⟨rfl,⟨nd,rfl⟩⟩;refine⟨_,rfl,?_⟩))
 go_ret
 exact⟨a6_,a25_⟩

/-! ### spec_edPart: function 48 -/
def spec_edPart.f (a0_0:Int) (a0_1:Int) (a0_2:Int):Option (Bool):=(spec_l1In.f a0_0 0 3).bind fun t122=>(if t122=true then((spec_shStep.f a0_1).bind fun t123=>(if t123=true then((spec_l1In.f a0_2 (wrap64 (a0_1+1)) 2000).bind fun t124=>(some t124)) else(some false))) else(some false))
set_option maxHeartbeats 8000000 in
set_option maxRecDepth 100000 in
theorem spec_edPart.calls (a0_0:Int) (a0_1:Int) (a0_2:Int) (r:Bool) (w:World) (h:spec_edPart.f a0_0 a0_1 a0_2=some r) :
 Calls Try.prog 48 #[.agg #[.int .i64 a0_0, .int .i64 a0_1, .int .i64 a0_2]] w fun e w'=>e = .returned (.bool r)∧Below w.heap.size w w':=by
 have hu44:=Try.underlying44
 have HB:=am_ (Below.refl w.heap.size w)
 have H:((spec_l1In.f a0_0 0 3).bind fun t122=>(if t122=true then((spec_shStep.f a0_1).bind fun t123=>(if t123=true then((spec_l1In.f a0_2 (wrap64 (a0_1+1)) 2000).bind fun t124=>(some t124)) else(some false))) else(some false)))=some r:=h
 clear h
 replace H:=Option.bind_eq_some_iff.mp H
 obtain⟨t122,A20,H⟩:=H
 replace H:(if t122=true then((spec_shStep.f a0_1).bind fun t123=>(if t123=true then((spec_l1In.f a0_2 (wrap64 (a0_1+1)) 2000).bind fun t124=>(some t124)) else(some false))) else(some false))=some r:=H
 have A2:=am_ A20
 clear A20
 by_cases c3:t122=true
 ·subst c3
  replace H:((spec_shStep.f a0_1).bind fun t123=>(if t123=true then((spec_l1In.f a0_2 (wrap64 (a0_1+1)) 2000).bind fun t124=>(some t124)) else(some false)))=some r:=by rw[if_pos rfl]at H;exact H
  replace H:=Option.bind_eq_some_iff.mp H
  obtain⟨t123,A40,H⟩:=H
  replace H:(if t123=true then((spec_l1In.f a0_2 (wrap64 (a0_1+1)) 2000).bind fun t124=>(some t124)) else(some false))=some r:=H
  have A4:=am_ A40
  clear A40
  by_cases c5:t123=true
  ·subst c5
   replace H:((spec_l1In.f a0_2 (wrap64 (a0_1+1)) 2000).bind fun t124=>(some t124))=some r:=by rw[if_pos rfl]at H;exact H
   replace H:=Option.bind_eq_some_iff.mp H
   obtain⟨t124,A60,H⟩:=H
   replace H:(some t124)=some r:=H
   have A6:=am_ A60
   clear A60
   obtain rfl:=Option.some.inj H
   go_enter Try.func48,Try.ntmps48
   go_wp2_with (first | ((with_reducible refine gate_dst (N:=1) rfl ?_);refine box_event ?hg (N:=1) ?hd (cs:= #[.int .i64 a0_0, .int .i64 a0_1, .int .i64 a0_2]) (t:=44) ?hr ?_;(case hd=>rfl);(case hg=>rfl);(case hr=>exact a12_);intro gb121 hg w7 hbox hb;have BK121:=am_ (hbox);have GW121:=am_ ((by rw[hg];exact(below_size (a0_)):w.heap.size≤gb121));have GE121:=am_ ((by rw[hg];exact(below_size (a0_)):w.heap.size≤gb121));replace HB:=am_ (below_step (a0_) hb);clear hb hbox hg;have hcz8_0:w7.cell? ⟨gb121,0,none⟩=some (.int .i64 a0_0):=(blk_cell BK121.out 0).trans rfl;have hcz8_1:w7.cell? ⟨gb121,1,none⟩=some (.int .i64 a0_1):=(blk_cell BK121.out 1).trans rfl;have hcz8_2:w7.cell? ⟨gb121,2,none⟩=some (.int .i64 a0_2):=(blk_cell BK121.out 2).trans rfl;have hfz8_0:=blk_frozen BK121.out 0;have hfz8_1:=blk_frozen BK121.out 1;have hfz8_2:=blk_frozen BK121.out 2) | ((with_reducible refine gate_callee (f:=42) rfl ?_);refine goesL_ (some 5) rfl rfl Try.func42 (by kernel_rfl) rfl #[.int .i64 a0_0, .int .i64 0, .int .i64 3] rfl (by(try simp only[List.map_toArray,List.map_cons,List.map_nil]);first | done | rfl | (simp only[List.length_drop,List.length_take];rfl)) ?_;(with_reducible refine(spec_l1In.calls a0_0 0 3 true _ A2.out).mono ?_);rintro e w' ⟨rfl,⟨nd,rfl⟩⟩;refine⟨_,rfl,?_⟩) | (go_at_call 55;(with_reducible refine(spec_shStep.calls a0_1 true _ A4.out).mono ?_);rintro e w' ⟨rfl,⟨nd,rfl⟩⟩) | (go_at_call 42;(with_reducible refine(spec_l1In.calls a0_2 (wrap64 (a0_1+1)) 2000 t124 _ A6.out).mono ?_);rintro e w' ⟨rfl,⟨nd,rfl⟩⟩))
   go_ret
   exact⟨a5_,(a1_ GE121.out)⟩
  ·replace c5:=Bool.eq_false_iff.mpr c5
   subst c5
   replace H:(some false)=some r:=by rw[if_neg (show ¬(false=true) by decide)]at H;exact H
   obtain rfl:=Option.some.inj H
   go_enter Try.func48,Try.ntmps48
   go_wp2_with (first | ((with_reducible refine gate_dst (N:=1) rfl ?_);refine box_event ?hg (N:=1) ?hd (cs:= #[.int .i64 a0_0, .int .i64 a0_1, .int .i64 a0_2]) (t:=44) ?hr ?_;(case hd=>rfl);(case hg=>rfl);(case hr=>exact a12_);intro gb121 hg w9 hbox hb;have BK121:=am_ (hbox);have GW121:=am_ ((by rw[hg];exact(below_size (a0_)):w.heap.size≤gb121));have GE121:=am_ ((by rw[hg];exact(below_size (a0_)):w.heap.size≤gb121));replace HB:=am_ (below_step (a0_) hb);clear hb hbox hg;have hcz10_0:w9.cell? ⟨gb121,0,none⟩=some (.int .i64 a0_0):=(blk_cell BK121.out 0).trans rfl;have hcz10_1:w9.cell? ⟨gb121,1,none⟩=some (.int .i64 a0_1):=(blk_cell BK121.out 1).trans rfl;have hcz10_2:w9.cell? ⟨gb121,2,none⟩=some (.int .i64 a0_2):=(blk_cell BK121.out 2).trans rfl;have hfz10_0:=blk_frozen BK121.out 0;have hfz10_1:=blk_frozen BK121.out 1;have hfz10_2:=blk_frozen BK121.out 2) | ((with_reducible refine gate_callee (f:=42) rfl ?_);refine goesL_ (some 5) rfl rfl Try.func42 (by kernel_rfl) rfl #[.int .i64 a0_0, .int .i64 0, .int .i64 3] rfl (by(try simp only[List.map_toArray,List.map_cons,List.map_nil]);first | done | rfl | (simp only[List.length_drop,List.length_take];rfl)) ?_;(with_reducible refine(spec_l1In.calls a0_0 0 3 true _ A2.out).mono ?_);rintro e w' ⟨rfl,⟨nd,rfl⟩⟩;refine⟨_,rfl,?_⟩) | (go_at_call 55;(with_reducible refine(spec_shStep.calls a0_1 false _ A4.out).mono ?_);rintro e w' ⟨rfl,⟨nd,rfl⟩⟩))
   go_ret
   exact⟨a5_,(a1_ GE121.out)⟩
 ·replace c3:=Bool.eq_false_iff.mpr c3
  subst c3
  replace H:(some false)=some r:=by rw[if_neg (show ¬(false=true) by decide)]at H;exact H
  obtain rfl:=Option.some.inj H
  go_enter Try.func48,Try.ntmps48
  go_wp2_with (first | ((with_reducible refine gate_dst (N:=1) rfl ?_);refine box_event ?hg (N:=1) ?hd (cs:= #[.int .i64 a0_0, .int .i64 a0_1, .int .i64 a0_2]) (t:=44) ?hr ?_;(case hd=>rfl);(case hg=>rfl);(case hr=>exact a12_);intro gb121 hg w11 hbox hb;have BK121:=am_ (hbox);have GW121:=am_ ((by rw[hg];exact(below_size (a0_)):w.heap.size≤gb121));have GE121:=am_ ((by rw[hg];exact(below_size (a0_)):w.heap.size≤gb121));replace HB:=am_ (below_step (a0_) hb);clear hb hbox hg;have hcz12_0:w11.cell? ⟨gb121,0,none⟩=some (.int .i64 a0_0):=(blk_cell BK121.out 0).trans rfl;have hcz12_1:w11.cell? ⟨gb121,1,none⟩=some (.int .i64 a0_1):=(blk_cell BK121.out 1).trans rfl;have hcz12_2:w11.cell? ⟨gb121,2,none⟩=some (.int .i64 a0_2):=(blk_cell BK121.out 2).trans rfl;have hfz12_0:=blk_frozen BK121.out 0;have hfz12_1:=blk_frozen BK121.out 1;have hfz12_2:=blk_frozen BK121.out 2) | ((with_reducible refine gate_callee (f:=42) rfl ?_);refine goesL_ (some 5) rfl rfl Try.func42 (by kernel_rfl) rfl #[.int .i64 a0_0, .int .i64 0, .int .i64 3] rfl (by(try simp only[List.map_toArray,List.map_cons,List.map_nil]);first | done | rfl | (simp only[List.length_drop,List.length_take];rfl)) ?_;(with_reducible refine(spec_l1In.calls a0_0 0 3 false _ A2.out).mono ?_);rintro e w' ⟨rfl,⟨nd,rfl⟩⟩;refine⟨_,rfl,?_⟩))
  go_ret
  exact⟨a5_,(a1_ GE121.out)⟩

/-! ### spec_edLength: function 49 -/
def spec_edLength.l0:Nat→Int→List (S44)→Int→Int→Option (Int)
 | 0,_,_,_,_=>none
 | k+1,x3,x6,x7,x8=>if x8<x7 then(if 0≤x8 then(if x8<(x6.length:Int) then(spec_edLength.l0 k (wrap64 (x3+(wrap64 (((rd_T44 x6 x8).f2)-((rd_T44 x6 x8).f1))))) x6 x7 (wrap64 (x8+1))) else(none)) else(none)) else(some x3)
def spec_edLength.f (k:Nat) (l0:List (S44)):Option (Int):=spec_edLength.l0 k 0 l0 (l0.length:Int) 0
theorem spec_edLength.mono_l:∀k,(∀y0 y1 y2 y3,LeO (spec_edLength.l0 k y0 y1 y2 y3) (spec_edLength.l0 (k+1) y0 y1 y2 y3))
 | 0=>fun _ _ _ _ r h=>by simp[spec_edLength.l0]at h
 | k+1=>by
  have ih0:=spec_edLength.mono_l k
  ·intro y0 y1 y2 y3
   unfold spec_edLength.l0
   repeat' first
   | (with_reducible exact ih0 _ _ _ _)
   | (with_reducible exact LeO.refl _)
   | (with_reducible exact LeO.none _)
   | (with_reducible refine LeO.ite ?_ ?_)
   | (with_reducible refine LeO.bind ?_ (fun _=>?_))
   | exact ih0 _ _ _ _
   | exact LeO.none _
   | refine LeO.ite ?_ ?_
   | refine LeO.bind ?_ (fun _=>?_)
theorem spec_edLength.mono:∀a0 k,LeO (spec_edLength.f k a0) (spec_edLength.f (k+1) a0):=by
 intro a0 k
 have ih0:=spec_edLength.mono_l k
 unfold spec_edLength.f
 repeat' first
  | (with_reducible exact ih0 _ _ _ _)
  | (with_reducible exact LeO.refl _)
  | (with_reducible exact LeO.none _)
  | (with_reducible refine LeO.ite ?_ ?_)
  | (with_reducible refine LeO.bind ?_ (fun _=>?_))
  | exact ih0 _ _ _ _
  | exact LeO.none _
  | refine LeO.ite ?_ ?_
  | refine LeO.bind ?_ (fun _=>?_)
set_option maxHeartbeats 8000000 in
set_option maxRecDepth 100000 in
theorem spec_edLength.calls (k:Nat) (A0:Option Addr) (c0:Nat) (l0:List (S44)) (r:Int) (w:World) (hr0:Kd.C k44 w A0 l0.length l0) (hc0:l0.length≤c0) (h:spec_edLength.f k l0=some r) :
 Calls Try.prog 49 #[.slice A0 l0.length c0] w fun e w'=>e = .returned (.int .i64 r)∧Below w.heap.size w w':=by
 have hu44:=Try.underlying44
 have HR0:=am_ hr0
 have HC0:=am_ hc0
 clear hr0 hc0
 have HB:=am_ (Below.refl w.heap.size w)
 have H:(spec_edLength.l0 k 0 l0 (l0.length:Int) 0)=some r:=h
 clear h
 have H':=am_ H
 clear H
 go_enter Try.func49,Try.ntmps49
 go_wp2
 go_loopg [3,8] k (fun kq v3 v8 w'=>∃(x3_1:Int) (x8_1:Int),v3 = .int .i64 x3_1∧v8 = .int .i64 x8_1∧Aside0 (spec_edLength.l0 kq x3_1 l0 (l0.length:Int) x8_1=some r)∧Aside0 (kq≤k)∧Aside0 (Below w.heap.size w w'))
 case atStart=>exact⟨(0),(0),(a6_),(a6_),H',⟨Nat.le_refl _⟩,⟨a0_⟩⟩
 case round=>
  clear H'
  obtain⟨x3_1,x8_1,rfl,rfl,HA,HK1,HB⟩:=hrel
  cases gk with
  | zero=>exact absurd HA.out (by simp[spec_edLength.l0])
  | succ k1=>
   have H:=HA.out
   clear HA
   simp only[spec_edLength.l0]at H
   by_cases c2:x8_1<(l0.length:Int)
   ·rw[if_pos c2]at H
    have c2b0:decide (x8_1<(l0.length:Int))=true:=decide_eq_true c2
    clear c2
    by_cases c3:0≤x8_1
    ·rw[if_pos c3]at H
     have c3b0:decide (0≤x8_1)=true:=decide_eq_true c3
     clear c3
     by_cases c4:x8_1<(l0.length:Int)
     ·rw[if_pos c4]at H
      have c4b0:decide (x8_1<(l0.length:Int))=true:=decide_eq_true c4
      clear c4
      have H':=am_ H
      clear H
      have p125:0≤(x8_1:Int):=of_decide_eq_true (a4_)
      have q125:x8_1<(l0.length:Int):=of_decide_eq_true (a4_)
      obtain⟨ad125,e125,hx125_0,hx125_1,hx125_2⟩:=at_T44 HR0.out x8_1 p125 q125
      cases e125
      replace hx125_0:=(HB.out.cell (World.block_lt_of_cell? w _ hx125_0)).trans hx125_0
      replace hx125_1:=(HB.out.cell (World.block_lt_of_cell? w _ hx125_1)).trans hx125_1
      replace hx125_2:=(HB.out.cell (World.block_lt_of_cell? w _ hx125_2)).trans hx125_2
      replace p125:=eq_true p125
      replace q125:=eq_true q125
      go_wp2_with (first | ((with_reducible refine gate_dst (N:=5) rfl ?_);refine box_event ?hg (N:=5) ?hd (cs:= #[.int .i64 0, .int .i64 0, .int .i64 0]) (t:=44) ?hr ?_;(case hd=>rfl);(case hg=>rfl);(case hr=>exact a12_);intro gb126 hg w5 hbox hb;have BK126:=am_ (hbox);have GW126:=am_ ((by rw[hg];exact(below_size (a0_)):w.heap.size≤gb126));have GE126:=am_ ((by rw[hg];exact(below_size (a0_)):w.heap.size≤gb126));replace HB:=am_ (below_step (a0_) hb);clear hb hbox hg;have hcz6_0:w5.cell? ⟨gb126,0,none⟩=some (.int .i64 0):=(blk_cell BK126.out 0).trans rfl;have hcz6_1:w5.cell? ⟨gb126,1,none⟩=some (.int .i64 0):=(blk_cell BK126.out 1).trans rfl;have hcz6_2:w5.cell? ⟨gb126,2,none⟩=some (.int .i64 0):=(blk_cell BK126.out 2).trans rfl;have hfz6_0:=blk_frozen BK126.out 0;have hfz6_1:=blk_frozen BK126.out 1;have hfz6_2:=blk_frozen BK126.out 2))
      go_roundg k1
      case measure=>have:=HK1.out;omega
      case rel=>exact⟨(wrap64 (x3_1+(wrap64 (((rd_T44 l0 x8_1).f2)-((rd_T44 l0 x8_1).f1))))),(wrap64 (x8_1+1)),(a6_),(a6_),H',⟨by have:=HK1.out;omega⟩,⟨(a1_ GE126.out)⟩⟩
     ·rw[if_neg c4]at H
      exact absurd H (by simp)
    ·rw[if_neg c3]at H
     exact absurd H (by simp)
   ·rw[if_neg c2]at H
    have c2b0:decide (x8_1<(l0.length:Int))=false:=decide_eq_false c2
    clear c2
    obtain rfl:=Option.some.inj H
    go_wp2
    go_ret
    exact⟨a5_,a0_⟩

/-! ### spec_edGood: function 41 -/
def spec_edGood.l0:Nat→List (S44)→List (S44)→Int→Int→Option (Bool)
 | 0,_,_,_,_=>none
 | k+1,x0,x5,x6,x7=>if x7<x6 then(if 0≤x7 then(if x7<(x5.length:Int) then((spec_edPart.f ((rd_T44 x5 x7).f0) ((rd_T44 x5 x7).f1) ((rd_T44 x5 x7).f2)).bind fun t129=>(if t129=true then(spec_edGood.l0 k x0 x5 x6 (wrap64 (x7+1))) else(some false))) else(none)) else(none)) else(if(x0.length:Int)≤12 then((spec_edLength.f k x0).bind fun t130=>(some (decide (t130≤2000)))) else(some false))
def spec_edGood.f (k:Nat) (l0:List (S44)):Option (Bool):=spec_edGood.l0 k l0 l0 (l0.length:Int) 0
theorem spec_edGood.mono_l:∀k,(∀y0 y1 y2 y3,LeO (spec_edGood.l0 k y0 y1 y2 y3) (spec_edGood.l0 (k+1) y0 y1 y2 y3))
 | 0=>fun _ _ _ _ r h=>by simp[spec_edGood.l0]at h
 | k+1=>by
  have ih0:=spec_edGood.mono_l k
  ·intro y0 y1 y2 y3
   unfold spec_edGood.l0
   repeat' first
   | (with_reducible exact ih0 _ _ _ _)
   | (with_reducible exact spec_edLength.mono _ _)
   | (with_reducible exact LeO.refl _)
   | (with_reducible exact LeO.none _)
   | (with_reducible refine LeO.ite ?_ ?_)
   | (with_reducible refine LeO.bind ?_ (fun _=>?_))
   | exact ih0 _ _ _ _
   | exact spec_edLength.mono _ _
   | exact LeO.none _
   | refine LeO.ite ?_ ?_
   | refine LeO.bind ?_ (fun _=>?_)
theorem spec_edGood.mono:∀a0 k,LeO (spec_edGood.f k a0) (spec_edGood.f (k+1) a0):=by
 intro a0 k
 have ih0:=spec_edGood.mono_l k
 unfold spec_edGood.f
 repeat' first
  | (with_reducible exact ih0 _ _ _ _)
  | (with_reducible exact spec_edLength.mono _ _)
  | (with_reducible exact LeO.refl _)
  | (with_reducible exact LeO.none _)
  | (with_reducible refine LeO.ite ?_ ?_)
  | (with_reducible refine LeO.bind ?_ (fun _=>?_))
  | exact ih0 _ _ _ _
  | exact spec_edLength.mono _ _
  | exact LeO.none _
  | refine LeO.ite ?_ ?_
  | refine LeO.bind ?_ (fun _=>?_)
set_option maxHeartbeats 8000000 in
set_option maxRecDepth 100000 in
theorem spec_edGood.calls (k:Nat) (A0:Option Addr) (c0:Nat) (l0:List (S44)) (r:Bool) (w:World) (hr0:Kd.C k44 w A0 l0.length l0) (hc0:l0.length≤c0) (h:spec_edGood.f k l0=some r) :
 Calls Try.prog 41 #[.slice A0 l0.length c0] w fun e w'=>e = .returned (.bool r)∧Below w.heap.size w w':=by
 have hu44:=Try.underlying44
 have HR0:=am_ hr0
 have HC0:=am_ hc0
 clear hr0 hc0
 have HB:=am_ (Below.refl w.heap.size w)
 have H:(spec_edGood.l0 k l0 l0 (l0.length:Int) 0)=some r:=h
 clear h
 have H':=am_ H
 clear H
 go_enter Try.func41,Try.ntmps41
 go_wp2
 go_loopg [7] k (fun kq v7 w'=>∃(x7_1:Int),v7 = .int .i64 x7_1∧Aside0 (spec_edGood.l0 kq l0 l0 (l0.length:Int) x7_1=some r)∧Aside0 (kq≤k)∧Aside0 (Below w.heap.size w w'))
 case atStart=>exact⟨(0),(a6_),H',⟨Nat.le_refl _⟩,⟨a0_⟩⟩
 case round=>
  clear H'
  obtain⟨x7_1,rfl,HA,HK1,HB⟩:=hrel
  cases gk with
  | zero=>exact absurd HA.out (by simp[spec_edGood.l0])
  | succ k1=>
   have H:=HA.out
   clear HA
   simp only[spec_edGood.l0]at H
   by_cases c2:x7_1<(l0.length:Int)
   ·rw[if_pos c2]at H
    have c2b0:decide (x7_1<(l0.length:Int))=true:=decide_eq_true c2
    clear c2
    by_cases c3:0≤x7_1
    ·rw[if_pos c3]at H
     have c3b0:decide (0≤x7_1)=true:=decide_eq_true c3
     clear c3
     by_cases c4:x7_1<(l0.length:Int)
     ·rw[if_pos c4]at H
      have c4b0:decide (x7_1<(l0.length:Int))=true:=decide_eq_true c4
      clear c4
      replace H:=Option.bind_eq_some_iff.mp H
      obtain⟨t129,A50,H⟩:=H
      replace H:(if t129=true then(spec_edGood.l0 k1 l0 l0 (l0.length:Int) (wrap64 (x7_1+1))) else(some false))=some r:=H
      have A5:=am_ A50
      clear A50
      by_cases c6:t129=true
      ·subst c6
       replace H:(spec_edGood.l0 k1 l0 l0 (l0.length:Int) (wrap64 (x7_1+1)))=some r:=by rw[if_pos rfl]at H;exact H
       have H':=am_ H
       clear H
       have p127:0≤(x7_1:Int):=of_decide_eq_true (a4_)
       have q127:x7_1<(l0.length:Int):=of_decide_eq_true (a4_)
       obtain⟨ad127,e127,hx127_0,hx127_1,hx127_2⟩:=at_T44 HR0.out x7_1 p127 q127
       cases e127
       replace hx127_0:=(HB.out.cell (World.block_lt_of_cell? w _ hx127_0)).trans hx127_0
       replace hx127_1:=(HB.out.cell (World.block_lt_of_cell? w _ hx127_1)).trans hx127_1
       replace hx127_2:=(HB.out.cell (World.block_lt_of_cell? w _ hx127_2)).trans hx127_2
       replace p127:=eq_true p127
       replace q127:=eq_true q127
       go_wp2_with (first | ((with_reducible refine gate_dst (N:=4) rfl ?_);refine box_event ?hg (N:=4) ?hd (cs:= #[.int .i64 0, .int .i64 0, .int .i64 0]) (t:=44) ?hr ?_;(case hd=>rfl);(case hg=>rfl);(case hr=>exact a12_);intro gb128 hg w7 hbox hb;have BK128:=am_ (hbox);have GW128:=am_ ((by rw[hg];exact(below_size (a0_)):w.heap.size≤gb128));have GE128:=am_ ((by rw[hg];exact(below_size (a0_)):w.heap.size≤gb128));replace HB:=am_ (below_step (a0_) hb);clear hb hbox hg;have hcz8_0:w7.cell? ⟨gb128,0,none⟩=some (.int .i64 0):=(blk_cell BK128.out 0).trans rfl;have hcz8_1:w7.cell? ⟨gb128,1,none⟩=some (.int .i64 0):=(blk_cell BK128.out 1).trans rfl;have hcz8_2:w7.cell? ⟨gb128,2,none⟩=some (.int .i64 0):=(blk_cell BK128.out 2).trans rfl;have hfz8_0:=blk_frozen BK128.out 0;have hfz8_1:=blk_frozen BK128.out 1;have hfz8_2:=blk_frozen BK128.out 2) | ((with_reducible refine gate_callee (f:=48) rfl ?_);refine goesL_ (some 12) rfl rfl Try.func48 (by kernel_rfl) rfl #[.agg #[.int .i64 ((rd_T44 l0 x7_1).f0), .int .i64 ((rd_T44 l0 x7_1).f1), .int .i64 ((rd_T44 l0 x7_1).f2)]] rfl (by(try simp only[List.map_toArray,List.map_cons,List.map_nil]);first | done | rfl | (simp only[List.length_drop,List.length_take];rfl)) ?_;(with_reducible refine(spec_edPart.calls ((rd_T44 l0 x7_1).f0) ((rd_T44 l0 x7_1).f1) ((rd_T44 l0 x7_1).f2) true _ A5.out).mono ?_);rintro e w9 ⟨rfl,hb⟩;refine⟨_,rfl,?_⟩;replace BK128:=am_ (blk_below (g:=gb128) (o:= .cells #[.int .i64 ((rd_T44 l0 x7_1).f0), .int .i64 ((rd_T44 l0 x7_1).f1), .int .i64 ((rd_T44 l0 x7_1).f2)] 44 (0,0)) ((a24_ BK128.out)) hb);replace HB:=am_ (below_step ((a1_ GE128.out)) hb);(try clear hb);(try clear hb2);(try clear hk);(try clear hi)))
       go_roundg k1
       case measure=>have:=HK1.out;omega
       case rel=>exact⟨(wrap64 (x7_1+1)),(a6_),H',⟨by have:=HK1.out;omega⟩,⟨(a1_ GE128.out)⟩⟩
      ·replace c6:=Bool.eq_false_iff.mpr c6
       subst c6
       replace H:(some false)=some r:=by rw[if_neg (show ¬(false=true) by decide)]at H;exact H
       obtain rfl:=Option.some.inj H
       have p127:0≤(x7_1:Int):=of_decide_eq_true (a4_)
       have q127:x7_1<(l0.length:Int):=of_decide_eq_true (a4_)
       obtain⟨ad127,e127,hx127_0,hx127_1,hx127_2⟩:=at_T44 HR0.out x7_1 p127 q127
       cases e127
       replace hx127_0:=(HB.out.cell (World.block_lt_of_cell? w _ hx127_0)).trans hx127_0
       replace hx127_1:=(HB.out.cell (World.block_lt_of_cell? w _ hx127_1)).trans hx127_1
       replace hx127_2:=(HB.out.cell (World.block_lt_of_cell? w _ hx127_2)).trans hx127_2
       replace p127:=eq_true p127
       replace q127:=eq_true q127
       go_wp2_with (first | ((with_reducible refine gate_dst (N:=4) rfl ?_);refine box_event ?hg (N:=4) ?hd (cs:= #[.int .i64 0, .int .i64 0, .int .i64 0]) (t:=44) ?hr ?_;(case hd=>rfl);(case hg=>rfl);(case hr=>exact a12_);intro gb128 hg w10 hbox hb;have BK128:=am_ (hbox);have GW128:=am_ ((by rw[hg];exact(below_size (a0_)):w.heap.size≤gb128));have GE128:=am_ ((by rw[hg];exact(below_size (a0_)):w.heap.size≤gb128));replace HB:=am_ (below_step (a0_) hb);clear hb hbox hg;have hcz11_0:w10.cell? ⟨gb128,0,none⟩=some (.int .i64 0):=(blk_cell BK128.out 0).trans rfl;have hcz11_1:w10.cell? ⟨gb128,1,none⟩=some (.int .i64 0):=(blk_cell BK128.out 1).trans rfl;have hcz11_2:w10.cell? ⟨gb128,2,none⟩=some (.int .i64 0):=(blk_cell BK128.out 2).trans rfl;have hfz11_0:=blk_frozen BK128.out 0;have hfz11_1:=blk_frozen BK128.out 1;have hfz11_2:=blk_frozen BK128.out 2) | ((with_reducible refine gate_callee (f:=48) rfl ?_);refine goesL_ (some 12) rfl rfl Try.func48 (by kernel_rfl) rfl #[.agg #[.int .i64 ((rd_T44 l0 x7_1).f0), .int .i64 ((rd_T44 l0 x7_1).f1), .int .i64 ((rd_T44 l0 x7_1).f2)]] rfl (by(try simp only[List.map_toArray,List.map_cons,List.map_nil]);first | done | rfl | (simp only[List.length_drop,List.length_take];rfl)) ?_;(with_reducible refine(spec_edPart.calls ((rd_T44 l0 x7_1).f0) ((rd_T44 l0 x7_1).f1) ((rd_T44 l0 x7_1).f2) false _ A5.out).mono ?_);rintro e w12 ⟨rfl,hb⟩;refine⟨_,rfl,?_⟩;replace BK128:=am_ (blk_below (g:=gb128) (o:= .cells #[.int .i64 ((rd_T44 l0 x7_1).f0), .int .i64 ((rd_T44 l0 x7_1).f1), .int .i64 ((rd_T44 l0 x7_1).f2)] 44 (0,0)) ((a24_ BK128.out)) hb);replace HB:=am_ (below_step ((a1_ GE128.out)) hb);(try clear hb);(try clear hb2);(try clear hk);(try clear hi)))
       go_ret
       exact⟨a5_,(a1_ GE128.out)⟩
     ·rw[if_neg c4]at H
      exact absurd H (by simp)
    ·rw[if_neg c3]at H
     exact absurd H (by simp)
   ·rw[if_neg c2]at H
    have c2b0:decide (x7_1<(l0.length:Int))=false:=decide_eq_false c2
    clear c2
    by_cases c13:(l0.length:Int)≤12
    ·rw[if_pos c13]at H
     have c13b0:decide ((l0.length:Int)≤12)=true:=decide_eq_true c13
     have c13b1:decide (l0.length≤12)=true:=decide_eq_true (by omega)
     clear c13
     replace H:=Option.bind_eq_some_iff.mp H
     obtain⟨t130,A140,H⟩:=H
     replace H:(some (decide (t130≤2000)))=some r:=H
     have A14:=am_ A140
     clear A140
     obtain rfl:=Option.some.inj H
     go_wp2_with (first | (go_at_call 49;(with_reducible refine(spec_edLength.calls k1 _ _ l0 t130 _ ?side1 ?side2 A14.out).mono ?_);(case side1=>exact(a11_ HR0.out));(case side2=>exact HC0.out);rintro e w15 ⟨rfl,hb⟩;replace HB:=am_ (below_step (a0_) hb);(try clear hb);(try clear hb2);(try clear hk);(try clear hi)))
     go_ret
     exact⟨a5_,a0_⟩
    ·rw[if_neg c13]at H
     have c13b0:decide ((l0.length:Int)≤12)=false:=decide_eq_false c13
     have c13b1:decide (l0.length≤12)=false:=decide_eq_false (by omega)
     clear c13
     obtain rfl:=Option.some.inj H
     go_wp2
     go_ret
     exact⟨a5_,a0_⟩

/-! ### spec_AreParts: function 30 -/
mutual
def spec_AreParts.j0:Nat→List (S44)→Int→Bool→Option (Bool)
 | 0,_,_,_=>none
 | k+1,x0,x1,x14=>if x14=true then(some false) else(spec_AreParts.l0 k x1 x0 (x0.length:Int) 0)
def spec_AreParts.l0:Nat→Int→List (S44)→Int→Int→Option (Bool)
 | 0,_,_,_,_=>none
 | k+1,x1,x15,x16,x17=>if x17<x16 then(if 0≤x17 then(if x17<(x15.length:Int) then(if((rd_T44 x15 x17).f0)≥x1 then(some false) else(spec_AreParts.l0 k x1 x15 x16 (wrap64 (x17+1)))) else(none)) else(none)) else(some true)
end
def spec_AreParts.f (k:Nat) (l0:List (S44)) (a1:Int):Option (Bool):=(spec_edGood.f k l0).bind fun t131=>(if t131=true then((spec_l1In.f a1 1 4).bind fun t132=>(spec_AreParts.j0 k l0 a1 (!t132))) else(spec_AreParts.j0 k l0 a1 true))
theorem spec_AreParts.mono_l:∀k,(∀y0 y1 y2,LeO (spec_AreParts.j0 k y0 y1 y2) (spec_AreParts.j0 (k+1) y0 y1 y2))∧(∀y0 y1 y2 y3,LeO (spec_AreParts.l0 k y0 y1 y2 y3) (spec_AreParts.l0 (k+1) y0 y1 y2 y3))
 | 0=>⟨fun _ _ _ r h=>by simp[spec_AreParts.j0]at h,fun _ _ _ _ r h=>by simp[spec_AreParts.l0]at h⟩
 | k+1=>by
  obtain⟨ih0,ih1⟩:=spec_AreParts.mono_l k
  refine⟨?_,?_⟩
  ·intro y0 y1 y2
   unfold spec_AreParts.j0
   repeat' first
   | (with_reducible exact ih0 _ _ _)
   | (with_reducible exact ih1 _ _ _ _)
   | (with_reducible exact spec_edGood.mono _ _)
   | (with_reducible exact LeO.refl _)
   | (with_reducible exact LeO.none _)
   | (with_reducible refine LeO.ite ?_ ?_)
   | (with_reducible refine LeO.bind ?_ (fun _=>?_))
   | exact ih0 _ _ _
   | exact ih1 _ _ _ _
   | exact spec_edGood.mono _ _
   | exact LeO.none _
   | refine LeO.ite ?_ ?_
   | refine LeO.bind ?_ (fun _=>?_)
  ·intro y0 y1 y2 y3
   unfold spec_AreParts.l0
   repeat' first
   | (with_reducible exact ih0 _ _ _)
   | (with_reducible exact ih1 _ _ _ _)
   | (with_reducible exact spec_edGood.mono _ _)
   | (with_reducible exact LeO.refl _)
   | (with_reducible exact LeO.none _)
   | (with_reducible refine LeO.ite ?_ ?_)
   | (with_reducible refine LeO.bind ?_ (fun _=>?_))
   | exact ih0 _ _ _
   | exact ih1 _ _ _ _
   | exact spec_edGood.mono _ _
   | exact LeO.none _
   | refine LeO.ite ?_ ?_
   | refine LeO.bind ?_ (fun _=>?_)
theorem spec_AreParts.mono:∀a0 a1 k,LeO (spec_AreParts.f k a0 a1) (spec_AreParts.f (k+1) a0 a1):=by
 intro a0 a1 k
 obtain⟨ih0,ih1⟩:=spec_AreParts.mono_l k
 unfold spec_AreParts.f
 repeat' first
  | (with_reducible exact ih0 _ _ _)
  | (with_reducible exact ih1 _ _ _ _)
  | (with_reducible exact spec_edGood.mono _ _)
  | (with_reducible exact LeO.refl _)
  | (with_reducible exact LeO.none _)
  | (with_reducible refine LeO.ite ?_ ?_)
  | (with_reducible refine LeO.bind ?_ (fun _=>?_))
  | exact ih0 _ _ _
  | exact ih1 _ _ _ _
  | exact spec_edGood.mono _ _
  | exact LeO.none _
  | refine LeO.ite ?_ ?_
  | refine LeO.bind ?_ (fun _=>?_)
set_option maxHeartbeats 8000000 in
set_option maxRecDepth 100000 in
theorem spec_AreParts.calls (k:Nat) (A0:Option Addr) (c0:Nat) (l0:List (S44)) (a1:Int) (r:Bool) (w:World) (hr0:Kd.C k44 w A0 l0.length l0) (hc0:l0.length≤c0) (h:spec_AreParts.f k l0 a1=some r) :
 Calls Try.prog 30 #[.slice A0 l0.length c0, .int .i64 a1] w fun e w'=>e = .returned (.bool r)∧Below w.heap.size w w':=by
 have hu44:=Try.underlying44
 have HR0:=am_ hr0
 have HC0:=am_ hc0
 clear hr0 hc0
 have HB:=am_ (Below.refl w.heap.size w)
 have H:((spec_edGood.f k l0).bind fun t131=>(if t131=true then((spec_l1In.f a1 1 4).bind fun t132=>(spec_AreParts.j0 k l0 a1 (!t132))) else(spec_AreParts.j0 k l0 a1 true)))=some r:=h
 clear h
 have HC3:=am_ H
 clear H
 go_enter Try.func30,Try.ntmps30
 go_upto_region 1 with (fail)
 go_cut [14] (fun v14 wc=>∃(kq:Nat) (x14_2:Bool),v14 = .bool x14_2∧Aside0 (spec_AreParts.j0 kq l0 a1 x14_2=some r)∧Aside0 (kq≤k)∧Aside0 (Below w.heap.size w wc))
 case first=>
  have H:=HC3.out
  clear HC3
  replace H:=Option.bind_eq_some_iff.mp H
  obtain⟨t131,A40,H⟩:=H
  replace H:(if t131=true then((spec_l1In.f a1 1 4).bind fun t132=>(spec_AreParts.j0 k l0 a1 (!t132))) else(spec_AreParts.j0 k l0 a1 true))=some r:=H
  have A4:=am_ A40
  clear A40
  by_cases c5:t131=true
  ·subst c5
   replace H:((spec_l1In.f a1 1 4).bind fun t132=>(spec_AreParts.j0 k l0 a1 (!t132)))=some r:=by rw[if_pos rfl]at H;exact H
   replace H:=Option.bind_eq_some_iff.mp H
   obtain⟨t132,A60,H⟩:=H
   replace H:(spec_AreParts.j0 k l0 a1 (!t132))=some r:=H
   have A6:=am_ A60
   clear A60
   have H':=am_ H
   clear H
   go_wp2_with (first | ((with_reducible refine gate_callee (f:=41) rfl ?_);refine goesL_ (some 8) rfl rfl Try.func41 (by kernel_rfl) rfl #[.slice A0 l0.length c0] rfl (by(try simp only[List.map_toArray,List.map_cons,List.map_nil]);first | done | rfl | (simp only[List.length_drop,List.length_take];rfl)) ?_;(with_reducible refine(spec_edGood.calls k _ _ l0 true _ ?side1 ?side2 A4.out).mono ?_);(case side1=>exact(a11_ HR0.out));(case side2=>exact HC0.out);rintro e w7 ⟨rfl,hb⟩;refine⟨_,rfl,?_⟩;replace HB:=am_ (below_step (a0_) hb);(try clear hb);(try clear hb2);(try clear hk);(try clear hi)) | (go_at_call 42;(with_reducible refine(spec_l1In.calls a1 1 4 t132 _ A6.out).mono ?_);rintro e w' ⟨rfl,⟨nd,rfl⟩⟩))
   go_meet
   case rel=>exact⟨_,(!t132),(a6_),H',⟨by first | omega | exact Nat.le_refl _⟩,⟨a0_⟩⟩
  ·replace c5:=Bool.eq_false_iff.mpr c5
   subst c5
   replace H:(spec_AreParts.j0 k l0 a1 true)=some r:=by rw[if_neg (show ¬(false=true) by decide)]at H;exact H
   have H':=am_ H
   clear H
   go_wp2_with (first | ((with_reducible refine gate_callee (f:=41) rfl ?_);refine goesL_ (some 8) rfl rfl Try.func41 (by kernel_rfl) rfl #[.slice A0 l0.length c0] rfl (by(try simp only[List.map_toArray,List.map_cons,List.map_nil]);first | done | rfl | (simp only[List.length_drop,List.length_take];rfl)) ?_;(with_reducible refine(spec_edGood.calls k _ _ l0 false _ ?side1 ?side2 A4.out).mono ?_);(case side1=>exact(a11_ HR0.out));(case side2=>exact HC0.out);rintro e w8 ⟨rfl,hb⟩;refine⟨_,rfl,?_⟩;replace HB:=am_ (below_step (a0_) hb);(try clear hb);(try clear hb2);(try clear hk);(try clear hi)))
   go_meet
   case rel=>exact⟨_,(true),(a6_),H',⟨by first | omega | exact Nat.le_refl _⟩,⟨a0_⟩⟩
 case rest=>
  clear HC3
  try clear p2
  try clear c3
  try clear c4
  try clear c5
  obtain⟨kq,x14_2,rfl,HA,HJ2,HB⟩:=hcut
  cases kq with
  | zero=>exact absurd HA.out (by simp[spec_AreParts.j0])
  | succ kj2=>
   have H:=HA.out
   clear HA
   simp only[spec_AreParts.j0]at H
   by_cases c9:x14_2=true
   ·subst c9
    replace H:(some false)=some r:=by rw[if_pos rfl]at H;exact H
    obtain rfl:=Option.some.inj H
    go_wp2
    go_ret
    exact⟨a5_,a0_⟩
   ·replace c9:=Bool.eq_false_iff.mpr c9
    subst c9
    replace H:(spec_AreParts.l0 kj2 a1 l0 (l0.length:Int) 0)=some r:=by rw[if_neg (show ¬(false=true) by decide)]at H;exact H
    have H':=am_ H
    clear H
    go_wp2
    go_loopg [17] kj2 (fun kq v17 w'=>∃(x17_2:Int),v17 = .int .i64 x17_2∧Aside0 (spec_AreParts.l0 kq a1 l0 (l0.length:Int) x17_2=some r)∧Aside0 (kq≤kj2)∧Aside0 (Below w.heap.size w w'))
    case atStart=>exact⟨(0),(a6_),H',⟨Nat.le_refl _⟩,⟨a0_⟩⟩
    case round=>
     clear H'
     try clear p2
     try clear c3
     try clear c4
     try clear c5
     try clear c9
     try clear p2
     obtain⟨x17_2,rfl,HA,HK2,HB⟩:=hrel
     cases gk with
     | zero=>exact absurd HA.out (by simp[spec_AreParts.l0])
     | succ k2=>
      have H:=HA.out
      clear HA
      simp only[spec_AreParts.l0]at H
      by_cases c10:x17_2<(l0.length:Int)
      ·rw[if_pos c10]at H
       have c10b0:decide (x17_2<(l0.length:Int))=true:=decide_eq_true c10
       clear c10
       by_cases c11:0≤x17_2
       ·rw[if_pos c11]at H
        have c11b0:decide (0≤x17_2)=true:=decide_eq_true c11
        clear c11
        by_cases c12:x17_2<(l0.length:Int)
        ·rw[if_pos c12]at H
         have c12b0:decide (x17_2<(l0.length:Int))=true:=decide_eq_true c12
         clear c12
         by_cases c13:((rd_T44 l0 x17_2).f0)≥a1
         ·rw[if_pos c13]at H
          have c13b0:decide (a1≤((rd_T44 l0 x17_2).f0))=true:=decide_eq_true c13
          clear c13
          obtain rfl:=Option.some.inj H
          have p133:0≤(x17_2:Int):=of_decide_eq_true (a4_)
          have q133:x17_2<(l0.length:Int):=of_decide_eq_true (a4_)
          obtain⟨ad133,e133,hx133_0,hx133_1,hx133_2⟩:=at_T44 HR0.out x17_2 p133 q133
          cases e133
          replace hx133_0:=(HB.out.cell (World.block_lt_of_cell? w _ hx133_0)).trans hx133_0
          replace hx133_1:=(HB.out.cell (World.block_lt_of_cell? w _ hx133_1)).trans hx133_1
          replace hx133_2:=(HB.out.cell (World.block_lt_of_cell? w _ hx133_2)).trans hx133_2
          replace p133:=eq_true p133
          replace q133:=eq_true q133
          go_wp2_with (first | ((with_reducible refine gate_dst (N:=6) rfl ?_);refine box_event ?hg (N:=6) ?hd (cs:= #[.int .i64 0, .int .i64 0, .int .i64 0]) (t:=44) ?hr ?_;(case hd=>rfl);(case hg=>rfl);(case hr=>exact a12_);intro gb134 hg w14 hbox hb;have BK134:=am_ (hbox);have GW134:=am_ ((by rw[hg];exact(below_size (a0_)):w.heap.size≤gb134));have GE134:=am_ ((by rw[hg];exact(below_size (a0_)):w.heap.size≤gb134));replace HB:=am_ (below_step (a0_) hb);clear hb hbox hg;have hcz15_0:w14.cell? ⟨gb134,0,none⟩=some (.int .i64 0):=(blk_cell BK134.out 0).trans rfl;have hcz15_1:w14.cell? ⟨gb134,1,none⟩=some (.int .i64 0):=(blk_cell BK134.out 1).trans rfl;have hcz15_2:w14.cell? ⟨gb134,2,none⟩=some (.int .i64 0):=(blk_cell BK134.out 2).trans rfl;have hfz15_0:=blk_frozen BK134.out 0;have hfz15_1:=blk_frozen BK134.out 1;have hfz15_2:=blk_frozen BK134.out 2))
          go_ret
          exact⟨a5_,(a1_ GE134.out)⟩
         ·rw[if_neg c13]at H
          have c13b0:decide (a1≤((rd_T44 l0 x17_2).f0))=false:=decide_eq_false c13
          clear c13
          have H':=am_ H
          clear H
          have p133:0≤(x17_2:Int):=of_decide_eq_true (a4_)
          have q133:x17_2<(l0.length:Int):=of_decide_eq_true (a4_)
          obtain⟨ad133,e133,hx133_0,hx133_1,hx133_2⟩:=at_T44 HR0.out x17_2 p133 q133
          cases e133
          replace hx133_0:=(HB.out.cell (World.block_lt_of_cell? w _ hx133_0)).trans hx133_0
          replace hx133_1:=(HB.out.cell (World.block_lt_of_cell? w _ hx133_1)).trans hx133_1
          replace hx133_2:=(HB.out.cell (World.block_lt_of_cell? w _ hx133_2)).trans hx133_2
          replace p133:=eq_true p133
          replace q133:=eq_true q133
          go_wp2_with (first | ((with_reducible refine gate_dst (N:=6) rfl ?_);refine box_event ?hg (N:=6) ?hd (cs:= #[.int .i64 0, .int .i64 0, .int .i64 0]) (t:=44) ?hr ?_;(case hd=>rfl);(case hg=>rfl);(case hr=>exact a12_);intro gb134 hg w16 hbox hb;have BK134:=am_ (hbox);have GW134:=am_ ((by rw[hg];exact(below_size (a0_)):w.heap.size≤gb134));have GE134:=am_ ((by rw[hg];exact(below_size (a0_)):w.heap.size≤gb134));replace HB:=am_ (below_step (a0_) hb);clear hb hbox hg;have hcz17_0:w16.cell? ⟨gb134,0,none⟩=some (.int .i64 0):=(blk_cell BK134.out 0).trans rfl;have hcz17_1:w16.cell? ⟨gb134,1,none⟩=some (.int .i64 0):=(blk_cell BK134.out 1).trans rfl;have hcz17_2:w16.cell? ⟨gb134,2,none⟩=some (.int .i64 0):=(blk_cell BK134.out 2).trans rfl;have hfz17_0:=blk_frozen BK134.out 0;have hfz17_1:=blk_frozen BK134.out 1;have hfz17_2:=blk_frozen BK134.out 2))
          go_roundg k2
          case measure=>have:=HJ2.out;have:=HK2.out;omega
          case rel=>exact⟨(wrap64 (x17_2+1)),(a6_),H',⟨by have:=HJ2.out;have:=HK2.out;omega⟩,⟨(a1_ GE134.out)⟩⟩
        ·rw[if_neg c12]at H
         exact absurd H (by simp)
       ·rw[if_neg c11]at H
        exact absurd H (by simp)
      ·rw[if_neg c10]at H
       have c10b0:decide (x17_2<(l0.length:Int))=false:=decide_eq_false c10
       clear c10
       obtain rfl:=Option.some.inj H
       go_wp2
       go_ret
       exact⟨a5_,a0_⟩

/-! ### spec_edSheets: function 18 -/
def spec_edSheets.l0:Nat→List (List (S47))→List (S44)→List (List (S47))→Int→Int→Option (Bool)
 | 0,_,_,_,_,_=>none
 | k+1,x0,x1,x7,x8,x9=>if x9<x8 then(if 0≤x9 then(if x9<(x7.length:Int) then((spec_shGood.f k (rd_L6 x7 x9)).bind fun t136=>(if t136=true then(spec_edSheets.l0 k x0 x1 x7 x8 (wrap64 (x9+1))) else(some false))) else(none)) else(none)) else((spec_AreParts.f k x1 (x0.length:Int)).bind fun t137=>(some t137))
def spec_edSheets.f (k:Nat) (l0:List (List (S47))) (l1:List (S44)):Option (Bool):=spec_edSheets.l0 k l0 l1 l0 (l0.length:Int) 0
theorem spec_edSheets.mono_l:∀k,(∀y0 y1 y2 y3 y4,LeO (spec_edSheets.l0 k y0 y1 y2 y3 y4) (spec_edSheets.l0 (k+1) y0 y1 y2 y3 y4))
 | 0=>fun _ _ _ _ _ r h=>by simp[spec_edSheets.l0]at h
 | k+1=>by
  have ih0:=spec_edSheets.mono_l k
  ·intro y0 y1 y2 y3 y4
   unfold spec_edSheets.l0
   repeat' first
   | (with_reducible exact ih0 _ _ _ _ _)
   | (with_reducible exact spec_AreParts.mono _ _ _)
   | (with_reducible exact spec_shGood.mono _ _)
   | (with_reducible exact LeO.refl _)
   | (with_reducible exact LeO.none _)
   | (with_reducible refine LeO.ite ?_ ?_)
   | (with_reducible refine LeO.bind ?_ (fun _=>?_))
   | exact ih0 _ _ _ _ _
   | exact spec_AreParts.mono _ _ _
   | exact spec_shGood.mono _ _
   | exact LeO.none _
   | refine LeO.ite ?_ ?_
   | refine LeO.bind ?_ (fun _=>?_)
theorem spec_edSheets.mono:∀a0 a1 k,LeO (spec_edSheets.f k a0 a1) (spec_edSheets.f (k+1) a0 a1):=by
 intro a0 a1 k
 have ih0:=spec_edSheets.mono_l k
 unfold spec_edSheets.f
 repeat' first
  | (with_reducible exact ih0 _ _ _ _ _)
  | (with_reducible exact spec_AreParts.mono _ _ _)
  | (with_reducible exact spec_shGood.mono _ _)
  | (with_reducible exact LeO.refl _)
  | (with_reducible exact LeO.none _)
  | (with_reducible refine LeO.ite ?_ ?_)
  | (with_reducible refine LeO.bind ?_ (fun _=>?_))
  | exact ih0 _ _ _ _ _
  | exact spec_AreParts.mono _ _ _
  | exact spec_shGood.mono _ _
  | exact LeO.none _
  | refine LeO.ite ?_ ?_
  | refine LeO.bind ?_ (fun _=>?_)
set_option maxHeartbeats 8000000 in
set_option maxRecDepth 100000 in
theorem spec_edSheets.calls (k:Nat) (A0:Option Addr) (c0:Nat) (l0:List (List (S47))) (A1:Option Addr) (c1:Nat) (l1:List (S44)) (r:Bool) (w:World) (hr0:Kd.C (Kd.slice 47 k47) w A0 l0.length l0) (hc0:l0.length≤c0) (hr1:Kd.C k44 w A1 l1.length l1) (hc1:l1.length≤c1) (h:spec_edSheets.f k l0 l1=some r) :
 Calls Try.prog 18 #[.slice A0 l0.length c0, .slice A1 l1.length c1] w fun e w'=>e = .returned (.bool r)∧Below w.heap.size w w':=by
 have HR0:=am_ hr0
 have HC0:=am_ hc0
 clear hr0 hc0
 have HR1:=am_ hr1
 have HC1:=am_ hc1
 clear hr1 hc1
 have HB:=am_ (Below.refl w.heap.size w)
 have H:(spec_edSheets.l0 k l0 l1 l0 (l0.length:Int) 0)=some r:=h
 clear h
 have H':=am_ H
 clear H
 go_enter Try.func18,Try.ntmps18
 go_wp2
 go_loopg [9] k (fun kq v9 w'=>∃(x9_1:Int),v9 = .int .i64 x9_1∧Aside0 (spec_edSheets.l0 kq l0 l1 l0 (l0.length:Int) x9_1=some r)∧Aside0 (kq≤k)∧Aside0 (Below w.heap.size w w'))
 case atStart=>exact⟨(0),(a6_),H',⟨Nat.le_refl _⟩,⟨a0_⟩⟩
 case round=>
  clear H'
  try clear c1
  try clear p2
  obtain⟨x9_1,rfl,HA,HK1,HB⟩:=hrel
  cases gk with
  | zero=>exact absurd HA.out (by simp[spec_edSheets.l0])
  | succ k1=>
   have H:=HA.out
   clear HA
   simp only[spec_edSheets.l0]at H
   by_cases c3:x9_1<(l0.length:Int)
   ·rw[if_pos c3]at H
    have c3b0:decide (x9_1<(l0.length:Int))=true:=decide_eq_true c3
    clear c3
    by_cases c4:0≤x9_1
    ·rw[if_pos c4]at H
     have c4b0:decide (0≤x9_1)=true:=decide_eq_true c4
     clear c4
     by_cases c5:x9_1<(l0.length:Int)
     ·rw[if_pos c5]at H
      have c5b0:decide (x9_1<(l0.length:Int))=true:=decide_eq_true c5
      clear c5
      replace H:=Option.bind_eq_some_iff.mp H
      obtain⟨t136,A60,H⟩:=H
      replace H:(if t136=true then(spec_edSheets.l0 k1 l0 l1 l0 (l0.length:Int) (wrap64 (x9_1+1))) else(some false))=some r:=H
      have A6:=am_ A60
      clear A60
      by_cases c7:t136=true
      ·subst c7
       replace H:(spec_edSheets.l0 k1 l0 l1 l0 (l0.length:Int) (wrap64 (x9_1+1)))=some r:=by rw[if_pos rfl]at H;exact H
       have H':=am_ H
       clear H
       have p135:0≤(x9_1:Int):=of_decide_eq_true (a4_)
       have q135:x9_1<(l0.length:Int):=of_decide_eq_true (a4_)
       obtain⟨ad135,A135_0,c135_0,e135,hx135_0,hl135_0,hi135_0⟩:=at_L6 HR0.out x9_1 p135 q135
       cases e135
       replace hx135_0:=(HB.out.cell (World.block_lt_of_cell? w _ hx135_0)).trans hx135_0
       have HR135_0:=am_ hi135_0
       have HC135_0:=am_ hl135_0
       clear hi135_0 hl135_0
       replace p135:=eq_true p135
       replace q135:=eq_true q135
       go_wp2_with (first | ((with_reducible refine gate_callee (f:=29) rfl ?_);refine goesL_ (some 14) rfl rfl Try.func29 (by kernel_rfl) rfl #[.slice A135_0 (rd_L6 l0 x9_1).length c135_0] rfl (by(try simp only[List.map_toArray,List.map_cons,List.map_nil]);first | done | rfl | (simp only[List.length_drop,List.length_take];rfl)) ?_;(with_reducible refine(spec_shGood.calls k1 _ _ (rd_L6 l0 x9_1) true _ ?side1 ?side2 A6.out).mono ?_);(case side1=>exact(a11_ HR135_0.out));(case side2=>exact HC135_0.out);rintro e w8 ⟨rfl,hb⟩;refine⟨_,rfl,?_⟩;replace HB:=am_ (below_step (a0_) hb);(try clear hb);(try clear hb2);(try clear hk);(try clear hi)))
       go_roundg k1
       case measure=>have:=HK1.out;omega
       case rel=>exact⟨(wrap64 (x9_1+1)),(a6_),H',⟨by have:=HK1.out;omega⟩,⟨a0_⟩⟩
      ·replace c7:=Bool.eq_false_iff.mpr c7
       subst c7
       replace H:(some false)=some r:=by rw[if_neg (show ¬(false=true) by decide)]at H;exact H
       obtain rfl:=Option.some.inj H
       have p135:0≤(x9_1:Int):=of_decide_eq_true (a4_)
       have q135:x9_1<(l0.length:Int):=of_decide_eq_true (a4_)
       obtain⟨ad135,A135_0,c135_0,e135,hx135_0,hl135_0,hi135_0⟩:=at_L6 HR0.out x9_1 p135 q135
       cases e135
       replace hx135_0:=(HB.out.cell (World.block_lt_of_cell? w _ hx135_0)).trans hx135_0
       have HR135_0:=am_ hi135_0
       have HC135_0:=am_ hl135_0
       clear hi135_0 hl135_0
       replace p135:=eq_true p135
       replace q135:=eq_true q135
       go_wp2_with (first | ((with_reducible refine gate_callee (f:=29) rfl ?_);refine goesL_ (some 14) rfl rfl Try.func29 (by kernel_rfl) rfl #[.slice A135_0 (rd_L6 l0 x9_1).length c135_0] rfl (by(try simp only[List.map_toArray,List.map_cons,List.map_nil]);first | done | rfl | (simp only[List.length_drop,List.length_take];rfl)) ?_;(with_reducible refine(spec_shGood.calls k1 _ _ (rd_L6 l0 x9_1) false _ ?side1 ?side2 A6.out).mono ?_);(case side1=>exact(a11_ HR135_0.out));(case side2=>exact HC135_0.out);rintro e w9 ⟨rfl,hb⟩;refine⟨_,rfl,?_⟩;replace HB:=am_ (below_step (a0_) hb);(try clear hb);(try clear hb2);(try clear hk);(try clear hi)))
       go_ret
       exact⟨a5_,a0_⟩
     ·rw[if_neg c5]at H
      exact absurd H (by simp)
    ·rw[if_neg c4]at H
     exact absurd H (by simp)
   ·rw[if_neg c3]at H
    have c3b0:decide (x9_1<(l0.length:Int))=false:=decide_eq_false c3
    clear c3
    replace H:=Option.bind_eq_some_iff.mp H
    obtain⟨t137,A100,H⟩:=H
    replace H:(some t137)=some r:=H
    have A10:=am_ A100
    clear A100
    obtain rfl:=Option.some.inj H
    go_wp2_with (first | ((with_reducible refine gate_callee (f:=30) rfl ?_);refine goesL_ (some 20) rfl rfl Try.func30 (by kernel_rfl) rfl #[.slice A1 l1.length c1, .int .i64 (l0.length:Int)] rfl (by(try simp only[List.map_toArray,List.map_cons,List.map_nil]);first | done | rfl | (simp only[List.length_drop,List.length_take];rfl)) ?_;(with_reducible refine(spec_AreParts.calls k1 _ _ l1 (l0.length:Int) t137 _ ?side1 ?side2 A10.out).mono ?_);(case side1=>exact(a11_ HR1.out));(case side2=>exact HC1.out);rintro e w11 ⟨rfl,hb⟩;refine⟨_,rfl,?_⟩;replace HB:=am_ (below_step (a0_) hb);(try clear hb);(try clear hb2);(try clear hk);(try clear hi)))
    go_ret
    exact⟨a5_,a0_⟩

end Go.Proofs.Ytbbiihhaljigjaa.QFnExactMakeEdition
