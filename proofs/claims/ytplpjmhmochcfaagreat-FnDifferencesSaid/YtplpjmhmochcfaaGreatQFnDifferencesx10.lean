/- Written by a program of this session (the kit's printer, with leaf contracts proved by hand put in): what each Go function computes, and that the call computes it. No condition but those that each theorem names. -/
import Derived.Test.YtplpjmhmochcfaaGreatQFnDifferencesx0
import Derived.Test.YtplpjmhmochcfaaGreatQFnDifferencesx8
import Derived.Test.YtplpjmhmochcfaaGreatQFnDifferencesx9
namespace Go.Proofs.YtplpjmhmochcfaaGreat.QFnDifferences
open Go.RowKit Go.Proofs.YtplpjmhmochcfaaGreatW.PrintWords Go.Proofs.YtplpjmhmochcfaaGreatW.PrintLast Go.Proofs.YtplpjmhmochcfaaGreatW.PrintMore
attribute [local go_sem] max2_int min2_int max_two min_two max_three min_three max_four min_four   -- for this text's walks alone
set_option linter.unusedVariables false
set_option linter.unusedSimpArgs false

/-! ### spec_DifferenceOf: function 8 -/
def spec_DifferenceOf.f (k:Nat) (l0:List (S40)) (l1:List (S40)):Option ((List (S40))×(List (S40))×Bool):=(spec_mgTwo.f k l0 l1).bind fun t405=>(if t405=true then((spec_mgLess.f k l0 l1).bind fun t406=>((spec_mgLess.f k l1 l0).bind fun t409=>(some (t406,t409,true)))) else(some (([]:List (S40)),([]:List (S40)),false)))
theorem spec_DifferenceOf.mono:∀a0 a1 k,LeO (spec_DifferenceOf.f k a0 a1) (spec_DifferenceOf.f (k+1) a0 a1):=by
 intro a0 a1 k
 unfold spec_DifferenceOf.f
 repeat' first
  |(with_reducible exact spec_mgLess.mono _ _ _)
  |(with_reducible exact spec_mgTwo.mono _ _ _)
  |(with_reducible exact LeO.refl _)
  |(with_reducible exact LeO.none _)
  |(with_reducible refine LeO.ite ?_ ?_)
  |(with_reducible refine LeO.bind ?_ (fun _=>?_))
  |exact spec_mgLess.mono _ _ _
  |exact spec_mgTwo.mono _ _ _
  |exact LeO.none _
   | refine LeO.ite ?_ ?_
   | refine LeO.bind ?_ (fun _=>?_)
set_option maxHeartbeats 8000000 in
set_option maxRecDepth 100000 in
theorem spec_DifferenceOf.calls (k:Nat) (A0:Option Addr) (c0:Nat) (l0:List (S40)) (A1:Option Addr) (c1:Nat) (l1:List (S40)) (r1:List (S40)) (r2:List (S40)) (r3:Bool) (w:World) (hr0:Kd.C k40 w A0 l0.length l0) (hc0:l0.length≤c0) (hr1:Kd.C k40 w A1 l1.length l1) (hc1:l1.length≤c1) (h:spec_DifferenceOf.f k l0 l1=some (r1,r2,r3)) :
 Calls Tryz.prog 8 #[.slice A0 l0.length c0, .slice A1 l1.length c1] w fun e w'=>∃v0_ v1_:Value,e = .returned (.tuple #[v0_,v1_, .bool r3])∧Kd.R k40 40 w' w.heap.size (fun k_=>some k_≠(v1_:Value).ownBlock) v0_ r1∧Kd.R k40 40 w' w.heap.size (fun k_=>some k_≠(v0_:Value).ownBlock) v1_ r2∧Below w.heap.size w w':=by
 have HR0:=am_ hr0
 have HC0:=am_ hc0
 clear hr0 hc0
 have HR1:=am_ hr1
 have HC1:=am_ hc1
 clear hr1 hc1
 have HB:=am_ (Below.refl w.heap.size w)
 have H:((spec_mgTwo.f k l0 l1).bind fun t405=>(if t405=true then((spec_mgLess.f k l0 l1).bind fun t406=>((spec_mgLess.f k l1 l0).bind fun t409=>(some (t406,t409,true)))) else(some (([]:List (S40)),([]:List (S40)),false))))=some (r1,r2,r3):=h
 clear h
 obtain⟨t405,A3,H⟩:=bo_ H
 try dsimp only at H
 by_cases c4:t405=true
 ·subst c4
  replace H:((spec_mgLess.f k l0 l1).bind fun t406=>((spec_mgLess.f k l1 l0).bind fun t409=>(some (t406,t409,true))))=some (r1,r2,r3):=by rw[if_pos rfl]at H;exact H
  obtain⟨t406,A5,H⟩:=bo_ H
  try dsimp only at H
  obtain⟨t409,A6,H⟩:=bo_ H
  try dsimp only at H
  simp only[Option.some.injEq,Prod.mk.injEq]at H
  obtain⟨rfl,rfl,rfl⟩:=H
  go_enter Tryz.func8,Tryz.ntmps8
  go_wp2_with (first|((with_reducible refine gate_callee (f:=47) rfl ?_);refine goesL_ (some 9) rfl rfl Tryz.func47 (by kernel_rfl) rfl #[.slice A0 l0.length c0, .slice A1 l1.length c1] rfl gd_ ?_;(with_reducible refine(spec_mgTwo.calls k _ _ l0 _ _ l1 true _ ?side1 ?side2 ?side3 ?side4 A3.out).mono ?_);(case side1=>exact(a15_ HR0.out));(case side2=>exact HC0.out);(case side3=>exact(a15_ HR1.out));(case side4=>exact HC1.out);rintro e w7 ⟨rfl,hb⟩;refine⟨_,rfl,?_⟩;replace HB:=am_ (below_step (a1_) hb);(try clear hb);(try clear hb2);(try clear hk);(try clear hi))|((with_reducible refine gate_callee (f:=48) rfl ?_);refine goesL_ (some 13) rfl rfl Tryz.func48 (by kernel_rfl) rfl #[.slice A0 l0.length c0, .slice A1 l1.length c1] rfl gd_ ?_;(with_reducible refine(spec_mgLess.calls k _ _ l0 _ _ l1 t406 _ ?side1 ?side2 ?side3 ?side4 A5.out).mono ?_);(case side1=>exact(a6_ HR0.out));(case side2=>exact HC0.out);(case side3=>exact(a6_ HR1.out));(case side4=>exact HC1.out);rintro e w8 ⟨v407,rfl,ho0,hb⟩;refine⟨_,rfl,?_⟩;have HO408:=am_ (Kd.R_lower ho0 (below_size (a1_)));replace HB:=am_ (below_step (a1_) hb);(try clear hb);(try clear hb2);(try clear hk);(try clear hi);(try clear ho0))|((with_reducible refine gate_callee (f:=48) rfl ?_);refine goesL_ (some 16) rfl rfl Tryz.func48 (by kernel_rfl) rfl #[.slice A1 l1.length c1, .slice A0 l0.length c0] rfl gd_ ?_;(with_reducible refine(spec_mgLess.calls k _ _ l1 _ _ l0 t409 _ ?side1 ?side2 ?side3 ?side4 A6.out).mono ?_);(case side1=>exact(a6_ HR1.out));(case side2=>exact HC1.out);(case side3=>exact(a6_ HR0.out));(case side4=>exact HC0.out);rintro e w9 ⟨v410,rfl,ho0,hb⟩;refine⟨_,rfl,?_⟩;have HO411:=am_ (Kd.R_lower (Kd.R_new' ho0 (Kd.R_lt ((a0_ HO408.out)))) (below_size (a1_)));replace HO408:=am_ (Kd.R_elder' ((a0_ HO408.out)) (Kd.R_base ho0) hb);replace HB:=am_ (below_step (a1_) hb);(try clear hb);(try clear hb2);(try clear hk);(try clear hi);(try clear ho0)))
  go_ret3
  exact⟨_,_,a10_,(a31_ HO408.out),(a31_ HO411.out),a1_⟩
 ·replace c4:=Bool.eq_false_iff.mpr c4
  subst c4
  replace H:(some (([]:List (S40)),([]:List (S40)),false))=some (r1,r2,r3):=by rw[if_neg (show ¬(false=true) by decide)]at H;exact H
  simp only[Option.some.injEq,Prod.mk.injEq]at H
  obtain⟨rfl,rfl,rfl⟩:=H
  go_enter Tryz.func8,Tryz.ntmps8
  go_wp2_with (first|((with_reducible refine gate_callee (f:=47) rfl ?_);refine goesL_ (some 9) rfl rfl Tryz.func47 (by kernel_rfl) rfl #[.slice A0 l0.length c0, .slice A1 l1.length c1] rfl gd_ ?_;(with_reducible refine(spec_mgTwo.calls k _ _ l0 _ _ l1 false _ ?side1 ?side2 ?side3 ?side4 A3.out).mono ?_);(case side1=>exact(a15_ HR0.out));(case side2=>exact HC0.out);(case side3=>exact(a15_ HR1.out));(case side4=>exact HC1.out);rintro e w10 ⟨rfl,hb⟩;refine⟨_,rfl,?_⟩;replace HB:=am_ (below_step (a1_) hb);(try clear hb);(try clear hb2);(try clear hk);(try clear hi)))
  go_ret3
  exact⟨_,_,a10_,a23_,a23_,a1_⟩

/-! ### impl_distanceOf: function 49 -/
def impl_distanceOf.f (l0:List (S40)) (l1:List (S40)):Option (Int):=(impl_lessHoles.f l0 l1).bind fun t412=>((impl_lessHoles.f l1 l0).bind fun t415=>(some (wrap64 ((t412.length:Int)+(t415.length:Int)))))
set_option maxHeartbeats 8000000 in
set_option maxRecDepth 100000 in
theorem impl_distanceOf.calls (A0:Option Addr) (c0:Nat) (l0:List (S40)) (A1:Option Addr) (c1:Nat) (l1:List (S40)) (r:Int) (w:World) (hr0:Kd.C k40 w A0 l0.length l0) (hc0:l0.length≤c0) (hr1:Kd.C k40 w A1 l1.length l1) (hc1:l1.length≤c1) (h:impl_distanceOf.f l0 l1=some r) :
 Calls Tryz.prog 49 #[.slice A0 l0.length c0, .slice A1 l1.length c1] w fun e w'=>e = .returned (.int .i64 r)∧Below w.heap.size w w':=by
 have HR0:=am_ hr0
 have HC0:=am_ hc0
 clear hr0 hc0
 have HR1:=am_ hr1
 have HC1:=am_ hc1
 clear hr1 hc1
 have HB:=am_ (Below.refl w.heap.size w)
 have H:((impl_lessHoles.f l0 l1).bind fun t412=>((impl_lessHoles.f l1 l0).bind fun t415=>(some (wrap64 ((t412.length:Int)+(t415.length:Int))))))=some r:=h
 clear h
 obtain⟨t412,A3,H⟩:=bo_ H
 try dsimp only at H
 obtain⟨t415,A4,H⟩:=bo_ H
 try dsimp only at H
 obtain rfl:=Option.some.inj H
 go_enter Tryz.func49,Tryz.ntmps49
 go_wp2_with (first|((with_reducible refine gate_callee (f:=46) rfl ?_);refine goesL_ (some 7) rfl rfl Tryz.func46 (by kernel_rfl) rfl #[.slice A0 l0.length c0, .slice A1 l1.length c1] rfl gd_ ?_;(with_reducible refine(impl_lessHoles.calls _ _ l0 _ _ l1 t412 _ ?side1 ?side2 ?side3 ?side4 A3.out).mono ?_);(case side1=>exact(a15_ HR0.out));(case side2=>exact HC0.out);(case side3=>exact(a15_ HR1.out));(case side4=>exact HC1.out);rintro e w5 ⟨v413,rfl,ho0,hb⟩;refine⟨_,rfl,?_⟩;have HO414:=am_ (Kd.R_lower ho0 (below_size (a1_)));replace HB:=am_ (below_step (a1_) hb);(try clear hb);(try clear hb2);(try clear hk);(try clear hi);(try clear ho0);obtain⟨Ao6,co6,eo6⟩:=Kd.R_slice HO414.out;subst eo6)|((with_reducible refine gate_callee (f:=46) rfl ?_);refine goesL_ (some 11) rfl rfl Tryz.func46 (by kernel_rfl) rfl #[.slice A1 l1.length c1, .slice A0 l0.length c0] rfl gd_ ?_;(with_reducible refine(impl_lessHoles.calls _ _ l1 _ _ l0 t415 _ ?side1 ?side2 ?side3 ?side4 A4.out).mono ?_);(case side1=>exact(a6_ HR1.out));(case side2=>exact HC1.out);(case side3=>exact(a6_ HR0.out));(case side4=>exact HC0.out);rintro e w7 ⟨v416,rfl,ho0,hb⟩;refine⟨_,rfl,?_⟩;have HO417:=am_ (Kd.R_lower (Kd.R_new' ho0 (Kd.R_lt ((a0_ HO414.out)))) (below_size (a1_)));replace HO414:=am_ (Kd.R_elder' ((a0_ HO414.out)) (Kd.R_base ho0) hb);replace HB:=am_ (below_step (a1_) hb);(try clear hb);(try clear hb2);(try clear hk);(try clear hi);(try clear ho0);obtain⟨Ao8,co8,eo8⟩:=Kd.R_slice HO417.out;subst eo8))
 go_ret
 exact⟨a10_,a1_⟩

/-! ### impl_DistanceOf: function 9 -/
def impl_DistanceOf.f (k:Nat) (l0:List (S40)) (l1:List (S40)):Option (Int×Bool):=(impl_IsSheet.f k l0).bind fun t418=>(if t418=true then((impl_IsSheet.f k l1).bind fun t419=>(if t419=true then((impl_distanceOf.f l0 l1).bind fun t420=>(some (t420,true))) else(some (0,false)))) else(some (0,false)))
theorem impl_DistanceOf.mono:∀a0 a1 k,LeO (impl_DistanceOf.f k a0 a1) (impl_DistanceOf.f (k+1) a0 a1):=by
 intro a0 a1 k
 unfold impl_DistanceOf.f
 repeat' first
  |(with_reducible exact impl_IsSheet.mono _ _)
  |(with_reducible exact LeO.refl _)
  |(with_reducible exact LeO.none _)
  |(with_reducible refine LeO.ite ?_ ?_)
  |(with_reducible refine LeO.bind ?_ (fun _=>?_))
  |exact impl_IsSheet.mono _ _
  |exact LeO.none _
   | refine LeO.ite ?_ ?_
   | refine LeO.bind ?_ (fun _=>?_)
set_option maxHeartbeats 8000000 in
set_option maxRecDepth 100000 in
theorem impl_DistanceOf.calls (k:Nat) (A0:Option Addr) (c0:Nat) (l0:List (S40)) (A1:Option Addr) (c1:Nat) (l1:List (S40)) (r1:Int) (r2:Bool) (w:World) (hr0:Kd.C k40 w A0 l0.length l0) (hc0:l0.length≤c0) (hr1:Kd.C k40 w A1 l1.length l1) (hc1:l1.length≤c1) (h:impl_DistanceOf.f k l0 l1=some (r1,r2)) :
 Calls Tryz.prog 9 #[.slice A0 l0.length c0, .slice A1 l1.length c1] w fun e w'=>e = .returned (.tuple #[.int .i64 r1, .bool r2])∧Below w.heap.size w w':=by
 have HR0:=am_ hr0
 have HC0:=am_ hc0
 clear hr0 hc0
 have HR1:=am_ hr1
 have HC1:=am_ hc1
 clear hr1 hc1
 have HB:=am_ (Below.refl w.heap.size w)
 have H:((impl_IsSheet.f k l0).bind fun t418=>(if t418=true then((impl_IsSheet.f k l1).bind fun t419=>(if t419=true then((impl_distanceOf.f l0 l1).bind fun t420=>(some (t420,true))) else(some (0,false)))) else(some (0,false))))=some (r1,r2):=h
 clear h
 obtain⟨t418,A3,H⟩:=bo_ H
 try dsimp only at H
 by_cases c4:t418=true
 ·subst c4
  replace H:((impl_IsSheet.f k l1).bind fun t419=>(if t419=true then((impl_distanceOf.f l0 l1).bind fun t420=>(some (t420,true))) else(some (0,false))))=some (r1,r2):=by rw[if_pos rfl]at H;exact H
  obtain⟨t419,A5,H⟩:=bo_ H
  try dsimp only at H
  by_cases c6:t419=true
  ·subst c6
   replace H:((impl_distanceOf.f l0 l1).bind fun t420=>(some (t420,true)))=some (r1,r2):=by rw[if_pos rfl]at H;exact H
   obtain⟨t420,A7,H⟩:=bo_ H
   try dsimp only at H
   simp only[Option.some.injEq,Prod.mk.injEq]at H
   obtain⟨rfl,rfl⟩:=H
   go_enter Tryz.func9,Tryz.ntmps9
   go_wp2_with (first|((with_reducible refine gate_callee (f:=45) rfl ?_);refine goesL_ (some 7) rfl rfl Tryz.func45 (by kernel_rfl) rfl #[.slice A0 l0.length c0] rfl gd_ ?_;(with_reducible refine(impl_IsSheet.calls k _ _ l0 true _ ?side1 ?side2 A3.out).mono ?_);(case side1=>exact(a15_ HR0.out));(case side2=>exact HC0.out);rintro e w8 ⟨rfl,hb⟩;refine⟨_,rfl,?_⟩;replace HB:=am_ (below_step (a1_) hb);(try clear hb);(try clear hb2);(try clear hk);(try clear hi))|(go_at_call 45;(with_reducible refine(impl_IsSheet.calls k _ _ l1 true _ ?side1 ?side2 A5.out).mono ?_);(case side1=>exact(a6_ HR1.out));(case side2=>exact HC1.out);rintro e w9 ⟨rfl,hb⟩;replace HB:=am_ (below_step (a1_) hb);(try clear hb);(try clear hb2);(try clear hk);(try clear hi))|((with_reducible refine gate_callee (f:=49) rfl ?_);refine goesL_ (some 16) rfl rfl Tryz.func49 (by kernel_rfl) rfl #[.slice A0 l0.length c0, .slice A1 l1.length c1] rfl gd_ ?_;(with_reducible refine(impl_distanceOf.calls _ _ l0 _ _ l1 t420 _ ?side1 ?side2 ?side3 ?side4 A7.out).mono ?_);(case side1=>exact(a6_ HR0.out));(case side2=>exact HC0.out);(case side3=>exact(a6_ HR1.out));(case side4=>exact HC1.out);rintro e w10 ⟨rfl,hb⟩;refine⟨_,rfl,?_⟩;replace HB:=am_ (below_step (a1_) hb);(try clear hb);(try clear hb2);(try clear hk);(try clear hi)))
   go_ret2
   exact⟨a10_,a1_⟩
  ·replace c6:=Bool.eq_false_iff.mpr c6
   subst c6
   replace H:(some (0,false))=some (r1,r2):=by rw[if_neg (show ¬(false=true) by decide)]at H;exact H
   simp only[Option.some.injEq,Prod.mk.injEq]at H
   obtain⟨rfl,rfl⟩:=H
   go_enter Tryz.func9,Tryz.ntmps9
   go_wp2_with (first|((with_reducible refine gate_callee (f:=45) rfl ?_);refine goesL_ (some 7) rfl rfl Tryz.func45 (by kernel_rfl) rfl #[.slice A0 l0.length c0] rfl gd_ ?_;(with_reducible refine(impl_IsSheet.calls k _ _ l0 true _ ?side1 ?side2 A3.out).mono ?_);(case side1=>exact(a15_ HR0.out));(case side2=>exact HC0.out);rintro e w11 ⟨rfl,hb⟩;refine⟨_,rfl,?_⟩;replace HB:=am_ (below_step (a1_) hb);(try clear hb);(try clear hb2);(try clear hk);(try clear hi))|(go_at_call 45;(with_reducible refine(impl_IsSheet.calls k _ _ l1 false _ ?side1 ?side2 A5.out).mono ?_);(case side1=>exact(a6_ HR1.out));(case side2=>exact HC1.out);rintro e w12 ⟨rfl,hb⟩;replace HB:=am_ (below_step (a1_) hb);(try clear hb);(try clear hb2);(try clear hk);(try clear hi)))
   go_ret2
   exact⟨a10_,a1_⟩
 ·replace c4:=Bool.eq_false_iff.mpr c4
  subst c4
  replace H:(some (0,false))=some (r1,r2):=by rw[if_neg (show ¬(false=true) by decide)]at H;exact H
  simp only[Option.some.injEq,Prod.mk.injEq]at H
  obtain⟨rfl,rfl⟩:=H
  go_enter Tryz.func9,Tryz.ntmps9
  go_wp2_with (first|((with_reducible refine gate_callee (f:=45) rfl ?_);refine goesL_ (some 7) rfl rfl Tryz.func45 (by kernel_rfl) rfl #[.slice A0 l0.length c0] rfl gd_ ?_;(with_reducible refine(impl_IsSheet.calls k _ _ l0 false _ ?side1 ?side2 A3.out).mono ?_);(case side1=>exact(a15_ HR0.out));(case side2=>exact HC0.out);rintro e w13 ⟨rfl,hb⟩;refine⟨_,rfl,?_⟩;replace HB:=am_ (below_step (a1_) hb);(try clear hb);(try clear hb2);(try clear hk);(try clear hi)))
  go_ret2
  exact⟨a10_,a1_⟩

/-! ### spec_mgDistance: function 50 -/
def spec_mgDistance.f (k:Nat) (l0:List (S40)) (l1:List (S40)):Option (Int):=(spec_mgLess.f k l0 l1).bind fun t421=>((spec_mgLess.f k l1 l0).bind fun t424=>(some (wrap64 ((t421.length:Int)+(t424.length:Int)))))
theorem spec_mgDistance.mono:∀a0 a1 k,LeO (spec_mgDistance.f k a0 a1) (spec_mgDistance.f (k+1) a0 a1):=by
 intro a0 a1 k
 unfold spec_mgDistance.f
 repeat' first
  |(with_reducible exact spec_mgLess.mono _ _ _)
  |(with_reducible exact LeO.refl _)
  |(with_reducible exact LeO.none _)
  |(with_reducible refine LeO.ite ?_ ?_)
  |(with_reducible refine LeO.bind ?_ (fun _=>?_))
  |exact spec_mgLess.mono _ _ _
  |exact LeO.none _
   | refine LeO.ite ?_ ?_
   | refine LeO.bind ?_ (fun _=>?_)
set_option maxHeartbeats 8000000 in
set_option maxRecDepth 100000 in
theorem spec_mgDistance.calls (k:Nat) (A0:Option Addr) (c0:Nat) (l0:List (S40)) (A1:Option Addr) (c1:Nat) (l1:List (S40)) (r:Int) (w:World) (hr0:Kd.C k40 w A0 l0.length l0) (hc0:l0.length≤c0) (hr1:Kd.C k40 w A1 l1.length l1) (hc1:l1.length≤c1) (h:spec_mgDistance.f k l0 l1=some r) :
 Calls Tryz.prog 50 #[.slice A0 l0.length c0, .slice A1 l1.length c1] w fun e w'=>e = .returned (.int .i64 r)∧Below w.heap.size w w':=by
 have HR0:=am_ hr0
 have HC0:=am_ hc0
 clear hr0 hc0
 have HR1:=am_ hr1
 have HC1:=am_ hc1
 clear hr1 hc1
 have HB:=am_ (Below.refl w.heap.size w)
 have H:((spec_mgLess.f k l0 l1).bind fun t421=>((spec_mgLess.f k l1 l0).bind fun t424=>(some (wrap64 ((t421.length:Int)+(t424.length:Int))))))=some r:=h
 clear h
 obtain⟨t421,A3,H⟩:=bo_ H
 try dsimp only at H
 obtain⟨t424,A4,H⟩:=bo_ H
 try dsimp only at H
 obtain rfl:=Option.some.inj H
 go_enter Tryz.func50,Tryz.ntmps50
 go_wp2_with (first|((with_reducible refine gate_callee (f:=48) rfl ?_);refine goesL_ (some 7) rfl rfl Tryz.func48 (by kernel_rfl) rfl #[.slice A0 l0.length c0, .slice A1 l1.length c1] rfl gd_ ?_;(with_reducible refine(spec_mgLess.calls k _ _ l0 _ _ l1 t421 _ ?side1 ?side2 ?side3 ?side4 A3.out).mono ?_);(case side1=>exact(a15_ HR0.out));(case side2=>exact HC0.out);(case side3=>exact(a15_ HR1.out));(case side4=>exact HC1.out);rintro e w5 ⟨v422,rfl,ho0,hb⟩;refine⟨_,rfl,?_⟩;have HO423:=am_ (Kd.R_lower ho0 (below_size (a1_)));replace HB:=am_ (below_step (a1_) hb);(try clear hb);(try clear hb2);(try clear hk);(try clear hi);(try clear ho0);obtain⟨Ao6,co6,eo6⟩:=Kd.R_slice HO423.out;subst eo6)|((with_reducible refine gate_callee (f:=48) rfl ?_);refine goesL_ (some 11) rfl rfl Tryz.func48 (by kernel_rfl) rfl #[.slice A1 l1.length c1, .slice A0 l0.length c0] rfl gd_ ?_;(with_reducible refine(spec_mgLess.calls k _ _ l1 _ _ l0 t424 _ ?side1 ?side2 ?side3 ?side4 A4.out).mono ?_);(case side1=>exact(a6_ HR1.out));(case side2=>exact HC1.out);(case side3=>exact(a6_ HR0.out));(case side4=>exact HC0.out);rintro e w7 ⟨v425,rfl,ho0,hb⟩;refine⟨_,rfl,?_⟩;have HO426:=am_ (Kd.R_lower (Kd.R_new' ho0 (Kd.R_lt ((a0_ HO423.out)))) (below_size (a1_)));replace HO423:=am_ (Kd.R_elder' ((a0_ HO423.out)) (Kd.R_base ho0) hb);replace HB:=am_ (below_step (a1_) hb);(try clear hb);(try clear hb2);(try clear hk);(try clear hi);(try clear ho0);obtain⟨Ao8,co8,eo8⟩:=Kd.R_slice HO426.out;subst eo8))
 go_ret
 exact⟨a10_,a1_⟩

/-! ### spec_DistanceOf: function 10 -/
def spec_DistanceOf.f (k:Nat) (l0:List (S40)) (l1:List (S40)):Option (Int×Bool):=(spec_mgTwo.f k l0 l1).bind fun t427=>(if t427=true then((spec_mgDistance.f k l0 l1).bind fun t428=>(some (t428,true))) else(some (0,false)))
theorem spec_DistanceOf.mono:∀a0 a1 k,LeO (spec_DistanceOf.f k a0 a1) (spec_DistanceOf.f (k+1) a0 a1):=by
 intro a0 a1 k
 unfold spec_DistanceOf.f
 repeat' first
  |(with_reducible exact spec_mgDistance.mono _ _ _)
  |(with_reducible exact spec_mgTwo.mono _ _ _)
  |(with_reducible exact LeO.refl _)
  |(with_reducible exact LeO.none _)
  |(with_reducible refine LeO.ite ?_ ?_)
  |(with_reducible refine LeO.bind ?_ (fun _=>?_))
  |exact spec_mgDistance.mono _ _ _
  |exact spec_mgTwo.mono _ _ _
  |exact LeO.none _
   | refine LeO.ite ?_ ?_
   | refine LeO.bind ?_ (fun _=>?_)
set_option maxHeartbeats 8000000 in
set_option maxRecDepth 100000 in
theorem spec_DistanceOf.calls (k:Nat) (A0:Option Addr) (c0:Nat) (l0:List (S40)) (A1:Option Addr) (c1:Nat) (l1:List (S40)) (r1:Int) (r2:Bool) (w:World) (hr0:Kd.C k40 w A0 l0.length l0) (hc0:l0.length≤c0) (hr1:Kd.C k40 w A1 l1.length l1) (hc1:l1.length≤c1) (h:spec_DistanceOf.f k l0 l1=some (r1,r2)) :
 Calls Tryz.prog 10 #[.slice A0 l0.length c0, .slice A1 l1.length c1] w fun e w'=>e = .returned (.tuple #[.int .i64 r1, .bool r2])∧Below w.heap.size w w':=by
 have HR0:=am_ hr0
 have HC0:=am_ hc0
 clear hr0 hc0
 have HR1:=am_ hr1
 have HC1:=am_ hc1
 clear hr1 hc1
 have HB:=am_ (Below.refl w.heap.size w)
 have H:((spec_mgTwo.f k l0 l1).bind fun t427=>(if t427=true then((spec_mgDistance.f k l0 l1).bind fun t428=>(some (t428,true))) else(some (0,false))))=some (r1,r2):=h
 clear h
 obtain⟨t427,A3,H⟩:=bo_ H
 try dsimp only at H
 by_cases c4:t427=true
 ·subst c4
  replace H:((spec_mgDistance.f k l0 l1).bind fun t428=>(some (t428,true)))=some (r1,r2):=by rw[if_pos rfl]at H;exact H
  obtain⟨t428,A5,H⟩:=bo_ H
  try dsimp only at H
  simp only[Option.some.injEq,Prod.mk.injEq]at H
  obtain⟨rfl,rfl⟩:=H
  go_enter Tryz.func10,Tryz.ntmps10
  go_wp2_with (first|((with_reducible refine gate_callee (f:=47) rfl ?_);refine goesL_ (some 8) rfl rfl Tryz.func47 (by kernel_rfl) rfl #[.slice A0 l0.length c0, .slice A1 l1.length c1] rfl gd_ ?_;(with_reducible refine(spec_mgTwo.calls k _ _ l0 _ _ l1 true _ ?side1 ?side2 ?side3 ?side4 A3.out).mono ?_);(case side1=>exact(a15_ HR0.out));(case side2=>exact HC0.out);(case side3=>exact(a15_ HR1.out));(case side4=>exact HC1.out);rintro e w6 ⟨rfl,hb⟩;refine⟨_,rfl,?_⟩;replace HB:=am_ (below_step (a1_) hb);(try clear hb);(try clear hb2);(try clear hk);(try clear hi))|((with_reducible refine gate_callee (f:=50) rfl ?_);refine goesL_ (some 12) rfl rfl Tryz.func50 (by kernel_rfl) rfl #[.slice A0 l0.length c0, .slice A1 l1.length c1] rfl gd_ ?_;(with_reducible refine(spec_mgDistance.calls k _ _ l0 _ _ l1 t428 _ ?side1 ?side2 ?side3 ?side4 A5.out).mono ?_);(case side1=>exact(a6_ HR0.out));(case side2=>exact HC0.out);(case side3=>exact(a6_ HR1.out));(case side4=>exact HC1.out);rintro e w7 ⟨rfl,hb⟩;refine⟨_,rfl,?_⟩;replace HB:=am_ (below_step (a1_) hb);(try clear hb);(try clear hb2);(try clear hk);(try clear hi)))
  go_ret2
  exact⟨a10_,a1_⟩
 ·replace c4:=Bool.eq_false_iff.mpr c4
  subst c4
  replace H:(some (0,false))=some (r1,r2):=by rw[if_neg (show ¬(false=true) by decide)]at H;exact H
  simp only[Option.some.injEq,Prod.mk.injEq]at H
  obtain⟨rfl,rfl⟩:=H
  go_enter Tryz.func10,Tryz.ntmps10
  go_wp2_with (first|((with_reducible refine gate_callee (f:=47) rfl ?_);refine goesL_ (some 8) rfl rfl Tryz.func47 (by kernel_rfl) rfl #[.slice A0 l0.length c0, .slice A1 l1.length c1] rfl gd_ ?_;(with_reducible refine(spec_mgTwo.calls k _ _ l0 _ _ l1 false _ ?side1 ?side2 ?side3 ?side4 A3.out).mono ?_);(case side1=>exact(a15_ HR0.out));(case side2=>exact HC0.out);(case side3=>exact(a15_ HR1.out));(case side4=>exact HC1.out);rintro e w8 ⟨rfl,hb⟩;refine⟨_,rfl,?_⟩;replace HB:=am_ (below_step (a1_) hb);(try clear hb);(try clear hb2);(try clear hk);(try clear hi)))
  go_ret2
  exact⟨a10_,a1_⟩

/-! ### impl_sharedHoles: function 51 (by hand: a copy of the holes, those taken out that the closure tells) -/
def impl_sharedHoles.same (x y:S40):Bool:=x.f0 == y.f0 && (x.f1 == y.f1 && (x.f2 == y.f2))
def impl_sharedHoles.has (l:List S40) (x:S40):Bool:=l.any (impl_sharedHoles.same x)
/-- What the closure tells of a hole: is it taken out. -/
def impl_sharedHoles.out (l:List S40) (x:S40):Bool:= !impl_sharedHoles.has l x
def impl_sharedHoles.f (l0 l1:List S40):Option (List S40):=if l0.length<1000000000 then some (l0.filter fun x=> !impl_sharedHoles.out l1 x) else none
theorem impl_sharedHoles.eqA (d:Nat) (w:World) (x0 x1 x2 y0 y1 y2:Int) :
 (Op.equalIn (d+2) 40 (.agg #[.int .i64 x0, .int .i64 x1, .int .i64 x2]) (.agg #[.int .i64 y0, .int .i64 y1, .int .i64 y2])).run Tryz.prog w = .ok (x0 == y0 && (x1 == y1 && (x2 == y2))) w:=by
 refine eqA_of Tryz.underlying40 (by kernel_rfl) ?_
 refine eqf_cons (by rfl) (by go_simp;rfl) (by go_simp;rfl) (by go_simp) ?_
 refine eqf_cons (by rfl) (by go_simp;rfl) (by go_simp;rfl) (by go_simp) ?_
 exact eqf_last (by rfl) (by go_simp;rfl) (by go_simp;rfl) (by go_simp)
attribute [local go_sem high] impl_sharedHoles.eqA
theorem impl_sharedHoles.step (l:List S40) (kk:Nat) (h:kk<l.length):l.drop kk=rd_T40 l (kk:Int) :: l.drop (kk+1):=by
 rw[List.drop_eq_getElem_cons h]
 congr 1
 simp[rd_T40,List.getD_eq_getElem?_getD,List.getElem?_eq_getElem h]
set_option maxHeartbeats 8000000 in
set_option maxRecDepth 100000 in
theorem impl_sharedHoles.idx (A0:Option Addr) (c0:Nat) (l0:List S40) (x:S40) (w:World) (hr0:Kd.C k40 w A0 l0.length l0) :
 Calls Tryz.prog 109 #[.slice A0 l0.length c0, .agg #[.int .i64 x.f0, .int .i64 x.f1, .int .i64 x.f2]] w fun e w'=>∃r:Int,e = .returned (.int .i64 r)∧decide (0≤r)=impl_sharedHoles.has l0 x∧Below w.heap.size w w':=by
 have HR0:=am_ hr0
 clear hr0
 have hmax:=HR0.out.2.1
 go_enter Tryz.func109,Tryz.ntmps109
 go_wp2
 (try simp only[Act.put,List.setIfInBounds_toArray,List.set_cons_zero,List.set_cons_succ])
 go_loopg [5,8] l0.length (fun gg _ s8 wr=>∃kk:Nat,kk≤l0.length∧l0.length-kk≤gg∧s8 = .int .i64 kk∧Aside0 (Below w.heap.size w wr)∧Aside0 (wr.cell? ⟨w.heap.size,0,none⟩=some (.int .i64 x.f0)∧wr.cell? ⟨w.heap.size,1,none⟩=some (.int .i64 x.f1)∧wr.cell? ⟨w.heap.size,2,none⟩=some (.int .i64 x.f2))∧Aside0 (impl_sharedHoles.has l0 x=impl_sharedHoles.has (l0.drop kk) x))
 case atStart=>exact⟨0,Nat.zero_le _,by omega,rfl,⟨below_alloc (Below.refl _ w) _⟩,⟨blk_cell (blk_new w _) 0,blk_cell (blk_new w _) 1,blk_cell (blk_new w _) 2⟩,⟨rfl⟩⟩
 case round=>
  obtain⟨kk,hkk,hg,rfl,HB,HC,HI⟩:=hrel
  obtain⟨hb0,hb1,hb2⟩:=HC.out
  by_cases hlt:kk<l0.length
  ·have hltz:(kk:Int)<(l0.length:Int):=by omega
   obtain⟨ad,e1,hx0,hx1,hx2⟩:=at_T40 HR0.out (kk:Int) (by omega) hltz
   cases e1
   simp only[Int.toNat_natCast]at hx0 hx1 hx2
   replace hx0:=(HB.out.cell (World.block_lt_of_cell? w _ hx0)).trans hx0
   replace hx1:=(HB.out.cell (World.block_lt_of_cell? w _ hx1)).trans hx1
   replace hx2:=(HB.out.cell (World.block_lt_of_cell? w _ hx2)).trans hx2
   cases hq:(x.f0 == (rd_T40 l0 (kk:Int)).f0 && (x.f1 == (rd_T40 l0 (kk:Int)).f1 && (x.f2 == (rd_T40 l0 (kk:Int)).f2))) with
   | true=>
    have HD:Aside0 (impl_sharedHoles.has l0 x=true):=⟨by rw[HI.out,impl_sharedHoles.step l0 kk hlt,impl_sharedHoles.has,List.any_cons,impl_sharedHoles.same,hq];rfl⟩
    clear HI
    go_wp2
    go_quiet (fail)
    go_wp2
    go_ret
    exact⟨_,rfl,by rw[HD.out];exact decide_eq_true (by omega),a1_⟩
   | false=>
    have HD:Aside0 (impl_sharedHoles.has l0 x=impl_sharedHoles.has (l0.drop (kk+1)) x):=⟨by rw[HI.out,impl_sharedHoles.step l0 kk hlt,impl_sharedHoles.has,List.any_cons,impl_sharedHoles.same,hq];rfl⟩
    clear HI
    go_wp2
    go_quiet (fail)
    go_wp2
    go_roundg (l0.length-(kk+1))
    case measure=>omega
    case rel=>exact⟨kk+1,by omega,by omega,by go_num,⟨a1_⟩,⟨pw_cell_below (pw_below_drewN (Below.refl _ _) _) hb0,pw_cell_below (pw_below_drewN (Below.refl _ _) _) hb1,pw_cell_below (pw_below_drewN (Below.refl _ _) _) hb2⟩,HD⟩
  ·have hltz:¬(kk:Int)<(l0.length:Int):=by omega
   have hkl:kk=l0.length:=by omega
   have HD:Aside0 (impl_sharedHoles.has l0 x=false):=⟨by rw[HI.out,hkl,List.drop_length];rfl⟩
   clear HI hkl
   go_wp2
   go_ret
   exact⟨_,rfl,by rw[HD.out];rfl,HB.out⟩
set_option maxHeartbeats 8000000 in
set_option maxRecDepth 100000 in
theorem impl_sharedHoles.cont (A0:Option Addr) (c0:Nat) (l0:List S40) (x:S40) (w:World) (hr0:Kd.C k40 w A0 l0.length l0) :
 Calls Tryz.prog 93 #[.slice A0 l0.length c0, .agg #[.int .i64 x.f0, .int .i64 x.f1, .int .i64 x.f2]] w fun e w'=>e = .returned (.bool (impl_sharedHoles.has l0 x))∧Below w.heap.size w w':=by
 have HR0:=am_ hr0
 clear hr0
 go_enter Tryz.func93,Tryz.ntmps93
 go_wp2_with (go_at_call 109;refine(impl_sharedHoles.idx A0 c0 l0 x _ (Kd.C_below HR0.out (below_alloc (Below.refl _ _) _))).mono ?_;rintro e w' ⟨r,rfl,hr,hb⟩)
 go_ret
 exact⟨by rw[← hr];rfl,below_then (below_alloc (Below.refl _ _) _) (by simp) hb⟩
set_option maxHeartbeats 8000000 in
set_option maxRecDepth 100000 in
theorem impl_sharedHoles.clo (B:Nat) (A1:Option Addr) (c1:Nat) (l1:List S40) (x:S40) (b:Bool) (W:World) (hB:B<W.heap.size) (hc:W.cell? ⟨B,0,none⟩=some (.slice A1 l1.length c1)) (hC:Kd.C k40 W A1 l1.length l1) (hb:impl_sharedHoles.out l1 x=b) :
 Calls Tryz.prog 94 #[.agg #[.int .i64 x.f0, .int .i64 x.f1, .int .i64 x.f2], .pointer (some ⟨B,0,none⟩)] W fun e w'=>e = .returned (.bool b)∧Below W.heap.size W w':=by
 have hc2:∀o:Obj,(W.alloc o).cell? ⟨B,0,none⟩=some (.slice A1 l1.length c1):=fun o=>(World.cell?_alloc_lt _ _ _ hB).trans hc
 have HR:=am_ hC
 clear hC
 go_enter Tryz.func94,Tryz.ntmps94
 go_wp2_with (go_at_call 93;refine(impl_sharedHoles.cont A1 c1 l1 x _ (Kd.C_below HR.out (below_alloc (Below.refl _ _) _))).mono ?_;rintro e w' ⟨rfl,hb'⟩)
 go_ret
 exact⟨by rw[← hb];rfl,below_then (below_alloc (Below.refl _ _) _) (by simp) hb'⟩
def impl_sharedHoles.at (p:S40→Bool):Int→List S40→Int
 | _, []=> -1
 | i,x :: l=>if p x=true then i else impl_sharedHoles.at p (i+1) l
theorem impl_sharedHoles.at_spec (p:S40→Bool) (l:List S40):∀i:Int,(impl_sharedHoles.at p i l = -1∧l.filter (fun x=> !p x)=l)∨∃pre x suf,l=pre ++ x :: suf∧impl_sharedHoles.at p i l=i+pre.length∧pre.filter (fun x=> !p x)=pre∧p x=true:=by
 induction l with
 | nil=>intro i;exact .inl ⟨rfl,rfl⟩
 | cons x l ih=>
  intro i
  by_cases c:p x=true
  ·exact .inr ⟨[],x,l,rfl,by simp[impl_sharedHoles.at,c],rfl,c⟩
  ·rcases ih (i+1) with ⟨h1,h2⟩ | ⟨pre,y,suf,h1,h2,h3,h4⟩
   ·exact .inl ⟨by rw[impl_sharedHoles.at,if_neg c,h1],by rw[List.filter_cons_of_pos (by simpa using c),h2]⟩
   ·exact .inr ⟨x :: pre,y,suf,by rw[h1];rfl,by rw[impl_sharedHoles.at,if_neg c,h2,List.length_cons];omega,by rw[List.filter_cons_of_pos (by simpa using c),h3],h4⟩
set_option maxHeartbeats 8000000 in
set_option maxRecDepth 100000 in
theorem impl_sharedHoles.first(A0:Option Addr) (c0:Nat) (l0:List S40) (B:Nat) (A1:Option Addr) (c1:Nat) (l1:List S40) (w:World) (hB:B<w.heap.size) (hcB:w.cell? ⟨B,0,none⟩=some (.slice A1 l1.length c1)) (hr1:Kd.C k40 w A1 l1.length l1) (hr0:Kd.C k40 w A0 l0.length l0) :
 Calls Tryz.prog 108 #[.slice A0 l0.length c0, .func (.func 94) #[] #[.pointer (some ⟨B,0,none⟩)]] w fun e w'=>e = .returned (.int .i64 (impl_sharedHoles.at (impl_sharedHoles.out l1) 0 l0))∧Below w.heap.size w w':=by
 have HR0:=am_ hr0
 have HR1:=am_ hr1
 have HCB:=am_ hcB
 clear hr0 hr1 hcB
 have hmax:=HR0.out.2.1
 have eg:=enters_of (P:=Tryz.prog) Tryz.func94 (by kernel_rfl) rfl
 go_enter Tryz.func108,Tryz.ntmps108
 go_wp2
 (try simp only[Act.put,List.setIfInBounds_toArray,List.set_cons_zero,List.set_cons_succ])
 go_loopg [5,8] l0.length (fun gg _ s8 wr=>∃kk:Nat,kk≤l0.length∧l0.length-kk≤gg∧s8 = .int .i64 kk∧Aside0 (Below w.heap.size w wr)∧Aside0 (impl_sharedHoles.at (impl_sharedHoles.out l1) 0 l0=impl_sharedHoles.at (impl_sharedHoles.out l1) kk (l0.drop kk)))
 case atStart=>exact⟨0,Nat.zero_le _,by omega,rfl,⟨Below.refl _ w⟩,⟨rfl⟩⟩
 case round=>
  obtain⟨kk,hkk,hg,rfl,HB,HI⟩:=hrel
  by_cases hlt:kk<l0.length
  ·have hltz:(kk:Int)<(l0.length:Int):=by omega
   obtain⟨ad,e1,hx0,hx1,hx2⟩:=at_T40 HR0.out (kk:Int) (by omega) hltz
   cases e1
   simp only[Int.toNat_natCast]at hx0 hx1 hx2
   replace hx0:=(HB.out.cell (World.block_lt_of_cell? w _ hx0)).trans hx0
   replace hx1:=(HB.out.cell (World.block_lt_of_cell? w _ hx1)).trans hx1
   replace hx2:=(HB.out.cell (World.block_lt_of_cell? w _ hx2)).trans hx2
   have hdrop:=impl_sharedHoles.step l0 kk hlt
   have hsz:w.heap.size≤wr.heap.size:=HB.out.size
   cases hq:impl_sharedHoles.out l1 (rd_T40 l0 (kk:Int)) with
   | true=>
    have hcall:=impl_sharedHoles.clo B A1 c1 l1 (rd_T40 l0 (kk:Int)) true wr (by omega) (pw_cell_below HB.out HCB.out) (Kd.C_below HR1.out HB.out) hq
    have HD:Aside0 (impl_sharedHoles.at (impl_sharedHoles.out l1) 0 l0=(kk:Int)):=⟨by rw[HI.out,hdrop];simp only[impl_sharedHoles.at];rw[if_pos hq]⟩
    clear hq hdrop HI
    go_wp2_with (go_at_call 94;refine hcall.mono ?_;rintro e w' ⟨rfl,hb'⟩)
    go_ret
    exact⟨by rw[HD.out];rfl,below_then HB.out hsz hb'⟩
   | false=>
    have hcall:=impl_sharedHoles.clo B A1 c1 l1 (rd_T40 l0 (kk:Int)) false wr (by omega) (pw_cell_below HB.out HCB.out) (Kd.C_below HR1.out HB.out) hq
    have HD:Aside0 (impl_sharedHoles.at (impl_sharedHoles.out l1) 0 l0=impl_sharedHoles.at (impl_sharedHoles.out l1) ((kk+1:Nat):Int) (l0.drop (kk+1))):=⟨by rw[HI.out,hdrop];simp only[impl_sharedHoles.at];rw[if_neg (by rw[hq];decide)];simp⟩
    clear hq hdrop HI
    go_wp2_with (go_at_call 94;refine hcall.mono ?_;rintro e w' ⟨rfl,hb'⟩)
    go_roundg (l0.length-(kk+1))
    case measure=>omega
    case rel=>exact⟨kk+1,by omega,by omega,by go_num,⟨below_then HB.out hsz hb'⟩,HD⟩
  ·have hltz:¬(kk:Int)<(l0.length:Int):=by omega
   have hkl:kk=l0.length:=by omega
   have HD:Aside0 (impl_sharedHoles.at (impl_sharedHoles.out l1) 0 l0 = -1):=⟨by rw[HI.out,hkl,List.drop_length];rfl⟩
   clear HI hkl
   go_wp2
   go_ret
   exact⟨by rw[HD.out];rfl,HB.out⟩
/-- The tail is cleared: zero cells are written, whatever they are. -/
theorem impl_sharedHoles.clear (W:World) (g o n c:Nat) (hn:0<n) (hc:∀j,j<n*3→(W.cell? ⟨g,o+j,none⟩).isSome=true) (hf:∀j,j<n*3→W.frozen? ⟨g,o+j,none⟩=false) :
 ∃zs:List Value,zs.length=n*3∧∀ty,(Builtin.clear_ #[24] ty #[.slice (some ⟨g,o,none⟩) n c]).run Tryz.prog W = .ok (.tuple #[]) (W.setCells g o zs):=by
 have hv:∀w,(zeroValue 40).run Tryz.prog w = .ok (.agg #[(.int .i64 0),(.int .i64 0),(.int .i64 0)]) w:=by intro w;go_simp
 have hl:(Builtin.zeroCells (Value.cells (.agg #[(.int .i64 0),(.int .i64 0),(.int .i64 0)])) n).toList.length=n*3:=by simp[Builtin.zeroCells,Value.cells]
 have h1:∀v∈(Builtin.zeroCells (Value.cells (.agg #[(.int .i64 0),(.int .i64 0),(.int .i64 0)])) n).toList,v.oneCell'=true:=by
  intro v hv'
  simp only[Builtin.zeroCells,Array.toList_map,List.mem_map]at hv'
  obtain⟨i,_,rfl⟩:=hv'
  have hs:(Value.cells (.agg #[(.int .i64 0),(.int .i64 0),(.int .i64 0)])).size=3:=rfl
  rw[hs]
  rcases (show i % 3=0∨i % 3=1∨i % 3=2 by omega) with h | h | h<;>rw[h]<;>rfl
 have hst:=run_storeCells_cells (P:=Tryz.prog) g o (Builtin.zeroCells (Value.cells (.agg #[(.int .i64 0),(.int .i64 0),(.int .i64 0)])) n).toList 0 W (by simpa only[hl,Nat.add_zero] using hc) (by simpa only[hl,Nat.add_zero] using hf) h1
 simp only[Nat.add_zero]at hst
 refine⟨_,hl,fun ty=>?_⟩
 obtain⟨m,rfl⟩:∃m,n=m+1:=⟨n-1,by omega⟩
 simp[Builtin.clear_,run_underlying Tryz.underlying24,hv,hst]
/-- What stands behind the first i elements may be written over: the first i are a row still. -/
theorem impl_sharedHoles.cut (W:World) (base g n cap i:Nat) (ys:List S40) (zs:List Value) (HO:Kd.R k40 40 W base (fun _=>True) (.slice (some ⟨g,0,none⟩) n cap) ys) (hi:i≤n) (hz:i*3+zs.length≤cap*3) :
 Kd.R k40 40 (W.setCells g (i*3) zs) base (fun _=>True) (.slice (some ⟨g,0,none⟩) i cap) (ys.take i):=by
 have hn:=(Kd.R_reads' HO).1
 obtain⟨hok,inner,hown,hr⟩:=Kd.R_take (m:=i) HO (by omega)
 have hsz:(k40).sz=3:=rfl
 have hlt:(ys.take i).length=i:=by rw[List.length_take];omega
 rcases hown.2 with ⟨hv,_⟩ | ⟨g',cap',cur,hv,hb,hh,hnc,hcm,hcs,htake⟩
 ·cases hv
 injection hv with ha _ hc
 injection ha with ha
 injection ha with hg
 subst hg;subst hc
 rw[hsz]at hcs htake
 obtain⟨cur',h3,h4,h5⟩:=setCells_row zs (i*3) W cur hh (by omega)
 have hfar:∀k',k'≠g→(W.setCells g (i*3) zs).heap[k']? = W.heap[k']? := fun k' hk'=>setCells_far zs _ k' hk'
 refine⟨hok,inner,⟨hown.1, .inr ⟨g,cap,cur',by rw[hlt],hb,h3,hnc,hcm,by rw[h4,hcs,hsz],?_⟩⟩,hr.imp_ (fun p q hp=>Kd.M_move _ (fun k' hk'=>hfar k' (fun he=>hk'.2 (by rw[he];simp[Value.ownBlock]))) hp)⟩
 rw[hsz,hlt,h5]
 rw[hlt]at htake
 rw[← htake,List.append_assoc,List.take_append_of_le_length (by rw[List.length_take,Array.length_toList];omega)]
 rw[List.take_take,Nat.min_self]
theorem impl_sharedHoles.takeset (ys:List S40) (i:Nat) (y:S40) (h:i<ys.length):(ys.set i y).take (i+1)=ys.take i ++ [y]:=by
 obtain⟨pre,x,suf,rfl,rfl⟩:∃pre x suf,ys=pre ++ x :: suf∧pre.length=i:=⟨ys.take i,ys[i],ys.drop (i+1),by simp,by simp;omega⟩
 rw[List.set_append_right _ _ (Nat.le_refl _)]
 rw[List.take_append,List.take_of_length_le (by omega),List.take_left]
 simp
set_option maxHeartbeats 2000000 in
set_option maxRecDepth 100000 in
theorem impl_sharedHoles.del (B:Nat) (A1:Option Addr) (c1:Nat) (l1:List S40) (w1:World) (hB:B<w1.heap.size) (hcB:w1.cell? ⟨B,0,none⟩=some (.slice A1 l1.length c1)) (hr1:Kd.C k40 w1 A1 l1.length l1) (W:World) (v:Value) (xs:List S40)
 (hO:Kd.R k40 40 W w1.heap.size (fun _=>True) v xs) (hBW:Below w1.heap.size w1 W) :
 Calls Tryz.prog 90 #[v, .func (.func 94) #[] #[.pointer (some ⟨B,0,none⟩)]] W fun e w'=>∃v0,e = .returned v0∧Kd.R k40 40 w' w1.heap.size (fun _=>True) v0 (xs.filter fun x=> !impl_sharedHoles.out l1 x)∧Below w1.heap.size w1 w':=by
 obtain⟨A0,c0,rfl,hc0,hC0⟩:=Kd.R_reads hO
 have hlt1:w1.heap.size≤W.heap.size:=hBW.size
 have HR1:=am_ hr1
 have HCB:=am_ hcB
 have HO:=am_ hO
 have HB:=am_ hBW
 have hmax:=hC0.2.1
 have eg:=enters_of (P:=Tryz.prog) Tryz.func94 (by kernel_rfl) rfl
 have hcall:=impl_sharedHoles.first A0 c0 xs B A1 c1 l1 W (by omega) (pw_cell_below hBW hcB) (Kd.C_below hr1 hBW) hC0
 clear hcB hr1 hO hBW hC0
 rcases impl_sharedHoles.at_spec (impl_sharedHoles.out l1) xs 0 with ⟨h1,h2⟩ | ⟨pre,x0,suf,h1,h2,h3,h4⟩
 ·rw[h1]at hcall
  have HF:=am_ h2
  clear h1 h2
  go_enter Tryz.func90,Tryz.ntmps90
  go_wp2_with (go_at_call 108;refine hcall.mono ?_;rintro e w' ⟨rfl,hb'⟩)
  go_ret
  exact⟨_,rfl,by rw[HF.out];exact Kd.R_below HO.out hb',below_step HB.out hb'⟩
 ·rw[h2,Int.zero_add]at hcall
  have hxl:xs.length=pre.length+(suf.length+1):=by rw[h1];simp
  have HF:=am_ h1
  have HF3:=am_ h3
  have HF4:=am_ h4
  clear h1 h2 h3 h4
  obtain⟨g,cap,eq1,hbase,hglt,hcap⟩:=Kd.R_form HO.out (by omega)
  obtain⟨rfl,rfl⟩:A0=some ⟨g,0,none⟩∧c0=cap:=by injection eq1 with e1 e2 e3;exact⟨e1,e3⟩
  clear eq1
  have HXL:=am_ hxl
  have hw1:wrap64 ((pre.length:Int)+1)=((pre.length+1:Nat):Int):=by unfold wrap64;omega
  have HW1:=am_ hw1
  clear hxl hw1
  have hne1:((pre.length:Int) == -1)=false:=beq_eq_false_iff_ne.2 (by omega)
  go_enter Tryz.func90,Tryz.ntmps90
  go_wp2_with (go_at_call 108;refine hcall.mono ?_;rintro e w2 ⟨rfl,hb'⟩;have n0_:=am_ (Kd.R_below HO.out hb');have n1_:=am_ (below_step HB.out hb');clear HO HB hb' hcall;have HO:=n0_;have HB:=n1_;clear n0_ n1_)
  (try simp only[Act.put,List.setIfInBounds_toArray,List.set_cons_zero,List.set_cons_succ])
  go_loopg [5,6,7] xs.length (fun gg s5 s6 _ wr=>∃(i j:Nat) (ys:List S40),s5 = .int .i64 i∧s6 = .int .i64 j∧i<j∧j≤xs.length∧xs.length-j≤gg∧ys.length=xs.length∧Aside0 (ys.take i=(xs.take j).filter fun x=> !impl_sharedHoles.out l1 x)∧Aside0 (ys.drop j=xs.drop j)∧Aside0 (Kd.R k40 40 wr w1.heap.size (fun _=>True) (.slice (some ⟨g,0,none⟩) xs.length c0) ys)∧Aside0 (Below w1.heap.size w1 wr))
  case atStart=>have hxl:=HXL.out;exact⟨pre.length,pre.length+1,xs,rfl,(a45_ HW1.out),by omega,by omega,by omega,rfl,⟨by rw[HF.out,List.take_left,List.take_append,List.take_of_length_le (by omega)];simp[HF3.out,HF4.out]⟩,⟨rfl⟩,HO,HB⟩
  case round=>
   obtain⟨i,j,ys,rfl,rfl,hij,hjn,hgg,hyl,HT,HD,HO,HB⟩:=hrel
   have hsz:w1.heap.size≤wr.heap.size:=HB.out.size
   by_cases hlt:j<xs.length
   ·have hltz:(j:Int)<(xs.length:Int):=by omega
    have hiz:(i:Int)<(xs.length:Int):=by omega
    obtain⟨ce,hcl,hM,hcc,hfr⟩:=Kd.R_elem HO.out z40 (j:Int) (by omega) (by omega)
    obtain rfl:=k40_openM hM
    have hx0:=hcc 0 _ rfl
    have hx1:=hcc 1 _ rfl
    have hx2:=hcc 2 _ rfl
    clear hcl hM hcc hfr
    simp only[Int.toNat_natCast,show(k40).sz=3 from rfl,Nat.add_zero]at hx0 hx1 hx2
    obtain⟨y,hy⟩:∃y,y=ys.getD j z40:=⟨_,rfl⟩
    rw[← hy]at hx0 hx1 hx2
    have hyx:xs.drop j=y :: xs.drop (j+1):=by
     rw[← HD.out,List.drop_eq_getElem_cons (by omega),hy]
     have e1:ys.drop (j+1)=xs.drop (j+1):=by
      have:=congrArg (List.drop 1) HD.out
      rwa [List.drop_drop,List.drop_drop]at this
     rw[e1,List.getD_eq_getElem?_getD,List.getElem?_eq_getElem (by omega)];rfl
    have hD1:ys.drop (j+1)=xs.drop (j+1):=by
     have:=congrArg (List.drop 1) HD.out
     rwa [List.drop_drop,List.drop_drop]at this
    have hT1:xs.take (j+1)=xs.take j ++ [y]:=by
     have e2:xs[j]? = some y:=by
      have:=congrArg (fun q=>q[0]?) hyx
      simpa using this
     rw[List.take_add_one,e2];rfl
    have HYX:=am_ hT1
    have HD1:=am_ hD1
    clear hy hyx hT1 hD1
    have hB3:B<wr.heap.size:=by omega
    have hw1:wrap64 ((j:Int)+1)=((j+1:Nat):Int):=by unfold wrap64;omega
    have hw2:wrap64 ((i:Int)+1)=((i+1:Nat):Int):=by unfold wrap64;omega
    have HW1:=am_ hw1
    have HW2:=am_ hw2
    clear hw1 hw2
    cases hq:impl_sharedHoles.out l1 y with
    | true=>
     have HQ:=am_ hq
     clear hq
     go_wp2_with (first
      |((with_reducible refine gate_dst (N:=7) rfl ?_);refine box_event ?hg (N:=7) ?hd (cs:= #[.int .i64 0, .int .i64 0, .int .i64 0]) (t:=40) ?hr ?_;(case hd=>rfl);(case hg=>rfl);(case hr=>exact hr_);intro gb hgb w2 hbox hb;have n0_:=am_ (Kd.R_below (Kd.R_elderB HO.out gb (Nat.le_of_eq hgb.symm)) hb);have n1_:=am_ (below_step HB.out hb);have BK:=am_ hbox;have GB:=am_ (show w1.heap.size≤gb by rw[hgb];exact HB.out.size);have GW:=am_ (show B<w2.heap.size from Nat.lt_of_lt_of_le hB3 hb.size);clear HO HB;have HO:=n0_;have HB:=n1_;clear n0_ n1_ hb hbox hgb hB3 hx0 hx1 hx2;have hcz0:w2.cell? ⟨gb,0,none⟩=some (.int .i64 0):=(blk_cell BK.out 0).trans rfl;have hcz1:w2.cell? ⟨gb,1,none⟩=some (.int .i64 0):=(blk_cell BK.out 1).trans rfl;have hcz2:w2.cell? ⟨gb,2,none⟩=some (.int .i64 0):=(blk_cell BK.out 2).trans rfl;have hfz0:=blk_frozen BK.out 0;have hfz1:=blk_frozen BK.out 1;have hfz2:=blk_frozen BK.out 2)
      |((with_reducible refine gate_store (t:=40) (p:=7) rfl ?_);refine store_event (t:=40) (p:=7) (v:=?vo_w3) (w1:=(((w2.setCell ⟨gb,0,none⟩ (.int .i64 y.f0)).setCell ⟨gb,1,none⟩ (.int .i64 y.f1)).setCell ⟨gb,2,none⟩ (.int .i64 y.f2))) ?hg ?ho ?hn ?hr ?_;(case ho=>rfl);(case hg=>rfl);(case hn=>rfl);(case hr=>exact hr_);intro w3 hw;have BK3:Aside0 (w3.heap[gb]? = some (.cells #[.int .i64 y.f0, .int .i64 y.f1, .int .i64 y.f2] 40 (0,0))):=⟨by rw[hw];exact(blk_set (blk_set (blk_set BK.out 0 _) 1 _) 2 _).trans rfl⟩;have n0_:=am_ (show Kd.R k40 40 w3 w1.heap.size (fun k=>True∧k≠gb) (.slice (some ⟨g,0,none⟩) xs.length c0) ys from by rw[hw];exact Kd.R_far (Kd.R_far (Kd.R_far HO.out (p:=⟨gb,0,none⟩) (fun k hk=>hk.2) _) (p:=⟨gb,1,none⟩) (fun k hk=>hk.2) _) (p:=⟨gb,2,none⟩) (fun k hk=>hk.2) _);have n1_:=am_ (show Below w1.heap.size w1 w3 from by rw[hw];exact below_set (below_set (below_set HB.out GB.out) GB.out) GB.out);have GW3:=am_ (show B<w3.heap.size from Nat.lt_of_lt_of_le hB n1_.out.size);clear HO HB BK GW;have HO:=n0_;have HB:=n1_;clear n0_ n1_ hw hcz0 hcz1 hcz2 hfz0 hfz1 hfz2;have hv0:w3.cell? ⟨gb,0,none⟩=some (.int .i64 y.f0):=(blk_cell BK3.out 0).trans rfl;have hv1:w3.cell? ⟨gb,1,none⟩=some (.int .i64 y.f1):=(blk_cell BK3.out 1).trans rfl;have hv2:w3.cell? ⟨gb,2,none⟩=some (.int .i64 y.f2):=(blk_cell BK3.out 2).trans rfl)
      |(go_at_call 94;refine(impl_sharedHoles.clo B A1 c1 l1 y true _ GW3.out (pw_cell_below HB.out HCB.out) (Kd.C_below HR1.out HB.out) HQ.out).mono ?_;rintro e w4 ⟨rfl,hb4⟩;have n0_:=am_ (Kd.R_below HO.out hb4);have n1_:=am_ (below_step HB.out hb4);clear HO HB;have HO:=n0_;have HB:=n1_;clear n0_ n1_ hb4 hv0 hv1 hv2))
     go_roundg (xs.length-(j+1))
     case measure=>omega
     case rel=>exact⟨i,j+1,ys,rfl,(a45_ HW1.out),by omega,by omega,Nat.le_refl _,hyl,⟨by rw[HYX.out,List.filter_append, ← HT.out];simp[HQ.out]⟩,HD1,⟨Kd.R_mono HO.out (fun _ _=>trivial)⟩,HB⟩
    | false=>
     have HQ:=am_ hq
     clear hq
     go_wp2_with (first
      |((with_reducible refine gate_dst (N:=7) rfl ?_);refine box_event ?hg (N:=7) ?hd (cs:= #[.int .i64 0, .int .i64 0, .int .i64 0]) (t:=40) ?hr ?_;(case hd=>rfl);(case hg=>rfl);(case hr=>exact hr_);intro gb hgb w2 hbox hb;have n0_:=am_ (Kd.R_below (Kd.R_elderB HO.out gb (Nat.le_of_eq hgb.symm)) hb);have n1_:=am_ (below_step HB.out hb);have BK:=am_ hbox;have GB:=am_ (show w1.heap.size≤gb by rw[hgb];exact HB.out.size);have GW:=am_ (show B<w2.heap.size from Nat.lt_of_lt_of_le hB3 hb.size);clear HO HB;have HO:=n0_;have HB:=n1_;clear n0_ n1_ hb hbox hgb hB3 hx0 hx1 hx2;have hcz0:w2.cell? ⟨gb,0,none⟩=some (.int .i64 0):=(blk_cell BK.out 0).trans rfl;have hcz1:w2.cell? ⟨gb,1,none⟩=some (.int .i64 0):=(blk_cell BK.out 1).trans rfl;have hcz2:w2.cell? ⟨gb,2,none⟩=some (.int .i64 0):=(blk_cell BK.out 2).trans rfl;have hfz0:=blk_frozen BK.out 0;have hfz1:=blk_frozen BK.out 1;have hfz2:=blk_frozen BK.out 2)
      |((with_reducible refine gate_store (t:=40) (p:=7) rfl ?_);refine store_event (t:=40) (p:=7) (v:=?vo_w3) (w1:=(((w2.setCell ⟨gb,0,none⟩ (.int .i64 y.f0)).setCell ⟨gb,1,none⟩ (.int .i64 y.f1)).setCell ⟨gb,2,none⟩ (.int .i64 y.f2))) ?hg ?ho ?hn ?hr ?_;(case ho=>rfl);(case hg=>rfl);(case hn=>rfl);(case hr=>exact hr_);intro w3 hw;have BK3:Aside0 (w3.heap[gb]? = some (.cells #[.int .i64 y.f0, .int .i64 y.f1, .int .i64 y.f2] 40 (0,0))):=⟨by rw[hw];exact(blk_set (blk_set (blk_set BK.out 0 _) 1 _) 2 _).trans rfl⟩;have n0_:=am_ (show Kd.R k40 40 w3 w1.heap.size (fun k=>True∧k≠gb) (.slice (some ⟨g,0,none⟩) xs.length c0) ys from by rw[hw];exact Kd.R_far (Kd.R_far (Kd.R_far HO.out (p:=⟨gb,0,none⟩) (fun k hk=>hk.2) _) (p:=⟨gb,1,none⟩) (fun k hk=>hk.2) _) (p:=⟨gb,2,none⟩) (fun k hk=>hk.2) _);have n1_:=am_ (show Below w1.heap.size w1 w3 from by rw[hw];exact below_set (below_set (below_set HB.out GB.out) GB.out) GB.out);have GW3:=am_ (show B<w3.heap.size from Nat.lt_of_lt_of_le hB n1_.out.size);clear HO HB BK GW;have HO:=n0_;have HB:=n1_;clear n0_ n1_ hw hcz0 hcz1 hcz2 hfz0 hfz1 hfz2;have hv0:w3.cell? ⟨gb,0,none⟩=some (.int .i64 y.f0):=(blk_cell BK3.out 0).trans rfl;have hv1:w3.cell? ⟨gb,1,none⟩=some (.int .i64 y.f1):=(blk_cell BK3.out 1).trans rfl;have hv2:w3.cell? ⟨gb,2,none⟩=some (.int .i64 y.f2):=(blk_cell BK3.out 2).trans rfl)
      |(go_at_call 94;refine(impl_sharedHoles.clo B A1 c1 l1 y false _ GW3.out (pw_cell_below HB.out HCB.out) (Kd.C_below HR1.out HB.out) HQ.out).mono ?_;rintro e w4 ⟨rfl,hb4⟩;have n0_:=am_ (Kd.R_below HO.out hb4);have n1_:=am_ (below_step HB.out hb4);clear HO HB;have HO:=n0_;have HB:=n1_;clear n0_ n1_;replace hv0:=pw_cell_below hb4 hv0;replace hv1:=pw_cell_below hb4 hv1;replace hv2:=pw_cell_below hb4 hv2;clear hb4;obtain⟨ce,hcl,hM,hcc,hfr⟩:=Kd.R_elem HO.out z40 (i:Int) (Int.natCast_nonneg i) hiz;obtain rfl:=k40_openM hM;have HP:=am_ (Kd.R_seg (Kd.R_mono HO.out (ok':=fun _=>True) (fun _ _=>trivial)) (i:Int) (Int.natCast_nonneg i) hiz (seg:=[.int .i64 y.f0, .int .i64 y.f1, .int .i64 y.f2]) (j:=0) hcl hcc (show 3≤3 from by decide) (x':=y) (okp:=fun k=>True∧k≠g) (k40_mkM _ _ _ y) (fun _ hk=>hk));have he0:=hcc 0 _ rfl;have he1:=hcc 1 _ rfl;have he2:=hcc 2 _ rfl;have hf0:=hfr 0;have hf1:=hfr 1;have hf2:=hfr 2;clear hcl hM hcc hfr;simp only[Int.toNat_natCast,show(k40).sz=3 from rfl,Nat.add_zero]at he0 he1 he2 hf0 hf1 hf2)
      |((with_reducible refine gate_store (t:=40) (p:=33) rfl ?_);refine store_event (t:=40) (p:=33) (v:=?vo_w5) (w1:=(((w4.setCell ⟨g,i*3,none⟩ (.int .i64 y.f0)).setCell ⟨g,i*3+1,none⟩ (.int .i64 y.f1)).setCell ⟨g,i*3+2,none⟩ (.int .i64 y.f2))) ?hg ?ho ?hn ?hr ?_;(case ho=>rfl);(case hg=>rfl);(case hn=>rfl);(case hr=>exact hr_);intro w5 hw;have n0_:=am_ (show Kd.R k40 40 w5 w1.heap.size (fun _=>True) (.slice (some ⟨g,0,none⟩) xs.length c0) (ys.set i y) from by rw[hw];exact HP.out.1);have n1_:=am_ (show Below w1.heap.size w1 w5 from by rw[hw];exact below_set (below_set (below_set HB.out hbase) hbase) hbase);clear HO HB HP;have HO:=n0_;have HB:=n1_;clear n0_ n1_ hw he0 he1 he2 hf0 hf1 hf2 hv0 hv1 hv2))
     go_roundg (xs.length-(j+1))
     case measure=>omega
     case rel=>exact⟨i+1,j+1,ys.set i y,(a45_ HW2.out),(a45_ HW1.out),by omega,by omega,Nat.le_refl _,by rw[List.length_set];exact hyl,⟨by rw[HYX.out,List.filter_append, ← HT.out,impl_sharedHoles.takeset ys i y (by omega)];simp[HQ.out]⟩,⟨by rw[List.drop_set_of_lt (by omega)];exact HD1.out⟩,HO,HB⟩
   ·obtain rfl:j=xs.length:=by omega
    have hltz:¬(xs.length:Int)<(xs.length:Int):=by omega
    have hn0:0<xs.length-i:=by omega
    have hic:i≤c0:=by omega
    have hicz:(i:Int)≤(c0:Int):=by omega
    have hinz:(i:Int)≤(xs.length:Int):=by omega
    have hne2:¬c0=i:=by omega
    obtain⟨cur,hcur,hcs⟩:∃cur,wr.heap[g]? = some (.cells cur 40 (0,0))∧cur.size=c0*3:=by
     obtain⟨_,inner,hown,_⟩:=HO.out
     rcases hown.2 with ⟨hv,_⟩ | ⟨g',cap',cur,hv,hb,hh,hnc,hcm,hcs,htake⟩
     ·cases hv
     injection hv with ha _ hc
     injection ha with ha
     injection ha with hg
     subst hg;subst hc
     exact⟨cur,hh,hcs⟩
    obtain⟨zs,hzl,hcl⟩:=impl_sharedHoles.clear wr g (i*3) (xs.length-i) (c0-i) hn0 (fun q hq=>by rw[blk_cell hcur,Array.getElem?_eq_getElem (by omega)];rfl) (fun q hq=>blk_frozen hcur _)
    have hz2:i*3+zs.length≤c0*3:=by omega
    have HX:=am_ (impl_sharedHoles.cut wr w1.heap.size g xs.length c0 i ys zs HO.out (by omega) hz2)
    have HBX:Aside0 (Below w1.heap.size w1 (wr.setCells g (i*3) zs)):=⟨by
     obtain⟨s1,s2,s3,s4⟩:=setCells_same g zs (i*3) wr
     exact pw_below_grown HB.out (some g) hsz ⟨s1,s2,s3,by rw[s4];exact Nat.le_refl _,fun k _ hk=>setCells_far _ _ k (fun he=>hk (by rw[he]))⟩ (fun k hk=>by injection hk with hk;rw[← hk];exact hbase)⟩
    have HTX:Aside0 (ys.take i=xs.filter fun x=> !impl_sharedHoles.out l1 x):=⟨by rw[HT.out,List.take_length]⟩
    clear HT HD hcur hcs hzl hz2
    go_wp2
    go_ret
    exact⟨_,rfl,by rw[← HTX.out];exact HX.out,HBX.out⟩
set_option maxHeartbeats 4000000 in
set_option maxRecDepth 100000 in
theorem impl_sharedHoles.calls (A0:Option Addr) (c0:Nat) (l0:List S40) (A1:Option Addr) (c1:Nat) (l1:List S40) (r:List S40) (w:World) (hr0:Kd.C k40 w A0 l0.length l0) (hc0:l0.length≤c0) (hr1:Kd.C k40 w A1 l1.length l1) (hc1:l1.length≤c1) (h:impl_sharedHoles.f l0 l1=some r) :
 Calls Tryz.prog 51 #[.slice A0 l0.length c0, .slice A1 l1.length c1] w fun e w'=>∃v0_:Value,e = .returned (v0_)∧Kd.R k40 40 w' w.heap.size (fun _=>True) v0_ r∧Below w.heap.size w w':=by
 unfold impl_sharedHoles.f at h
 by_cases hlen:l0.length<1000000000
 ·rw[if_pos hlen]at h
  obtain rfl:=Option.some.inj h
  have hcl:impl_Hole_91.f l0=some l0:=if_pos hlen
  clear h hlen
  have HR0:=am_ hr0
  have HR1:=am_ hr1
  have HC0:=am_ hc0
  have HCL:=am_ hcl
  clear hr0 hr1 hc0 hc1 hcl
  have HB:=am_ (Below.refl w.heap.size w)
  go_enter Tryz.func51,Tryz.ntmps51
  go_wp2_with (first
   |(go_at_call 91;refine(impl_Hole_91.calls A0 c0 l0 l0 _ (Kd.C_below HR0.out (below_alloc (Below.refl _ _) _)) HC0.out HCL.out).mono ?_;rintro e w2 ⟨v2,rfl,ho,hb⟩;have HO:=am_ ho;have HB2:=am_ hb;clear ho hb)
   |(go_at_call 90;refine(impl_sharedHoles.del w.heap.size A1 c1 l1 (w.alloc _) (by simp) (blk_cell (blk_new w _) 0) (Kd.C_below HR1.out (below_alloc (Below.refl _ _) _)) w2 v2 l0 HO.out HB2.out).mono ?_;rintro e w3 ⟨v3,rfl,ho,hb⟩;have HO3:=am_ ho;have HB3:=am_ hb;clear ho hb))
  go_ret
  exact⟨_,rfl,Kd.R_lower HO3.out (by simp),below_then (below_alloc (Below.refl _ _) _) (by simp) HB3.out⟩
 ·rw[if_neg hlen]at h
  exact absurd h (by simp)


/-! ### impl_SharedHoles: function 11 -/
def impl_SharedHoles.f (k:Nat) (l0:List (S40)) (l1:List (S40)):Option ((List (S40))×Bool):=(impl_IsSheet.f k l0).bind fun t429=>(if t429=true then((impl_IsSheet.f k l1).bind fun t430=>(if t430=true then((impl_sharedHoles.f l0 l1).bind fun t431=>(some (t431,true))) else(some (([]:List (S40)),false)))) else(some (([]:List (S40)),false)))
theorem impl_SharedHoles.mono:∀a0 a1 k,LeO (impl_SharedHoles.f k a0 a1) (impl_SharedHoles.f (k+1) a0 a1):=by
 intro a0 a1 k
 unfold impl_SharedHoles.f
 repeat' first
  |(with_reducible exact impl_IsSheet.mono _ _)
  |(with_reducible exact LeO.refl _)
  |(with_reducible exact LeO.none _)
  |(with_reducible refine LeO.ite ?_ ?_)
  |(with_reducible refine LeO.bind ?_ (fun _=>?_))
  |exact impl_IsSheet.mono _ _
  |exact LeO.none _
   | refine LeO.ite ?_ ?_
   | refine LeO.bind ?_ (fun _=>?_)
set_option maxHeartbeats 8000000 in
set_option maxRecDepth 100000 in
theorem impl_SharedHoles.calls (k:Nat) (A0:Option Addr) (c0:Nat) (l0:List (S40)) (A1:Option Addr) (c1:Nat) (l1:List (S40)) (r1:List (S40)) (r2:Bool) (w:World) (hr0:Kd.C k40 w A0 l0.length l0) (hc0:l0.length≤c0) (hr1:Kd.C k40 w A1 l1.length l1) (hc1:l1.length≤c1) (h:impl_SharedHoles.f k l0 l1=some (r1,r2)) :
 Calls Tryz.prog 11 #[.slice A0 l0.length c0, .slice A1 l1.length c1] w fun e w'=>∃v0_:Value,e = .returned (.tuple #[v0_, .bool r2])∧Kd.R k40 40 w' w.heap.size (fun _=>True) v0_ r1∧Below w.heap.size w w':=by
 have HR0:=am_ hr0
 have HC0:=am_ hc0
 clear hr0 hc0
 have HR1:=am_ hr1
 have HC1:=am_ hc1
 clear hr1 hc1
 have HB:=am_ (Below.refl w.heap.size w)
 have H:((impl_IsSheet.f k l0).bind fun t429=>(if t429=true then((impl_IsSheet.f k l1).bind fun t430=>(if t430=true then((impl_sharedHoles.f l0 l1).bind fun t431=>(some (t431,true))) else(some (([]:List (S40)),false)))) else(some (([]:List (S40)),false))))=some (r1,r2):=h
 clear h
 obtain⟨t429,A3,H⟩:=bo_ H
 try dsimp only at H
 by_cases c4:t429=true
 ·subst c4
  replace H:((impl_IsSheet.f k l1).bind fun t430=>(if t430=true then((impl_sharedHoles.f l0 l1).bind fun t431=>(some (t431,true))) else(some (([]:List (S40)),false))))=some (r1,r2):=by rw[if_pos rfl]at H;exact H
  obtain⟨t430,A5,H⟩:=bo_ H
  try dsimp only at H
  by_cases c6:t430=true
  ·subst c6
   replace H:((impl_sharedHoles.f l0 l1).bind fun t431=>(some (t431,true)))=some (r1,r2):=by rw[if_pos rfl]at H;exact H
   obtain⟨t431,A7,H⟩:=bo_ H
   try dsimp only at H
   simp only[Option.some.injEq,Prod.mk.injEq]at H
   obtain⟨rfl,rfl⟩:=H
   go_enter Tryz.func11,Tryz.ntmps11
   go_wp2_with (first|((with_reducible refine gate_callee (f:=45) rfl ?_);refine goesL_ (some 7) rfl rfl Tryz.func45 (by kernel_rfl) rfl #[.slice A0 l0.length c0] rfl gd_ ?_;(with_reducible refine(impl_IsSheet.calls k _ _ l0 true _ ?side1 ?side2 A3.out).mono ?_);(case side1=>exact(a15_ HR0.out));(case side2=>exact HC0.out);rintro e w8 ⟨rfl,hb⟩;refine⟨_,rfl,?_⟩;replace HB:=am_ (below_step (a1_) hb);(try clear hb);(try clear hb2);(try clear hk);(try clear hi))|(go_at_call 45;(with_reducible refine(impl_IsSheet.calls k _ _ l1 true _ ?side1 ?side2 A5.out).mono ?_);(case side1=>exact(a6_ HR1.out));(case side2=>exact HC1.out);rintro e w9 ⟨rfl,hb⟩;replace HB:=am_ (below_step (a1_) hb);(try clear hb);(try clear hb2);(try clear hk);(try clear hi))|((with_reducible refine gate_callee (f:=51) rfl ?_);refine goesL_ (some 16) rfl rfl Tryz.func51 (by kernel_rfl) rfl #[.slice A0 l0.length c0, .slice A1 l1.length c1] rfl gd_ ?_;(with_reducible refine(impl_sharedHoles.calls _ _ l0 _ _ l1 t431 _ ?side1 ?side2 ?side3 ?side4 A7.out).mono ?_);(case side1=>exact(a6_ HR0.out));(case side2=>exact HC0.out);(case side3=>exact(a6_ HR1.out));(case side4=>exact HC1.out);rintro e w10 ⟨v432,rfl,ho0,hb⟩;refine⟨_,rfl,?_⟩;have HO433:=am_ (Kd.R_lower ho0 (below_size (a1_)));replace HB:=am_ (below_step (a1_) hb);(try clear hb);(try clear hb2);(try clear hk);(try clear hi);(try clear ho0)))
   go_ret2
   exact⟨_,a10_,(a0_ HO433.out),a1_⟩
  ·replace c6:=Bool.eq_false_iff.mpr c6
   subst c6
   replace H:(some (([]:List (S40)),false))=some (r1,r2):=by rw[if_neg (show ¬(false=true) by decide)]at H;exact H
   simp only[Option.some.injEq,Prod.mk.injEq]at H
   obtain⟨rfl,rfl⟩:=H
   go_enter Tryz.func11,Tryz.ntmps11
   go_wp2_with (first|((with_reducible refine gate_callee (f:=45) rfl ?_);refine goesL_ (some 7) rfl rfl Tryz.func45 (by kernel_rfl) rfl #[.slice A0 l0.length c0] rfl gd_ ?_;(with_reducible refine(impl_IsSheet.calls k _ _ l0 true _ ?side1 ?side2 A3.out).mono ?_);(case side1=>exact(a15_ HR0.out));(case side2=>exact HC0.out);rintro e w11 ⟨rfl,hb⟩;refine⟨_,rfl,?_⟩;replace HB:=am_ (below_step (a1_) hb);(try clear hb);(try clear hb2);(try clear hk);(try clear hi))|(go_at_call 45;(with_reducible refine(impl_IsSheet.calls k _ _ l1 false _ ?side1 ?side2 A5.out).mono ?_);(case side1=>exact(a6_ HR1.out));(case side2=>exact HC1.out);rintro e w12 ⟨rfl,hb⟩;replace HB:=am_ (below_step (a1_) hb);(try clear hb);(try clear hb2);(try clear hk);(try clear hi)))
   go_ret2
   exact⟨_,a10_,a23_,a1_⟩
 ·replace c4:=Bool.eq_false_iff.mpr c4
  subst c4
  replace H:(some (([]:List (S40)),false))=some (r1,r2):=by rw[if_neg (show ¬(false=true) by decide)]at H;exact H
  simp only[Option.some.injEq,Prod.mk.injEq]at H
  obtain⟨rfl,rfl⟩:=H
  go_enter Tryz.func11,Tryz.ntmps11
  go_wp2_with (first|((with_reducible refine gate_callee (f:=45) rfl ?_);refine goesL_ (some 7) rfl rfl Tryz.func45 (by kernel_rfl) rfl #[.slice A0 l0.length c0] rfl gd_ ?_;(with_reducible refine(impl_IsSheet.calls k _ _ l0 false _ ?side1 ?side2 A3.out).mono ?_);(case side1=>exact(a15_ HR0.out));(case side2=>exact HC0.out);rintro e w13 ⟨rfl,hb⟩;refine⟨_,rfl,?_⟩;replace HB:=am_ (below_step (a1_) hb);(try clear hb);(try clear hb2);(try clear hk);(try clear hi)))
  go_ret2
  exact⟨_,a10_,a23_,a1_⟩

/-! ### spec_SharedHoles: function 12 -/
def spec_SharedHoles.f (k:Nat) (l0:List (S40)) (l1:List (S40)):Option ((List (S40))×Bool):=(spec_mgTwo.f k l0 l1).bind fun t434=>(if t434=true then((spec_mgLess.f k l0 l1).bind fun t435=>((spec_mgLess.f k l0 t435).bind fun t438=>(some (t438,true)))) else(some (([]:List (S40)),false)))
theorem spec_SharedHoles.mono:∀a0 a1 k,LeO (spec_SharedHoles.f k a0 a1) (spec_SharedHoles.f (k+1) a0 a1):=by
 intro a0 a1 k
 unfold spec_SharedHoles.f
 repeat' first
  |(with_reducible exact spec_mgLess.mono _ _ _)
  |(with_reducible exact spec_mgTwo.mono _ _ _)
  |(with_reducible exact LeO.refl _)
  |(with_reducible exact LeO.none _)
  |(with_reducible refine LeO.ite ?_ ?_)
  |(with_reducible refine LeO.bind ?_ (fun _=>?_))
  |exact spec_mgLess.mono _ _ _
  |exact spec_mgTwo.mono _ _ _
  |exact LeO.none _
   | refine LeO.ite ?_ ?_
   | refine LeO.bind ?_ (fun _=>?_)
set_option maxHeartbeats 8000000 in
set_option maxRecDepth 100000 in
theorem spec_SharedHoles.calls (k:Nat) (A0:Option Addr) (c0:Nat) (l0:List (S40)) (A1:Option Addr) (c1:Nat) (l1:List (S40)) (r1:List (S40)) (r2:Bool) (w:World) (hr0:Kd.C k40 w A0 l0.length l0) (hc0:l0.length≤c0) (hr1:Kd.C k40 w A1 l1.length l1) (hc1:l1.length≤c1) (h:spec_SharedHoles.f k l0 l1=some (r1,r2)) :
 Calls Tryz.prog 12 #[.slice A0 l0.length c0, .slice A1 l1.length c1] w fun e w'=>∃v0_:Value,e = .returned (.tuple #[v0_, .bool r2])∧Kd.R k40 40 w' w.heap.size (fun _=>True) v0_ r1∧Below w.heap.size w w':=by
 have HR0:=am_ hr0
 have HC0:=am_ hc0
 clear hr0 hc0
 have HR1:=am_ hr1
 have HC1:=am_ hc1
 clear hr1 hc1
 have HB:=am_ (Below.refl w.heap.size w)
 have H:((spec_mgTwo.f k l0 l1).bind fun t434=>(if t434=true then((spec_mgLess.f k l0 l1).bind fun t435=>((spec_mgLess.f k l0 t435).bind fun t438=>(some (t438,true)))) else(some (([]:List (S40)),false))))=some (r1,r2):=h
 clear h
 obtain⟨t434,A3,H⟩:=bo_ H
 try dsimp only at H
 by_cases c4:t434=true
 ·subst c4
  replace H:((spec_mgLess.f k l0 l1).bind fun t435=>((spec_mgLess.f k l0 t435).bind fun t438=>(some (t438,true))))=some (r1,r2):=by rw[if_pos rfl]at H;exact H
  obtain⟨t435,A5,H⟩:=bo_ H
  try dsimp only at H
  obtain⟨t438,A6,H⟩:=bo_ H
  try dsimp only at H
  simp only[Option.some.injEq,Prod.mk.injEq]at H
  obtain⟨rfl,rfl⟩:=H
  go_enter Tryz.func12,Tryz.ntmps12
  go_wp2_with (first|((with_reducible refine gate_callee (f:=47) rfl ?_);refine goesL_ (some 8) rfl rfl Tryz.func47 (by kernel_rfl) rfl #[.slice A0 l0.length c0, .slice A1 l1.length c1] rfl gd_ ?_;(with_reducible refine(spec_mgTwo.calls k _ _ l0 _ _ l1 true _ ?side1 ?side2 ?side3 ?side4 A3.out).mono ?_);(case side1=>exact(a15_ HR0.out));(case side2=>exact HC0.out);(case side3=>exact(a15_ HR1.out));(case side4=>exact HC1.out);rintro e w7 ⟨rfl,hb⟩;refine⟨_,rfl,?_⟩;replace HB:=am_ (below_step (a1_) hb);(try clear hb);(try clear hb2);(try clear hk);(try clear hi))|((with_reducible refine gate_callee (f:=48) rfl ?_);refine goesL_ (some 13) rfl rfl Tryz.func48 (by kernel_rfl) rfl #[.slice A0 l0.length c0, .slice A1 l1.length c1] rfl gd_ ?_;(with_reducible refine(spec_mgLess.calls k _ _ l0 _ _ l1 t435 _ ?side1 ?side2 ?side3 ?side4 A5.out).mono ?_);(case side1=>exact(a6_ HR0.out));(case side2=>exact HC0.out);(case side3=>exact(a6_ HR1.out));(case side4=>exact HC1.out);rintro e w8 ⟨v436,rfl,ho0,hb⟩;refine⟨_,rfl,?_⟩;have HO437:=am_ (Kd.R_lower ho0 (below_size (a1_)));replace HB:=am_ (below_step (a1_) hb);(try clear hb);(try clear hb2);(try clear hk);(try clear hi);(try clear ho0);obtain⟨Ao9,co9,eo9⟩:=Kd.R_slice HO437.out;subst eo9)|((with_reducible refine gate_callee (f:=48) rfl ?_);refine goesL_ (some 14) rfl rfl Tryz.func48 (by kernel_rfl) rfl #[.slice A0 l0.length c0, .slice Ao9 t435.length co9] rfl gd_ ?_;(with_reducible refine(spec_mgLess.calls k _ _ l0 _ _ t435 t438 _ ?side1 ?side2 ?side3 ?side4 A6.out).mono ?_);(case side1=>exact(a6_ HR0.out));(case side2=>exact HC0.out);(case side3=>exact(a8_ HO437.out));(case side4=>exact(Kd.R_reads' HO437.out).2.1);rintro e w10 ⟨v439,rfl,ho0,hb⟩;refine⟨_,rfl,?_⟩;have HO440:=am_ (Kd.R_lower (Kd.R_new' ho0 (Kd.R_lt ((a0_ HO437.out)))) (below_size (a1_)));replace HO437:=am_ (Kd.R_elder' ((a0_ HO437.out)) (Kd.R_base ho0) hb);replace HB:=am_ (below_step (a1_) hb);(try clear hb);(try clear hb2);(try clear hk);(try clear hi);(try clear ho0)))
  go_ret2
  exact⟨_,a10_,(a25_ HO440.out),a1_⟩
 ·replace c4:=Bool.eq_false_iff.mpr c4
  subst c4
  replace H:(some (([]:List (S40)),false))=some (r1,r2):=by rw[if_neg (show ¬(false=true) by decide)]at H;exact H
  simp only[Option.some.injEq,Prod.mk.injEq]at H
  obtain⟨rfl,rfl⟩:=H
  go_enter Tryz.func12,Tryz.ntmps12
  go_wp2_with (first|((with_reducible refine gate_callee (f:=47) rfl ?_);refine goesL_ (some 8) rfl rfl Tryz.func47 (by kernel_rfl) rfl #[.slice A0 l0.length c0, .slice A1 l1.length c1] rfl gd_ ?_;(with_reducible refine(spec_mgTwo.calls k _ _ l0 _ _ l1 false _ ?side1 ?side2 ?side3 ?side4 A3.out).mono ?_);(case side1=>exact(a15_ HR0.out));(case side2=>exact HC0.out);(case side3=>exact(a15_ HR1.out));(case side4=>exact HC1.out);rintro e w11 ⟨rfl,hb⟩;refine⟨_,rfl,?_⟩;replace HB:=am_ (below_step (a1_) hb);(try clear hb);(try clear hb2);(try clear hk);(try clear hi)))
  go_ret2
  exact⟨_,a10_,a23_,a1_⟩

-- NOT PRINTED: function 146 (cmp_isNaN_int)

-- NOT PRINTED: function 135 (cmp_Less_int)

-- NOT PRINTED: function 129 (slices_insertionSortOrdered_int)

-- NOT PRINTED: function 141 (slices_siftDownOrdered_int)

-- NOT PRINTED: function 130 (slices_heapSortOrdered_int)

-- NOT PRINTED: function 138 (bits_Len32)

-- NOT PRINTED: function 139 (bits_Len64)

-- NOT PRINTED: function 117 (bits_Len)

-- NOT PRINTED: function 142 (slices_nextPowerOfTwo)

-- NOT PRINTED: function 143 (slices_xorshift_Next)

-- NOT PRINTED: function 131 (slices_breakPatternsOrdered_int)

-- NOT PRINTED: function 148 (slices_order2Ordered_int)

-- NOT PRINTED: function 145 (slices_medianOrdered_int)

-- NOT PRINTED: function 144 (slices_medianAdjacentOrdered_int)

-- NOT PRINTED: function 132 (slices_choosePivotOrdered_int)

-- NOT PRINTED: function 133 (slices_reverseRangeOrdered_int)

-- NOT PRINTED: function 134 (slices_partialInsertionSortOrdered_int)

-- NOT PRINTED: function 136 (slices_partitionEqualOrdered_int)

-- NOT PRINTED: function 137 (slices_partitionOrdered_int)

-- NOT PRINTED: function 116 (slices_pdqsortOrdered_int)

-- NOT PRINTED: function 106 (slices_Sort_int_int)

-- NOT PRINTED: function 77 (sort_Ints)

/-! ### slices_Clone_int_int: function 110 (by hand: a copy of a slice) -/
def slices_Clone_int_int.f (l0:List Int):Option (List Int):=if l0.length<1000000000 then some l0 else none
theorem slices_Clone_int_int.info:(Tryz.prog.info? 3).map (fun i=>(i.zero,i.size,i.bytes))=some (some (.int .i64 0),1,8):=by kernel_rfl
set_option maxHeartbeats 8000000 in
set_option maxRecDepth 100000 in
theorem slices_Clone_int_int.calls (A0:Option Addr) (c0:Nat) (l0:List Int) (r:List Int) (w:World) (hr0:Kd.C (Kd.int .i64) w A0 l0.length l0) (hc0:l0.length≤c0) (h:slices_Clone_int_int.f l0=some r) :
 Calls Tryz.prog 110 #[.slice A0 l0.length c0] w fun e w'=>∃v0_:Value,e = .returned (v0_)∧Kd.R (Kd.int .i64) 3 w' w.heap.size (fun _=>True) v0_ r∧Below w.heap.size w w':=by
 unfold slices_Clone_int_int.f at h
 by_cases hlen:l0.length<1000000000
 ·rw[if_pos hlen]at h
  obtain rfl:=Option.some.inj h
  clear h
  cases A0 with
  | none=>
   have hz:l0 = []:=by
    rcases Nat.eq_zero_or_pos l0.length with h0 | h0
    ·exact List.eq_nil_of_length_eq_zero h0
    ·obtain⟨ad,e,_⟩:=hr0.2.2 h0
     cases e
   subst hz
   have hq:∀W:World,(binOp .eql 33 (.slice none 0 c0) (.slice none 0 0)).run Tryz.prog W = .ok (.bool true) W:=fun W=>Go.run_eql_slice_nil W 33 3 none 0 c0 Tryz.underlying33
   clear hr0 hc0 hlen
   go_enter Tryz.func110,Tryz.ntmps110
   go_wp2
   go_ret
   exact⟨_,rfl,Kd.R_nil _ _ _ _ _,Below.refl _ _⟩
  | some ad=>
   have hq:∀W:World,(binOp .eql 33 (.slice (some ad) l0.length c0) (.slice none 0 0)).run Tryz.prog W = .ok (.bool false) W:=fun W=>Go.run_eql_slice_nil W 33 3 (some ad) l0.length c0 Tryz.underlying33
   have HR0:=am_ hr0
   have HC0:=am_ hc0
   have HL:=am_ hlen
   clear hr0 hc0 hlen
   have HB:=am_ (Below.refl w.heap.size w)
   go_enter Tryz.func110,Tryz.ntmps110
   go_wp2_with (first|((with_reducible refine gate_dst (N:=5) rfl ?_);refine Kd.R_lit (Kd.int .i64) _ 3 ?hg (N:=5) ?hd (xs:=([]:List Int)) (inner:=[]) (ok:=fun _=>True) (okp:=fun _=>True) ?hr ?hp (fun _ hk=>hk) trivial (Below.refl _ _) (Nat.le_refl _) (by simp) ?_;(case hd=>rfl);(case hg=>rfl);(case hr=>exact hr_);(case hp=>exact(Reps.none _ _));intro v112 w3 ho4 hb hg_ hnew_;clear hg_ hnew_;have HO113:=am_ (Kd.R_lower ho4 (below_size (a1_)));replace HB:=am_ (below_step (a1_) hb);clear hb ho4)|((with_reducible refine gate_builtin (b:= .append) (xs:= #[.tmp 5, .tmp 6]) rfl ?_);at_builtin;refine Kd.R_append_rows (Kd.int .i64) (w0:=w) w.heap.size rfl (.tmp 5) (.tmp 6) 33 3 (.int .i64 0) 8 rfl Tryz.underlying33 slices_Clone_int_int.info rfl (by decide) (by omega) v112 [] l0 _ _ _ (fun _=>True) (fun _=>False) rfl rfl ?aO ?aR (fun _ _ h=>h) (fun _ h=>h.elim) ?aF ?aB ?aS ?aL ?_;(case aR=>exact(a6_ HR0.out));(case aB=>exact(a1_));(case aF=>exact(fun _ _=>trivial));(case aO=>exact((a0_ HO113.out)));(case aS=>exact(below_size (a1_)));(case aL=>have:=HL.out;simp only[List.length_nil];omega);intro v115 w5 ho hb hg hat;have n0_:=am_ (hb);have n1_:=am_ (ho);clear HB HO113;have HB:=n0_;have HO116:=n1_;clear n0_ n1_ ho hb hg hat))
   go_ret
   refine⟨_,rfl,?_,a1_⟩
   have HX:=HO116.out
   rw[List.nil_append]at HX
   exact(by(with_reducible repeat (first|apply Kd.R_alloc|apply Kd.R_drewN|apply Kd.R_drew));exact HX)
 ·rw[if_neg hlen]at h
  exact absurd h (by simp)


-- NOT PRINTED: function 111 (slices_Compact_int_int)

end Go.Proofs.YtplpjmhmochcfaaGreat.QFnDifferences
