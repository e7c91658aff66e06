/- Written by a program of this session (the kit's printer, with leaf contracts proved by hand put in): what each Go function computes, and that the call computes it. No condition but those that each theorem names. -/
import Derived.Test.YtplpjmhmochcfaaGreatQFnDifferencesx0
import Derived.Test.YtplpjmhmochcfaaGreatQFnDifferencesx2
import Derived.Test.YtplpjmhmochcfaaGreatQFnDifferencesx5
import Derived.Test.YtplpjmhmochcfaaGreatQFnDifferencesx6
import Derived.Test.YtplpjmhmochcfaaGreatQFnDifferencesx7
import Derived.Test.YtplpjmhmochcfaaGreatQFnDifferencesx8
import Derived.Test.YtplpjmhmochcfaaGreatQFnDifferencesx9
import Derived.Test.YtplpjmhmochcfaaGreatQFnDifferencesx12
namespace Go.Proofs.YtplpjmhmochcfaaGreat.QFnDifferences
open Go.RowKit Go.Proofs.YtplpjmhmochcfaaGreatW.PrintWords Go.Proofs.YtplpjmhmochcfaaGreatW.PrintLast Go.Proofs.YtplpjmhmochcfaaGreatW.PrintMore
attribute [local go_sem] max2_int min2_int max_two min_two max_three min_three max_four min_four   -- for this text's walks alone
set_option linter.unusedVariables false
set_option linter.unusedSimpArgs false

/-! ### impl_ApplyDifference: function 17 -/
def impl_ApplyDifference.j0:Nat→List (S40)→List (S40)→List (S40)→Bool→Option ((List (S40))×Bool)
 | 0,_,_,_,_=>none
 | k+1,x0,x1,x2,x28=>if x28=true then(some (([]:List (S40)),false)) else((impl_lessHoles.f x0 x1).bind fun t547=>((impl_lessHoles.f x2 t547).bind fun t550=>(if(t550.length:Int)<(x2.length:Int) then(some (([]:List (S40)),false)) else(if t547.length+x2.length<5864062014805 then((impl_sheetOf.f k (t547 ++ x2)).bind fun bt556=>(some (bt556.1,bt556.2))) else(none)))))
def impl_ApplyDifference.f (k:Nat) (l0:List (S40)) (l1:List (S40)) (l2:List (S40)):Option ((List (S40))×Bool):=(impl_IsSheet.f k l0).bind fun t541=>(if t541=true then((impl_IsSheet.f k l1).bind fun t542=>(if t542=true then((impl_IsSheet.f k l2).bind fun t543=>(if t543=true then((impl_lessHoles.f l1 l0).bind fun t544=>(impl_ApplyDifference.j0 k l0 l1 l2 (decide ((t544.length:Int)>0)))) else(impl_ApplyDifference.j0 k l0 l1 l2 true))) else(impl_ApplyDifference.j0 k l0 l1 l2 true))) else(impl_ApplyDifference.j0 k l0 l1 l2 true))
theorem impl_ApplyDifference.mono_l:∀k,(∀y0 y1 y2 y3,LeO (impl_ApplyDifference.j0 k y0 y1 y2 y3) (impl_ApplyDifference.j0 (k+1) y0 y1 y2 y3))
 | 0=>fun _ _ _ _ r h=>by simp[impl_ApplyDifference.j0]at h
 | k+1=>by
  have ih0:=impl_ApplyDifference.mono_l k
  intros
  unfold impl_ApplyDifference.j0
  rotate_left
  all_goals repeat' first|(with_reducible first|exact ih0 _ _ _ _|exact impl_IsSheet.mono _ _|exact impl_sheetOf.mono _ _|exact LeO.refl _|exact LeO.none _|refine LeO.ite ?_ ?_|refine LeO.bind ?_ (fun _=>?_))|exact ih0 _ _ _ _|exact impl_IsSheet.mono _ _|exact impl_sheetOf.mono _ _|exact LeO.none _|refine LeO.ite ?_ ?_|refine LeO.bind ?_ (fun _=>?_)
theorem impl_ApplyDifference.mono:∀a0 a1 a2 k,LeO (impl_ApplyDifference.f k a0 a1 a2) (impl_ApplyDifference.f (k+1) a0 a1 a2):=by
 intro a0 a1 a2 k
 have ih0:=impl_ApplyDifference.mono_l k
 unfold impl_ApplyDifference.f
 repeat' first
  |(with_reducible exact ih0 _ _ _ _)
  |(with_reducible exact impl_IsSheet.mono _ _)
  |(with_reducible exact impl_sheetOf.mono _ _)
  |(with_reducible exact LeO.refl _)
  |(with_reducible exact LeO.none _)
  |(with_reducible refine LeO.ite ?_ ?_)
  |(with_reducible refine LeO.bind ?_ (fun _=>?_))
  |exact ih0 _ _ _ _
  |exact impl_IsSheet.mono _ _
  |exact impl_sheetOf.mono _ _
  |exact LeO.none _
   | refine LeO.ite ?_ ?_
   | refine LeO.bind ?_ (fun _=>?_)
set_option maxHeartbeats 8000000 in
set_option maxRecDepth 100000 in
theorem impl_ApplyDifference.calls (k:Nat) (A0:Option Addr) (c0:Nat) (l0:List (S40)) (A1:Option Addr) (c1:Nat) (l1:List (S40)) (A2:Option Addr) (c2:Nat) (l2:List (S40)) (r1:List (S40)) (r2:Bool) (w:World) (hr0:Kd.C k40 w A0 l0.length l0) (hc0:l0.length≤c0) (hr1:Kd.C k40 w A1 l1.length l1) (hc1:l1.length≤c1) (hr2:Kd.C k40 w A2 l2.length l2) (hc2:l2.length≤c2) (h:impl_ApplyDifference.f k l0 l1 l2=some (r1,r2)) :
 Calls Tryz.prog 17 #[.slice A0 l0.length c0, .slice A1 l1.length c1, .slice A2 l2.length c2] w fun e w'=>∃v0_:Value,e = .returned (.tuple #[v0_, .bool r2])∧Kd.R k40 40 w' w.heap.size (fun _=>True) v0_ r1∧Below w.heap.size w w':=by
 have HR0:=am_ hr0
 have HC0:=am_ hc0
 clear hr0 hc0
 have HR1:=am_ hr1
 have HC1:=am_ hc1
 clear hr1 hc1
 have HR2:=am_ hr2
 have HC2:=am_ hc2
 clear hr2 hc2
 have HB:=am_ (Below.refl w.heap.size w)
 have H:((impl_IsSheet.f k l0).bind fun t541=>(if t541=true then((impl_IsSheet.f k l1).bind fun t542=>(if t542=true then((impl_IsSheet.f k l2).bind fun t543=>(if t543=true then((impl_lessHoles.f l1 l0).bind fun t544=>(impl_ApplyDifference.j0 k l0 l1 l2 (decide ((t544.length:Int)>0)))) else(impl_ApplyDifference.j0 k l0 l1 l2 true))) else(impl_ApplyDifference.j0 k l0 l1 l2 true))) else(impl_ApplyDifference.j0 k l0 l1 l2 true)))=some (r1,r2):=h
 clear h
 have HC4:=am_ H
 clear H
 go_enter Tryz.func17,Tryz.ntmps17
 go_upto_region 1 with (fail)
 go_cut [28] (fun v28 wc=>∃(kq:Nat) (x28_3:Bool),v28 = .bool x28_3∧Aside0 (impl_ApplyDifference.j0 kq l0 l1 l2 x28_3=some (r1,r2))∧Aside0 (kq≤k)∧Aside0 (Below w.heap.size w wc))
 case first=>
  have H:=HC4.out
  clear HC4
  obtain⟨t541,A5,H⟩:=bo_ H
  try dsimp only at H
  by_cases c6:t541=true
  ·subst c6
   replace H:((impl_IsSheet.f k l1).bind fun t542=>(if t542=true then((impl_IsSheet.f k l2).bind fun t543=>(if t543=true then((impl_lessHoles.f l1 l0).bind fun t544=>(impl_ApplyDifference.j0 k l0 l1 l2 (decide ((t544.length:Int)>0)))) else(impl_ApplyDifference.j0 k l0 l1 l2 true))) else(impl_ApplyDifference.j0 k l0 l1 l2 true)))=some (r1,r2):=by rw[if_pos rfl]at H;exact H
   obtain⟨t542,A7,H⟩:=bo_ H
   try dsimp only at H
   by_cases c8:t542=true
   ·subst c8
    replace H:((impl_IsSheet.f k l2).bind fun t543=>(if t543=true then((impl_lessHoles.f l1 l0).bind fun t544=>(impl_ApplyDifference.j0 k l0 l1 l2 (decide ((t544.length:Int)>0)))) else(impl_ApplyDifference.j0 k l0 l1 l2 true)))=some (r1,r2):=by rw[if_pos rfl]at H;exact H
    obtain⟨t543,A9,H⟩:=bo_ H
    try dsimp only at H
    by_cases c10:t543=true
    ·subst c10
     replace H:((impl_lessHoles.f l1 l0).bind fun t544=>(impl_ApplyDifference.j0 k l0 l1 l2 (decide ((t544.length:Int)>0))))=some (r1,r2):=by rw[if_pos rfl]at H;exact H
     obtain⟨t544,A11,H⟩:=bo_ H
     try dsimp only at H
     have H':=am_ H
     clear H
     go_wp2_with (first|((with_reducible refine gate_callee (f:=45) rfl ?_);refine goesL_ (some 10) rfl rfl Tryz.func45 (by kernel_rfl) rfl #[.slice A0 l0.length c0] rfl gd_ ?_;(with_reducible refine(impl_IsSheet.calls k _ _ l0 true _ ?side1 ?side2 A5.out).mono ?_);(case side1=>exact(a6_ HR0.out));(case side2=>exact HC0.out);rintro e w12 ⟨rfl,hb⟩;refine⟨_,rfl,?_⟩;replace HB:=am_ (below_step (a1_) hb);(try clear hb);(try clear hb2);(try clear hk);(try clear hi))|(go_at_call 45;(with_reducible refine(impl_IsSheet.calls k _ _ l1 true _ ?side1 ?side2 A7.out).mono ?_);(case side1=>exact(a6_ HR1.out));(case side2=>exact HC1.out);rintro e w13 ⟨rfl,hb⟩;replace HB:=am_ (below_step (a1_) hb);(try clear hb);(try clear hb2);(try clear hk);(try clear hi))|(go_at_call 45;(with_reducible refine(impl_IsSheet.calls k _ _ l2 true _ ?side1 ?side2 A9.out).mono ?_);(case side1=>exact(a6_ HR2.out));(case side2=>exact HC2.out);rintro e w14 ⟨rfl,hb⟩;replace HB:=am_ (below_step (a1_) hb);(try clear hb);(try clear hb2);(try clear hk);(try clear hi))|(go_at_call 46;(with_reducible refine(impl_lessHoles.calls _ _ l1 _ _ l0 t544 _ ?side1 ?side2 ?side3 ?side4 A11.out).mono ?_);(case side1=>exact(a6_ HR1.out));(case side2=>exact HC1.out);(case side3=>exact(a6_ HR0.out));(case side4=>exact HC0.out);rintro e w15 ⟨v545,rfl,ho0,hb⟩;have HO546:=am_ (Kd.R_lower ho0 (below_size (a1_)));replace HB:=am_ (below_step (a1_) hb);(try clear hb);(try clear hb2);(try clear hk);(try clear hi);(try clear ho0);obtain⟨Ao16,co16,eo16⟩:=Kd.R_slice HO546.out;subst eo16))
     go_meet
     case rel=>exact⟨_,(decide ((t544.length:Int)>0)),(by first | rfl|(simp;done)|(simp[*];done)),H',⟨by first | omega|exact Nat.le_refl _⟩,⟨a1_⟩⟩
    ·replace c10:=Bool.eq_false_iff.mpr c10
     subst c10
     replace H:(impl_ApplyDifference.j0 k l0 l1 l2 true)=some (r1,r2):=by rw[if_neg (show ¬(false=true) by decide)]at H;exact H
     have H':=am_ H
     clear H
     go_wp2_with (first|((with_reducible refine gate_callee (f:=45) rfl ?_);refine goesL_ (some 10) rfl rfl Tryz.func45 (by kernel_rfl) rfl #[.slice A0 l0.length c0] rfl gd_ ?_;(with_reducible refine(impl_IsSheet.calls k _ _ l0 true _ ?side1 ?side2 A5.out).mono ?_);(case side1=>exact(a6_ HR0.out));(case side2=>exact HC0.out);rintro e w17 ⟨rfl,hb⟩;refine⟨_,rfl,?_⟩;replace HB:=am_ (below_step (a1_) hb);(try clear hb);(try clear hb2);(try clear hk);(try clear hi))|(go_at_call 45;(with_reducible refine(impl_IsSheet.calls k _ _ l1 true _ ?side1 ?side2 A7.out).mono ?_);(case side1=>exact(a6_ HR1.out));(case side2=>exact HC1.out);rintro e w18 ⟨rfl,hb⟩;replace HB:=am_ (below_step (a1_) hb);(try clear hb);(try clear hb2);(try clear hk);(try clear hi))|(go_at_call 45;(with_reducible refine(impl_IsSheet.calls k _ _ l2 false _ ?side1 ?side2 A9.out).mono ?_);(case side1=>exact(a6_ HR2.out));(case side2=>exact HC2.out);rintro e w19 ⟨rfl,hb⟩;replace HB:=am_ (below_step (a1_) hb);(try clear hb);(try clear hb2);(try clear hk);(try clear hi)))
     go_meet
     case rel=>exact⟨_,(true),(by first | rfl|(simp;done)|(simp[*];done)),H',⟨by first | omega|exact Nat.le_refl _⟩,⟨a1_⟩⟩
   ·replace c8:=Bool.eq_false_iff.mpr c8
    subst c8
    replace H:(impl_ApplyDifference.j0 k l0 l1 l2 true)=some (r1,r2):=by rw[if_neg (show ¬(false=true) by decide)]at H;exact H
    have H':=am_ H
    clear H
    go_wp2_with (first|((with_reducible refine gate_callee (f:=45) rfl ?_);refine goesL_ (some 10) rfl rfl Tryz.func45 (by kernel_rfl) rfl #[.slice A0 l0.length c0] rfl gd_ ?_;(with_reducible refine(impl_IsSheet.calls k _ _ l0 true _ ?side1 ?side2 A5.out).mono ?_);(case side1=>exact(a6_ HR0.out));(case side2=>exact HC0.out);rintro e w20 ⟨rfl,hb⟩;refine⟨_,rfl,?_⟩;replace HB:=am_ (below_step (a1_) hb);(try clear hb);(try clear hb2);(try clear hk);(try clear hi))|(go_at_call 45;(with_reducible refine(impl_IsSheet.calls k _ _ l1 false _ ?side1 ?side2 A7.out).mono ?_);(case side1=>exact(a6_ HR1.out));(case side2=>exact HC1.out);rintro e w21 ⟨rfl,hb⟩;replace HB:=am_ (below_step (a1_) hb);(try clear hb);(try clear hb2);(try clear hk);(try clear hi)))
    go_meet
    case rel=>exact⟨_,(true),(by first | rfl|(simp;done)|(simp[*];done)),H',⟨by first | omega|exact Nat.le_refl _⟩,⟨a1_⟩⟩
  ·replace c6:=Bool.eq_false_iff.mpr c6
   subst c6
   replace H:(impl_ApplyDifference.j0 k l0 l1 l2 true)=some (r1,r2):=by rw[if_neg (show ¬(false=true) by decide)]at H;exact H
   have H':=am_ H
   clear H
   go_wp2_with (first|((with_reducible refine gate_callee (f:=45) rfl ?_);refine goesL_ (some 10) rfl rfl Tryz.func45 (by kernel_rfl) rfl #[.slice A0 l0.length c0] rfl gd_ ?_;(with_reducible refine(impl_IsSheet.calls k _ _ l0 false _ ?side1 ?side2 A5.out).mono ?_);(case side1=>exact(a6_ HR0.out));(case side2=>exact HC0.out);rintro e w22 ⟨rfl,hb⟩;refine⟨_,rfl,?_⟩;replace HB:=am_ (below_step (a1_) hb);(try clear hb);(try clear hb2);(try clear hk);(try clear hi)))
   go_meet
   case rel=>exact⟨_,(true),(by first | rfl|(simp;done)|(simp[*];done)),H',⟨by first | omega|exact Nat.le_refl _⟩,⟨a1_⟩⟩
 case rest=>
  clear HC4
  try clear c1
  try clear c2
  try clear p2
  try clear c4
  try clear c6
  try clear c8
  try clear c10
  try clear c17
  obtain⟨kq,x28_3,rfl,HA,HJ3,HB⟩:=hcut
  cases kq with
  | zero=>exact absurd HA.out (by simp[impl_ApplyDifference.j0])
  | succ kj3=>
   have H:=HA.out
   clear HA
   simp only[impl_ApplyDifference.j0]at H
   by_cases c23:x28_3=true
   ·subst c23
    replace H:(some (([]:List (S40)),false))=some (r1,r2):=by rw[if_pos rfl]at H;exact H
    simp only[Option.some.injEq,Prod.mk.injEq]at H
    obtain⟨rfl,rfl⟩:=H
    go_wp2
    go_ret2
    exact⟨_,a10_,a23_,a1_⟩
   ·replace c23:=Bool.eq_false_iff.mpr c23
    subst c23
    replace H:((impl_lessHoles.f l0 l1).bind fun t547=>((impl_lessHoles.f l2 t547).bind fun t550=>(if(t550.length:Int)<(l2.length:Int) then(some (([]:List (S40)),false)) else(if t547.length+l2.length<5864062014805 then((impl_sheetOf.f kj3 (t547 ++ l2)).bind fun bt556=>(some (bt556.1,bt556.2))) else(none)))))=some (r1,r2):=by rw[if_neg (show ¬(false=true) by decide)]at H;exact H
    obtain⟨t547,A24,H⟩:=bo_ H
    try dsimp only at H
    obtain⟨t550,A25,H⟩:=bo_ H
    try dsimp only at H
    by_cases c26:(t550.length:Int)<(l2.length:Int)
    ·rw[if_pos c26]at H
     have c26b0:decide ((t550.length:Int)<(l2.length:Int))=true:=decide_eq_true c26
     have c26b1:decide (t550.length<l2.length)=true:=decide_eq_true (Int.ofNat_lt.mp c26)
     clear c26
     simp only[Option.some.injEq,Prod.mk.injEq]at H
     obtain⟨rfl,rfl⟩:=H
     go_wp2_with (first|((with_reducible refine gate_callee (f:=46) rfl ?_);refine goesL_ (some 31) rfl rfl Tryz.func46 (by kernel_rfl) rfl #[.slice A0 l0.length c0, .slice A1 l1.length c1] rfl gd_ ?_;(with_reducible refine(impl_lessHoles.calls _ _ l0 _ _ l1 t547 _ ?side1 ?side2 ?side3 ?side4 A24.out).mono ?_);(case side1=>exact(a6_ HR0.out));(case side2=>exact HC0.out);(case side3=>exact(a6_ HR1.out));(case side4=>exact HC1.out);rintro e w27 ⟨v548,rfl,ho0,hb⟩;refine⟨_,rfl,?_⟩;have HO549:=am_ (Kd.R_lower ho0 (below_size (a1_)));replace HB:=am_ (below_step (a1_) hb);(try clear hb);(try clear hb2);(try clear hk);(try clear hi);(try clear ho0);obtain⟨Ao28,co28,eo28⟩:=Kd.R_slice HO549.out;subst eo28)|((with_reducible refine gate_callee (f:=46) rfl ?_);refine goesL_ (some 34) rfl rfl Tryz.func46 (by kernel_rfl) rfl #[.slice A2 l2.length c2, .slice Ao28 t547.length co28] rfl gd_ ?_;(with_reducible refine(impl_lessHoles.calls _ _ l2 _ _ t547 t550 _ ?side1 ?side2 ?side3 ?side4 A25.out).mono ?_);(case side1=>exact(a6_ HR2.out));(case side2=>exact HC2.out);(case side3=>exact(a8_ HO549.out));(case side4=>exact(Kd.R_reads' HO549.out).2.1);rintro e w29 ⟨v551,rfl,ho0,hb⟩;refine⟨_,rfl,?_⟩;have HO552:=am_ (Kd.R_lower (Kd.R_new' ho0 (Kd.R_lt ((a0_ HO549.out)))) (below_size (a1_)));replace HO549:=am_ (Kd.R_elder' ((a0_ HO549.out)) (Kd.R_base ho0) hb);replace HB:=am_ (below_step (a1_) hb);(try clear hb);(try clear hb2);(try clear hk);(try clear hi);(try clear ho0);obtain⟨Ao30,co30,eo30⟩:=Kd.R_slice HO552.out;subst eo30))
     go_ret2
     exact⟨_,a10_,a23_,a1_⟩
    ·rw[if_neg c26]at H
     have c26b0:decide ((t550.length:Int)<(l2.length:Int))=false:=decide_eq_false c26
     have c26b1:decide (t550.length<l2.length)=false:=decide_eq_false (fun h=>c26 (Int.ofNat_lt.mpr h))
     clear c26
     by_cases c31:t547.length+l2.length<5864062014805
     ·rw[if_pos c31]at H
      have LMc31:=am_ c31
      clear c31
      obtain⟨y553,hy553⟩:∃y_:List (S40),y_=(t547 ++ l2):=⟨_,rfl⟩
      replace H:((impl_sheetOf.f kj3 y553).bind fun bt556=>(some (bt556.1,bt556.2)))=some (r1,r2):=by first|(rw[hy553];with_reducible exact H)|(have H2_:=(Option.bind_some _ _).symm.trans H;rw[hy553];with_reducible exact H2_)|(have H2_:=(Option.bind_some _ _).symm.trans H;with_reducible exact H2_) | with_reducible exact H|(rw[hy553];exact H)|exact H
      have Ny553:=am_ hy553
      clear hy553
      obtain⟨⟨t556,t557⟩,A32,H⟩:=bo_ H
      try dsimp only at H
      simp only[Option.some.injEq,Prod.mk.injEq]at H
      obtain⟨rfl,rfl⟩:=H
      go_wp2_with (first|((with_reducible refine gate_callee (f:=46) rfl ?_);refine goesL_ (some 31) rfl rfl Tryz.func46 (by kernel_rfl) rfl #[.slice A0 l0.length c0, .slice A1 l1.length c1] rfl gd_ ?_;(with_reducible refine(impl_lessHoles.calls _ _ l0 _ _ l1 t547 _ ?side1 ?side2 ?side3 ?side4 A24.out).mono ?_);(case side1=>exact(a6_ HR0.out));(case side2=>exact HC0.out);(case side3=>exact(a6_ HR1.out));(case side4=>exact HC1.out);rintro e w33 ⟨v548,rfl,ho0,hb⟩;refine⟨_,rfl,?_⟩;have HO549:=am_ (Kd.R_lower ho0 (below_size (a1_)));replace HB:=am_ (below_step (a1_) hb);(try clear hb);(try clear hb2);(try clear hk);(try clear hi);(try clear ho0);obtain⟨Ao34,co34,eo34⟩:=Kd.R_slice HO549.out;subst eo34)|((with_reducible refine gate_callee (f:=46) rfl ?_);refine goesL_ (some 34) rfl rfl Tryz.func46 (by kernel_rfl) rfl #[.slice A2 l2.length c2, .slice Ao34 t547.length co34] rfl gd_ ?_;(with_reducible refine(impl_lessHoles.calls _ _ l2 _ _ t547 t550 _ ?side1 ?side2 ?side3 ?side4 A25.out).mono ?_);(case side1=>exact(a6_ HR2.out));(case side2=>exact HC2.out);(case side3=>exact(a8_ HO549.out));(case side4=>exact(Kd.R_reads' HO549.out).2.1);rintro e w35 ⟨v551,rfl,ho0,hb⟩;refine⟨_,rfl,?_⟩;have HO552:=am_ (Kd.R_lower (Kd.R_new' ho0 (Kd.R_lt ((a0_ HO549.out)))) (below_size (a1_)));replace HO549:=am_ (Kd.R_elder' ((a0_ HO549.out)) (Kd.R_base ho0) hb);replace HB:=am_ (below_step (a1_) hb);(try clear hb);(try clear hb2);(try clear hk);(try clear hi);(try clear ho0);obtain⟨Ao36,co36,eo36⟩:=Kd.R_slice HO552.out;subst eo36)|((with_reducible refine gate_builtin (b:= .append) (xs:= #[.tmp 39, .tmp 40]) rfl ?_);(try(refine gate_guard (by rfl) ?_;dsimp only));at_builtin;refine Kd.R_append_rows k40 (w0:=w) w.heap.size rfl (.tmp 39) (.tmp 40) 24 40 (.agg #[(.int .i64 0),(.int .i64 0),(.int .i64 0)]) 24 rfl Tryz.underlying24 info40 rfl (by decide) (by omega) (.slice Ao34 t547.length co34) t547 l2 _ _ _ (fun k_=>some k_≠(.slice Ao36 t550.length co36:Value).ownBlock) (fun _=>False) rfl rfl ?aO ?aR (fun _ _ h=>h) (fun _ h=>h.elim) ?aF ?aB ?aS ?aL ?_;(case aR=>exact(a6_ HR2.out));(case aB=>exact(a1_));(case aF=>exact(fun k_ hk=>Kd.fresh' (Kd.R_lt ((a0_ HO552.out))) k_ hk));(case aO=>exact((a31_ HO549.out)));(case aS=>exact(below_size (a1_)));(case aL=>have:=LMc31.out;omega);intro v554 w37 ho hb hg hat;rw[← Ny553.out]at ho;have n0_:=am_ (Kd.R_after (ok:=(fun _=>True)) ((a0_ HO552.out)) hg hat);have n1_:=am_ (hb);have n2_:=am_ (ho);clear HO552 HB HO549;have HO552:=n0_;have HB:=n1_;have HO555:=n2_;clear n0_ n1_ n2_ ho hb hg hat;obtain⟨Ao38,co38,eo38⟩:=Kd.R_slice HO555.out;subst eo38)|((with_reducible refine gate_callee (f:=54) rfl ?_);refine goesL_ (some 42) rfl rfl Tryz.func54 (by kernel_rfl) rfl #[.slice Ao38 y553.length co38] rfl gd_ ?_;(with_reducible refine(impl_sheetOf.calls kj3 _ _ y553 t556 t557 _ ?side1 ?side2 A32.out).mono ?_);(case side1=>exact(a8_ HO555.out));(case side2=>exact(Kd.R_reads' HO555.out).2.1);rintro e w39 ⟨v558,rfl,ho0,hb⟩;refine⟨_,rfl,?_⟩;have HO559:=am_ (Kd.R_lower (Kd.R_new' (Kd.R_new' ho0 (Kd.R_lt ((a0_ HO552.out)))) (Kd.R_lt ((a0_ HO555.out)))) (below_size (a1_)));replace HO552:=am_ (Kd.R_elder' ((a0_ HO552.out)) (Kd.R_base ho0) hb);replace HO555:=am_ (Kd.R_elder' ((a0_ HO555.out)) (Kd.R_base ho0) hb);replace HB:=am_ (below_step (a1_) hb);(try clear hb);(try clear hb2);(try clear hk);(try clear hi);(try clear ho0)))
      go_ret2
      exact⟨_,a10_,(a25_ HO559.out),a1_⟩
     ·rw[if_neg c31]at H
      exact absurd H (by simp)

/-! ### laws_pIn: function 18 -/
def laws_pIn.l0:Nat→Int→List Int→Int→Int→Option (Bool)
 | 0,_,_,_,_=>none
 | k+1,x1,x7,x8,x9=>if x9<x8 then(if 0≤x9 then(if x9<(x7.length:Int) then(if(rd x7 x9)=x1 then(some true) else(laws_pIn.l0 k x1 x7 x8 (wrap64 (x9+1)))) else(none)) else(none)) else(some false)
def laws_pIn.f (k:Nat) (l0:List Int) (a1:Int):Option (Bool):=laws_pIn.l0 k a1 l0 (l0.length:Int) 0
theorem laws_pIn.mono_l:∀k,(∀y0 y1 y2 y3,LeO (laws_pIn.l0 k y0 y1 y2 y3) (laws_pIn.l0 (k+1) y0 y1 y2 y3))
 | 0=>fun _ _ _ _ r h=>by simp[laws_pIn.l0]at h
 | k+1=>by
  have ih0:=laws_pIn.mono_l k
  intros
  unfold laws_pIn.l0
  rotate_left
  all_goals repeat' first|(with_reducible first|exact ih0 _ _ _ _|exact LeO.refl _|exact LeO.none _|refine LeO.ite ?_ ?_|refine LeO.bind ?_ (fun _=>?_))|exact ih0 _ _ _ _|exact LeO.none _|refine LeO.ite ?_ ?_|refine LeO.bind ?_ (fun _=>?_)
theorem laws_pIn.mono:∀a0 a1 k,LeO (laws_pIn.f k a0 a1) (laws_pIn.f (k+1) a0 a1):=by
 intro a0 a1 k
 have ih0:=laws_pIn.mono_l k
 unfold laws_pIn.f
 repeat' first
  |(with_reducible exact ih0 _ _ _ _)
  |(with_reducible exact LeO.refl _)
  |(with_reducible exact LeO.none _)
  |(with_reducible refine LeO.ite ?_ ?_)
  |(with_reducible refine LeO.bind ?_ (fun _=>?_))
  |exact ih0 _ _ _ _
  |exact LeO.none _
   | refine LeO.ite ?_ ?_
   | refine LeO.bind ?_ (fun _=>?_)
set_option maxHeartbeats 8000000 in
set_option maxRecDepth 100000 in
theorem laws_pIn.calls (k:Nat) (A0:Option Addr) (c0:Nat) (l0:List Int) (a1:Int) (r:Bool) (w:World) (hr0:Kd.C (Kd.int .i64) w A0 l0.length l0) (hc0:l0.length≤c0) (h:laws_pIn.f k l0 a1=some r) :
 Calls Tryz.prog 18 #[.slice A0 l0.length c0, .int .i64 a1] w fun e w'=>e = .returned (.bool r)∧Drawn0 w w':=by
 have HR0:=am_ hr0
 have HC0:=am_ hc0
 clear hr0 hc0
 have H:(laws_pIn.l0 k a1 l0 (l0.length:Int) 0)=some r:=h
 clear h
 have H':=am_ H
 clear H
 go_enter Tryz.func18,Tryz.ntmps18
 go_wp2
 (try simp only[Act.put,List.setIfInBounds_toArray,List.set_cons_zero,List.set_cons_succ])
 go_loopg [9] k (fun kq v9 w'=>∃(x9_1:Int),v9 = .int .i64 x9_1∧Aside0 (laws_pIn.l0 kq a1 l0 (l0.length:Int) x9_1=some r)∧Aside0 (kq≤k)∧Drawn0 w w')
 case atStart=>exact⟨(0),(by first | rfl|(simp;done)|(simp[*];done)),H',⟨Nat.le_refl _⟩,a38_⟩
 case round=>
  clear H'
  try clear c1
  try clear p2
  obtain⟨x9_1,rfl,HA,HK1,⟨m1,rfl⟩⟩:=hrel
  cases gk with
  | zero=>exact absurd HA.out (by simp[laws_pIn.l0])
  | succ k1=>
   have H:=HA.out
   clear HA
   simp only[laws_pIn.l0]at H
   by_cases c3:x9_1<(l0.length:Int)
   ·rw[if_pos c3]at H
    have c3b0:decide (x9_1<(l0.length:Int))=true:=decide_eq_true c3
    clear c3
    by_cases c4:0≤x9_1
    ·rw[if_pos c4]at H
     have c4b0:decide (0≤x9_1)=true:=decide_eq_true c4
     clear c4
     by_cases c5:x9_1<(l0.length:Int)
     ·rw[if_pos c5]at H
      have c5b0:decide (x9_1<(l0.length:Int))=true:=decide_eq_true c5
      clear c5
      by_cases c6:(rd l0 x9_1)=a1
      ·rw[if_pos c6]at H
       have c6b0:((rd l0 x9_1) == a1)=true:=beq_iff_eq.mpr c6
       have c6b1:((rd l0 x9_1) != a1)=false:=bne_eq_false_iff_eq.mpr c6
       clear c6
       obtain rfl:=Option.some.inj H
       have p560:0≤(x9_1:Int):=of_decide_eq_true (a12_)
       have q560:x9_1<(l0.length:Int):=of_decide_eq_true (a12_)
       obtain⟨ad560,e560,hx560_0⟩:=Kd.at_int HR0.out x9_1 p560 q560
       cases e560
       replace p560:=eq_true p560
       replace q560:=eq_true q560
       go_wp2
       go_ret
       exact⟨by first | rfl|(simp;done)|(simp[*];done),a38_⟩
      ·rw[if_neg c6]at H
       have c6b0:((rd l0 x9_1) == a1)=false:=beq_eq_false_iff_ne.mpr c6
       have c6b1:((rd l0 x9_1) != a1)=true:=bne_iff_ne.mpr c6
       have H':=am_ H
       clear H
       have p560:0≤(x9_1:Int):=of_decide_eq_true (a12_)
       have q560:x9_1<(l0.length:Int):=of_decide_eq_true (a12_)
       obtain⟨ad560,e560,hx560_0⟩:=Kd.at_int HR0.out x9_1 p560 q560
       cases e560
       replace p560:=eq_true p560
       replace q560:=eq_true q560
       go_wp2
       go_roundg k1
       case measure=>have:=HK1.out;omega
       case rel=>exact⟨(wrap64 (x9_1+1)),(by first | rfl|(simp;done)|(simp[*];done)),H',⟨by have:=HK1.out;omega⟩,a38_⟩
     ·rw[if_neg c5]at H
      exact absurd H (by simp)
    ·rw[if_neg c4]at H
     exact absurd H (by simp)
   ·rw[if_neg c3]at H
    have c3b0:decide (x9_1<(l0.length:Int))=false:=decide_eq_false c3
    clear c3
    obtain rfl:=Option.some.inj H
    go_wp2
    go_ret
    exact⟨by first | rfl|(simp;done)|(simp[*];done),a38_⟩

/-! ### spec_DrawNearestSheet: function 19 -/
mutual
def spec_DrawNearestSheet.j0:Nat→List (S40)→List (List (S40))→Int→List Int→Int→Int→Option ((List (S40))×(List (List (S40))))
 | 0,_,_,_,_,_,_=>none
 | k+1,x5,x6,x7,x562000,x562001,x562002=>spec_DrawNearestSheet.l0 k x5 x6 x7 x562000 x562001 x562002
def spec_DrawNearestSheet.l0:Nat→List (S40)→List (List (S40))→Int→List Int→Int→Int→Option ((List (S40))×(List (List (S40))))
 | 0,_,_,_,_,_,_=>none
 | k+1,x5,x6,x7,x562000,x562001,x562002=>if(x6.length:Int)<x7 then((spec_l1Cur_changed.f k x562000 x562001 x562002 x5).bind fun bt579=>(if x6.length<5864062014805 then(spec_DrawNearestSheet.l0 k x5 (x6 ++ [bt579.1]) x7 x562000 bt579.2.1 bt579.2.2) else(none))) else(if x7>0 then((spec_l1Cur_one.f x562000 x562001 x562002 16).bind fun bt587=>(if bt587.1=true then((spec_l1Cur_anySheet.f k x562000 bt587.2.1 bt587.2.2).bind fun bt590=>(if 0<(x6.length:Int) then(some (x5,(x6.set (0:Int).toNat bt590.1))) else(none))) else(some (x5,x6)))) else(some (x5,x6)))
end
def spec_DrawNearestSheet.f (k:Nat) (l0:List Int):Option ((List (S40))×(List (List (S40)))):=(spec_l1Cur_anySheet.f k l0 0 0).bind fun bt562=>((spec_l1Cur_pick.f l0 bt562.2.1 bt562.2.2 4).bind fun bt567=>((spec_l1Cur_one.f l0 bt567.2.1 bt567.2.2 16).bind fun bt570=>(if bt570.1=true then((spec_l1Cur_among.f l0 bt570.2.1 bt570.2.2 (([0,8,9]:List Int))).bind fun bt576=>(spec_DrawNearestSheet.j0 k bt562.1 ([]:List (List (S40))) bt576.1 l0 bt576.2.1 bt576.2.2)) else(spec_DrawNearestSheet.j0 k bt562.1 ([]:List (List (S40))) (wrap64 (1+bt567.1)) l0 bt570.2.1 bt570.2.2))))
theorem spec_DrawNearestSheet.mono_l:∀k,(∀y0 y1 y2 y3 y4 y5,LeO (spec_DrawNearestSheet.j0 k y0 y1 y2 y3 y4 y5) (spec_DrawNearestSheet.j0 (k+1) y0 y1 y2 y3 y4 y5))∧(∀y0 y1 y2 y3 y4 y5,LeO (spec_DrawNearestSheet.l0 k y0 y1 y2 y3 y4 y5) (spec_DrawNearestSheet.l0 (k+1) y0 y1 y2 y3 y4 y5))
 | 0=>⟨fun _ _ _ _ _ _ r h=>by simp[spec_DrawNearestSheet.j0]at h,fun _ _ _ _ _ _ r h=>by simp[spec_DrawNearestSheet.l0]at h⟩
 | k+1=>by
  obtain⟨ih0,ih1⟩:=spec_DrawNearestSheet.mono_l k
  refine⟨?_,?_⟩
  intros
  unfold spec_DrawNearestSheet.j0
  rotate_left
  intros
  unfold spec_DrawNearestSheet.l0
  rotate_left
  all_goals repeat' first|(with_reducible first|exact ih0 _ _ _ _ _ _|exact ih1 _ _ _ _ _ _|exact spec_l1Cur_anySheet.mono _ _ _ _|exact spec_l1Cur_changed.mono _ _ _ _ _|exact LeO.refl _|exact LeO.none _|refine LeO.ite ?_ ?_|refine LeO.bind ?_ (fun _=>?_))|exact ih0 _ _ _ _ _ _|exact ih1 _ _ _ _ _ _|exact spec_l1Cur_anySheet.mono _ _ _ _|exact spec_l1Cur_changed.mono _ _ _ _ _|exact LeO.none _|refine LeO.ite ?_ ?_|refine LeO.bind ?_ (fun _=>?_)
theorem spec_DrawNearestSheet.mono:∀a0 k,LeO (spec_DrawNearestSheet.f k a0) (spec_DrawNearestSheet.f (k+1) a0):=by
 intro a0 k
 obtain⟨ih0,ih1⟩:=spec_DrawNearestSheet.mono_l k
 unfold spec_DrawNearestSheet.f
 repeat' first
  |(with_reducible exact ih0 _ _ _ _ _ _)
  |(with_reducible exact ih1 _ _ _ _ _ _)
  |(with_reducible exact spec_l1Cur_anySheet.mono _ _ _ _)
  |(with_reducible exact spec_l1Cur_changed.mono _ _ _ _ _)
  |(with_reducible exact LeO.refl _)
  |(with_reducible exact LeO.none _)
  |(with_reducible refine LeO.ite ?_ ?_)
  |(with_reducible refine LeO.bind ?_ (fun _=>?_))
  |exact ih0 _ _ _ _ _ _
  |exact ih1 _ _ _ _ _ _
  |exact spec_l1Cur_anySheet.mono _ _ _ _
  |exact spec_l1Cur_changed.mono _ _ _ _ _
  |exact LeO.none _
   | refine LeO.ite ?_ ?_
   | refine LeO.bind ?_ (fun _=>?_)
set_option maxHeartbeats 8000000 in
set_option maxRecDepth 100000 in
theorem spec_DrawNearestSheet.calls (k:Nat) (A0:Option Addr) (c0:Nat) (l0:List Int) (r1:List (S40)) (r2:List (List (S40))) (w:World) (hr0:Kd.C (Kd.int .u8) w A0 l0.length l0) (hc0:l0.length≤c0) (h:spec_DrawNearestSheet.f k l0=some (r1,r2)) :
 Calls Tryz.prog 19 #[.slice A0 l0.length c0] w fun e w'=>∃v0_ v1_:Value,e = .returned (.tuple #[v0_,v1_])∧Kd.R k40 40 w' w.heap.size (fun _=>True) v0_ r1∧Kd.S (Kd.slice 40 k40) 24 w' w.heap.size (fun k_=>some k_≠(v0_:Value).ownBlock) v1_ r2∧Below w.heap.size w w':=by
 have hu69:=Tryz.underlying69
 have HR0:=am_ hr0
 have HC0:=am_ hc0
 clear hr0 hc0
 have HB:=am_ (Below.refl w.heap.size w)
 have H:((spec_l1Cur_anySheet.f k l0 0 0).bind fun bt562=>((spec_l1Cur_pick.f l0 bt562.2.1 bt562.2.2 4).bind fun bt567=>((spec_l1Cur_one.f l0 bt567.2.1 bt567.2.2 16).bind fun bt570=>(if bt570.1=true then((spec_l1Cur_among.f l0 bt570.2.1 bt570.2.2 (([0,8,9]:List Int))).bind fun bt576=>(spec_DrawNearestSheet.j0 k bt562.1 ([]:List (List (S40))) bt576.1 l0 bt576.2.1 bt576.2.2)) else(spec_DrawNearestSheet.j0 k bt562.1 ([]:List (List (S40))) (wrap64 (1+bt567.1)) l0 bt570.2.1 bt570.2.2)))))=some (r1,r2):=h
 clear h
 obtain⟨⟨t562,t565,t566⟩,A2,H⟩:=bo_ H
 try dsimp only at H
 obtain⟨⟨t567,t568,t569⟩,A3,H⟩:=bo_ H
 try dsimp only at H
 obtain⟨⟨t570,t571,t572⟩,A4,H⟩:=bo_ H
 try dsimp only at H
 have HC5:=am_ H
 clear H
 go_enter Tryz.func19,Tryz.ntmps19
 go_upto_if 17 with (first|((with_reducible refine gate_dst (N:=10) rfl ?_);refine box_event ?hg (N:=10) ?hd (cs:= #[.slice A0 l0.length c0, .int .i64 0, .int .u64 0]) (t:=69) ?hr ?_;(case hd=>rfl);(case hg=>rfl);(case hr=>exact hr_);intro g561 hg w6 hbox hb;have HI561:=am_ ((⟨_,_,hbox,by rw[hg];exact(below_size (a1_)),HR0.out⟩:IsS69 w w6 g561 l0 0 0));replace HB:=am_ (below_step (a1_) hb);clear hb hbox hg)|((with_reducible refine gate_callee (f:=42) rfl ?_);refine goesL_ (some 12) rfl rfl Tryz.func42 (by kernel_rfl) rfl #[.pointer (some ⟨g561,0,none⟩)] rfl gd_ ?_;(with_reducible refine(spec_l1Cur_anySheet.calls k g561 l0 0 0 t562 t565 t566 w _ ?side1 ?side2 A2.out).mono ?_);(case side1=>exact(a2_ HI561.out));(case side2=>exact(a3_ HI561.out));rintro e w7 ⟨v563,rfl,ho0,hi,hb,hk⟩;refine⟨_,rfl,?_⟩;have HO564:=am_ (Kd.R_lower ho0 (below_size ((a3_ HI561.out))));replace HB:=am_ (hb);replace HI561:=am_ (hi);(try clear hb);(try clear hb2);(try clear hk);(try clear hi);(try clear ho0))|((with_reducible refine gate_callee (f:=55) rfl ?_);refine goesL_ (some 14) rfl rfl Tryz.func55 (by kernel_rfl) rfl #[.pointer (some ⟨g561,0,none⟩), .int .i64 4] rfl gd_ ?_;(with_reducible refine(spec_l1Cur_pick.calls g561 l0 t565 t566 4 t567 t568 t569 w _ ?side1 ?side2 A3.out).mono ?_);(case side1=>exact(a2_ HI561.out));(case side2=>exact(a3_ HI561.out));rintro e w8 ⟨rfl,hi,hb,hk⟩;refine⟨_,rfl,?_⟩;replace HO564:=am_ (Kd.R_mono (Kd.R_keep (IsS69.apart (show IsS69 w _ g561 l0 t565 t566 from(a2_ HI561.out)) ((a0_ HO564.out)) (by decide)) hk (fun _ h=>h.2)) (fun _ h=>h.1));replace HB:=am_ (hb);replace HI561:=am_ (hi);(try clear hb);(try clear hb2);(try clear hk);(try clear hi))|((with_reducible refine gate_callee (f:=43) rfl ?_);refine goesL_ (some 17) rfl rfl Tryz.func43 (by kernel_rfl) rfl #[.pointer (some ⟨g561,0,none⟩), .int .i64 16] rfl gd_ ?_;(with_reducible refine(spec_l1Cur_one.calls g561 l0 t568 t569 16 t570 t571 t572 w _ ?side1 ?side2 A4.out).mono ?_);(case side1=>exact(a2_ HI561.out));(case side2=>exact(a3_ HI561.out));rintro e w9 ⟨rfl,hi,hb,hk⟩;refine⟨_,rfl,?_⟩;replace HO564:=am_ (Kd.R_mono (Kd.R_keep (IsS69.apart (show IsS69 w _ g561 l0 t568 t569 from(a2_ HI561.out)) ((a0_ HO564.out)) (by decide)) hk (fun _ h=>h.2)) (fun _ h=>h.1));replace HB:=am_ (hb);replace HI561:=am_ (hi);(try clear hb);(try clear hb2);(try clear hk);(try clear hi)))
 (try simp only[Act.put,List.setIfInBounds_toArray,List.set_cons_zero,List.set_cons_succ])
 go_cut [7] (fun v7 wc=>∃(kq:Nat) (x7_4:Int) (x562001_4:Int) (x562002_4:Int),v7 = .int .i64 x7_4∧Aside0 (spec_DrawNearestSheet.j0 kq t562 ([]:List (List (S40))) x7_4 l0 x562001_4 x562002_4=some (r1,r2))∧Aside0 (kq≤k)∧Aside0 (Kd.R k40 40 wc w.heap.size (fun _=>True) v563 t562)∧Aside0 (Kd.S (Kd.slice 40 k40) 24 wc w.heap.size (fun k_=>some k_≠(v563:Value).ownBlock) (.slice none 0 0) ([]:List (List (S40))))∧Aside0 (IsS69 w wc g561 l0 x562001_4 x562002_4)∧Aside0 (Below w.heap.size w wc))
 case first=>
  have H:=HC5.out
  clear HC5
  by_cases c10:t570=true
  ·subst c10
   replace H:((spec_l1Cur_among.f l0 t571 t572 (([0,8,9]:List Int))).bind fun bt576=>(spec_DrawNearestSheet.j0 k t562 ([]:List (List (S40))) bt576.1 l0 bt576.2.1 bt576.2.2))=some (r1,r2):=by rw[if_pos rfl]at H;exact H
   obtain⟨y573,hy573⟩:∃y_:List Int,y_=(([0,8,9]:List Int)):=⟨_,rfl⟩
   replace H:((spec_l1Cur_among.f l0 t571 t572 y573).bind fun bt576=>(spec_DrawNearestSheet.j0 k t562 ([]:List (List (S40))) bt576.1 l0 bt576.2.1 bt576.2.2))=some (r1,r2):=by first|(rw[hy573];with_reducible exact H)|(have H2_:=(Option.bind_some _ _).symm.trans H;rw[hy573];with_reducible exact H2_)|(have H2_:=(Option.bind_some _ _).symm.trans H;with_reducible exact H2_) | with_reducible exact H|(rw[hy573];exact H)|exact H
   have Ny573:=am_ hy573
   clear hy573
   obtain⟨⟨t576,t577,t578⟩,A11,H⟩:=bo_ H
   try dsimp only at H
   have H':=am_ H
   clear H
   go_wp2_with (first|((with_reducible refine gate_dst (N:=19) rfl ?_);refine Kd.R_lit (Kd.int .i64) _ 3 ?hg (N:=19) ?hd (xs:=([0,8,9]:List Int)) (inner:=[.int .i64 0, .int .i64 8, .int .i64 9]) (ok:=fun _=>True) (okp:=fun _=>True) ?hr ?hp (fun _ hk=>hk) trivial (Below.refl _ _) (Nat.le_refl _) (by simp) ?_;(case hd=>rfl);(case hg=>rfl);(case hr=>exact hr_);(case hp=>exact(Reps.one (show Kd.M (Kd.int .i64) _ _ _ 0 [.int .i64 0] from rfl) (Reps.one (show Kd.M (Kd.int .i64) _ _ _ 8 [.int .i64 8] from rfl) (Reps.one (show Kd.M (Kd.int .i64) _ _ _ 9 [.int .i64 9] from rfl) (Reps.none _ _)))));intro v574 w12 ho13 hb hg_ hnew_;clear hg_ hnew_;(first|rw[← Ny573.out]at ho13|(simp only[Int.reduceToNat]at ho13;rw[← Ny573.out]at ho13));replace HO564:=am_ (Kd.R_below ((a0_ HO564.out)) hb);have HO575:=am_ (Kd.R_lower ho13 (below_size ((a3_ HI561.out))));replace HB:=am_ (below_step ((a3_ HI561.out)) hb);replace HI561:=am_ (IsS69.below ((a2_ HI561.out)) hb);clear hb ho13;obtain⟨Ao14,co14,eo14⟩:=Kd.R_slice HO575.out;subst eo14)|((with_reducible refine gate_callee (f:=56) rfl ?_);refine goesL_ (some 20) rfl rfl Tryz.func56 (by kernel_rfl) rfl #[.pointer (some ⟨g561,0,none⟩), .slice Ao14 y573.length co14] rfl gd_ ?_;(with_reducible refine(spec_l1Cur_among.calls g561 l0 t571 t572 _ _ y573 t576 t577 t578 w _ ?side1 ?side2 ?side3 ?side4 ?side5 A11.out).mono ?_);(case side1=>exact(a2_ HI561.out));(case side2=>exact(a3_ HI561.out));(case side3=>exact(a8_ HO575.out));(case side4=>exact(Kd.R_reads' HO575.out).2.1);(case side5=>exact far_slice (IsS69.own_ne HI561.out HO575.out (by decide)));rintro e w15 ⟨rfl,hi,hb,hk⟩;refine⟨_,rfl,?_⟩;replace HO564:=am_ (Kd.R_mono (Kd.R_keep (IsS69.apart (show IsS69 w _ g561 l0 t571 t572 from(a2_ HI561.out)) ((a0_ HO564.out)) (by decide)) hk (fun _ h=>h.2)) (fun _ h=>h.1));replace HO575:=am_ (Kd.R_mono (Kd.R_keep (IsS69.apart (show IsS69 w _ g561 l0 t571 t572 from(a2_ HI561.out)) ((a0_ HO575.out)) (by decide)) hk (fun _ h=>h.2)) (fun _ h=>h.1));replace HB:=am_ (hb);replace HI561:=am_ (hi);(try clear hb);(try clear hb2);(try clear hk);(try clear hi)))
   go_meet
   case rel=>exact⟨_,(t576),(t577),(t578),(by first | rfl|(simp;done)|(simp[*];done)),H',⟨by first | omega|exact Nat.le_refl _⟩,⟨(a0_ HO564.out)⟩,⟨by first|exact Kd.S_nil _ _ _ _ _|exact Kd.N_nil _ _ _ _ _|exact Kd.V_nil _ _ _ _ _|exact Kd.Q_nil _ _ _ _ _|exact Kd.R_nil _ _ _ _ _⟩,⟨(a2_ HI561.out)⟩,⟨(a3_ HI561.out)⟩⟩
  ·replace c10:=Bool.eq_false_iff.mpr c10
   subst c10
   replace H:(spec_DrawNearestSheet.j0 k t562 ([]:List (List (S40))) (wrap64 (1+t567)) l0 t571 t572)=some (r1,r2):=by rw[if_neg (show ¬(false=true) by decide)]at H;exact H
   have H':=am_ H
   clear H
   go_wp2
   go_meet
   case rel=>exact⟨_,(wrap64 (1+t567)),(t571),(t572),(by first | rfl|(simp;done)|(simp[*];done)),H',⟨by first | omega|exact Nat.le_refl _⟩,⟨(a0_ HO564.out)⟩,⟨by first|exact Kd.S_nil _ _ _ _ _|exact Kd.N_nil _ _ _ _ _|exact Kd.V_nil _ _ _ _ _|exact Kd.Q_nil _ _ _ _ _|exact Kd.R_nil _ _ _ _ _⟩,⟨(a2_ HI561.out)⟩,⟨(a3_ HI561.out)⟩⟩
 case rest=>
  clear HC5
  try clear c1
  try clear p2
  try clear c4
  try clear c5
  try clear p6
  try clear c10
  obtain⟨kq,x7_4,x562001_4,x562002_4,rfl,HA,HJ4,HO_5,HO_6,HI561,HB⟩:=hcut
  cases kq with
  | zero=>exact absurd HA.out (by simp[spec_DrawNearestSheet.j0])
  | succ kj4=>
   have H:=HA.out
   clear HA
   simp only[spec_DrawNearestSheet.j0]at H
   have H':=am_ H
   clear H
   go_wp2
   (try simp only[Act.put,List.setIfInBounds_toArray,List.set_cons_zero,List.set_cons_succ])
   go_loopg [6] kj4 (fun kq v6 w'=>∃(x6_2:List (List (S40))) (x562001_2:Int) (x562002_2:Int),Aside0 (spec_DrawNearestSheet.l0 kq t562 x6_2 x7_4 l0 x562001_2 x562002_2=some (r1,r2))∧Aside0 (kq≤kj4)∧Aside0 (Kd.R k40 40 w' w.heap.size (fun _=>True) v563 t562)∧Aside0 (Kd.S (Kd.slice 40 k40) 24 w' w.heap.size (fun k_=>some k_≠(v563:Value).ownBlock) v6 x6_2)∧Aside0 (IsS69 w w' g561 l0 x562001_2 x562002_2)∧Aside0 (Below w.heap.size w w'))
   case atStart=>exact⟨(([]:List (List (S40)))),(x562001_4),(x562002_4),H',⟨Nat.le_refl _⟩,⟨(a0_ HO_5.out)⟩,⟨(a29_ HO_6.out)⟩,⟨(a2_ HI561.out)⟩,⟨(a3_ HI561.out)⟩⟩
   case round=>
    clear H'
    try clear c1
    try clear p2
    try clear c4
    try clear c5
    try clear p6
    try clear c10
    try clear p2
    try clear p6
    obtain⟨x6_2,x562001_2,x562002_2,HA,HK2,HO_5,HO_6,HI561,HB⟩:=hrel
    cases gk with
    | zero=>exact absurd HA.out (by simp[spec_DrawNearestSheet.l0])
    | succ k2=>
     have H:=HA.out
     clear HA
     simp only[spec_DrawNearestSheet.l0]at H
     by_cases c16:(x6_2.length:Int)<x7_4
     ·rw[if_pos c16]at H
      have c16b0:decide ((x6_2.length:Int)<x7_4)=true:=decide_eq_true c16
      clear c16
      obtain⟨⟨t579,t582,t583⟩,A17,H⟩:=bo_ H
      try dsimp only at H
      by_cases c18:x6_2.length<5864062014805
      ·rw[if_pos c18]at H
       have LMc18:=am_ c18
       clear c18
       obtain⟨y584,hy584⟩:∃y_:List (List (S40)),y_=(x6_2 ++ [t579]):=⟨_,rfl⟩
       replace H:(spec_DrawNearestSheet.l0 k2 t562 y584 x7_4 l0 t582 t583)=some (r1,r2):=by first|(rw[hy584];with_reducible exact H)|(have H2_:=(Option.bind_some _ _).symm.trans H;rw[hy584];with_reducible exact H2_)|(have H2_:=(Option.bind_some _ _).symm.trans H;with_reducible exact H2_) | with_reducible exact H|(rw[hy584];exact H)|exact H
       have Ny584:=am_ hy584
       clear hy584
       have H':=am_ H
       clear H
       obtain⟨Ao19,co19,eo19⟩:=Kd.S_slice HO_6.out
       subst eo19
       obtain⟨Ao20,co20,eo20⟩:=Kd.R_slice HO_5.out
       subst eo20
       go_wp2_with (first|((with_reducible refine gate_callee (f:=44) rfl ?_);refine goesL_ (some 28) rfl rfl Tryz.func44 (by kernel_rfl) rfl #[.pointer (some ⟨g561,0,none⟩), .slice Ao20 t562.length co20] rfl gd_ ?_;(with_reducible refine(spec_l1Cur_changed.calls k2 g561 l0 x562001_2 x562002_2 _ _ t562 t579 t582 t583 w _ ?side1 ?side2 ?side3 ?side4 A17.out).mono ?_);(case side1=>exact(a2_ HI561.out));(case side2=>exact(a3_ HI561.out));(case side3=>exact Kd.C_foot_own (IsS69.apart (show IsS69 w _ g561 l0 x562001_2 x562002_2 from(a2_ HI561.out)) ((a0_ HO_5.out)) (by decide)) (fun _ h_=>h_.2));(case side4=>exact(Kd.R_reads' HO_5.out).2.1);rintro e w21 ⟨v580,rfl,ho0,hi,hb,hk⟩;refine⟨_,rfl,?_⟩;replace HO_6:=am_ (Kd.S_mono (Kd.S_told (Kd.S_oldK (IsS69.apartS (show IsS69 w _ g561 l0 x562001_2 x562002_2 from(a2_ HI561.out)) ((a29_ HO_6.out)) (by decide)) hk) (Kd.R_base ho0)) (fun _ h_=>h_.1));have HO581:=am_ (Kd.R_lower (Kd.R_new' ho0 (Kd.R_lt ((a0_ HO_5.out)))) (below_size ((a3_ HI561.out))));replace HO_5:=am_ (Kd.R_mono (Kd.R_told (Kd.R_oldK (IsS69.apart (show IsS69 w _ g561 l0 x562001_2 x562002_2 from(a2_ HI561.out)) ((a0_ HO_5.out)) (by decide)) hk) (Kd.R_base ho0)) (fun _ h_=>h_.1));replace HB:=am_ (hb);replace HI561:=am_ (hi);(try clear hb);(try clear hb2);(try clear hk);(try clear hi);(try clear ho0);obtain⟨Ao23,co23,eo23⟩:=Kd.R_slice HO581.out;subst eo23)|((with_reducible refine gate_builtin (b:= .append) (xs:= #[.tmp 25, .tmp 29]) rfl ?_);at_builtin;refine Kd.S_append (Kd.slice 40 k40) (w0:=w) w.heap.size rfl (.tmp 25) (.tmp 29) 42 24 (.slice none 0 0) 24 rfl Tryz.underlying42 info24 rfl (by decide) (by omega) (.slice Ao19 x6_2.length co19) x6_2 t579 [.slice Ao23 t579.length co23] (fun k_=>some k_≠(.slice Ao20 t562.length co20:Value).ownBlock) (fun k_=>some k_=(.slice Ao23 t579.length co23:Value).ownBlock) rfl rfl ?aP (fun k_ hk_=>((Kd.R_mono (ok':=fun k_=>((fun k_=>some k_≠(.slice Ao20 t562.length co20:Value).ownBlock)) k_∧some k_≠(.slice Ao19 x6_2.length co19:Value).ownBlock) (Kd.R_apart' (HO581.out) (Kd.S_typed HO_6.out) (by decide)) (fun k_ hk=>⟨hk.1.2,hk.2⟩))).1 k_ hk_.symm) ?aF ?aO ?aB ?aS ?aL ?_;(case aP=>exact Kd.M_row (Kd.R_mono (Kd.R_tight rfl (Kd.R_mono (ok':=fun k_=>((fun k_=>some k_≠(.slice Ao20 t562.length co20:Value).ownBlock)) k_∧some k_≠(.slice Ao19 x6_2.length co19:Value).ownBlock) (Kd.R_apart' (HO581.out) (Kd.S_typed HO_6.out) (by decide)) (fun k_ hk=>⟨hk.1.2,hk.2⟩))) (fun _ h_=>h_)));(case aB=>exact((a3_ HI561.out)));(case aF=>exact(fun k_ hk=>Kd.fresh' (Kd.R_lt ((a0_ HO_5.out))) k_ hk));(case aO=>exact(by(with_reducible repeat (first|apply Kd.S_alloc|apply Kd.S_drewN|apply Kd.S_drew));exact Kd.S_mono HO_6.out (fun k_ hk=>⟨hk.1,fun e_=>hk.2 e_⟩)));(case aS=>exact(below_size ((a3_ HI561.out))));(case aL=>have:=LMc18.out;omega);intro v585 w22 ho hb hg hat;rw[← Ny584.out]at ho;have n0_:=am_ (Kd.R_over' ((a0_ HO_5.out)) (Kd.S_typed ((a29_ HO_6.out))) (by decide) hg);have n1_:=am_ (IsS69.grown ((a2_ HI561.out)) hg (IsS69.own_neS HI561.out HO_6.out (by decide)));have n2_:=am_ (hb);have n3_:=am_ (ho);clear HO_5 HI561 HB HO_6 HO581;have HO_5:=n0_;have HI561:=n1_;have HB:=n2_;have HO586:=n3_;clear n0_ n1_ n2_ n3_ ho hb hg hat))
       go_roundg k2
       case measure=>have:=HJ4.out;have:=HK2.out;omega
       case rel=>exact⟨(y584),(t582),(t583),H',⟨by have:=HJ4.out;have:=HK2.out;omega⟩,⟨(a25_ HO_5.out)⟩,⟨(a29_ HO586.out)⟩,⟨(a2_ HI561.out)⟩,⟨(a3_ HI561.out)⟩⟩
      ·rw[if_neg c18]at H
       exact absurd H (by simp)
     ·rw[if_neg c16]at H
      have c16b0:decide ((x6_2.length:Int)<x7_4)=false:=decide_eq_false c16
      clear c16
      by_cases c24:x7_4>0
      ·rw[if_pos c24]at H
       have c24b0:decide (0<x7_4)=true:=decide_eq_true c24
       clear c24
       obtain⟨⟨t587,t588,t589⟩,A25,H⟩:=bo_ H
       try dsimp only at H
       by_cases c26:t587=true
       ·subst c26
        replace H:((spec_l1Cur_anySheet.f k2 l0 t588 t589).bind fun bt590=>(if 0<(x6_2.length:Int) then(some (t562,(x6_2.set (0:Int).toNat bt590.1))) else(none)))=some (r1,r2):=by rw[if_pos rfl]at H;exact H
        obtain⟨⟨t590,t593,t594⟩,A27,H⟩:=bo_ H
        try dsimp only at H
        by_cases c28:0<(x6_2.length:Int)
        ·rw[if_pos c28]at H
         have c28b0:decide (0<(x6_2.length:Int))=true:=decide_eq_true c28
         have c28b1:decide (0<x6_2.length)=true:=decide_eq_true (by omega)
         clear c28
         obtain⟨y595,hy595⟩:∃y_:List (List (S40)),y_=(x6_2.set (0:Int).toNat t590):=⟨_,rfl⟩
         replace H:(some (t562,y595))=some (r1,r2):=by first|(rw[hy595];with_reducible exact H)|(have H2_:=(Option.bind_some _ _).symm.trans H;rw[hy595];with_reducible exact H2_)|(have H2_:=(Option.bind_some _ _).symm.trans H;with_reducible exact H2_) | with_reducible exact H|(rw[hy595];exact H)|exact H
         have Ny595:=am_ hy595
         clear hy595
         simp only[Option.some.injEq,Prod.mk.injEq]at H
         obtain⟨rfl,rfl⟩:=H
         obtain⟨Ao30,co30,eo30⟩:=Kd.S_slice HO_6.out
         subst eo30
         go_wp2_with (first|(go_at_call 43;(with_reducible refine(spec_l1Cur_one.calls g561 l0 x562001_2 x562002_2 16 true t588 t589 w _ ?side1 ?side2 A25.out).mono ?_);(case side1=>exact(a2_ HI561.out));(case side2=>exact(a3_ HI561.out));rintro e w31 ⟨rfl,hi,hb,hk⟩;replace HO_5:=am_ (Kd.R_mono (Kd.R_keep (IsS69.apart (show IsS69 w _ g561 l0 x562001_2 x562002_2 from(a2_ HI561.out)) ((a0_ HO_5.out)) (by decide)) hk (fun _ h=>h.2)) (fun _ h=>h.1));replace HO_6:=am_ (Kd.S_mono (Kd.S_keep (IsS69.apartS (show IsS69 w _ g561 l0 x562001_2 x562002_2 from(a2_ HI561.out)) ((a29_ HO_6.out)) (by decide)) hk (fun _ h=>h.2)) (fun _ h=>h.1));replace HB:=am_ (hb);replace HI561:=am_ (hi);(try clear hb);(try clear hb2);(try clear hk);(try clear hi))|((with_reducible refine gate_callee (f:=42) rfl ?_);refine goesL_ (some 39) rfl rfl Tryz.func42 (by kernel_rfl) rfl #[.pointer (some ⟨g561,0,none⟩)] rfl gd_ ?_;(with_reducible refine(spec_l1Cur_anySheet.calls k2 g561 l0 t588 t589 t590 t593 t594 w _ ?side1 ?side2 A27.out).mono ?_);(case side1=>exact(a2_ HI561.out));(case side2=>exact(a3_ HI561.out));rintro e w32 ⟨v591,rfl,ho0,hi,hb,hk⟩;refine⟨_,rfl,?_⟩;replace HO_6:=am_ (Kd.S_mono (Kd.S_told (Kd.S_oldK (IsS69.apartS (show IsS69 w _ g561 l0 t588 t589 from(a2_ HI561.out)) ((a29_ HO_6.out)) (by decide)) hk) (Kd.R_base ho0)) (fun _ h_=>h_.1));have HO592:=am_ (Kd.R_lower (Kd.R_new' ho0 (Kd.R_lt ((a0_ HO_5.out)))) (below_size ((a3_ HI561.out))));replace HO_5:=am_ (Kd.R_mono (Kd.R_told (Kd.R_oldK (IsS69.apart (show IsS69 w _ g561 l0 t588 t589 from(a2_ HI561.out)) ((a0_ HO_5.out)) (by decide)) hk) (Kd.R_base ho0)) (fun _ h_=>h_.1));replace HB:=am_ (hb);replace HI561:=am_ (hi);(try clear hb);(try clear hb2);(try clear hk);(try clear hi);(try clear ho0);have p29:0≤(0:Int):=(by omega);have q29:(0:Int)<((x6_2.length:Int):Int):=of_decide_eq_true (a12_);have qi29:(0<x6_2.length)=True:=eq_true (by omega);obtain⟨go29,co29,eo29,gb29,gl29,cl29,HG29⟩:=Kd.S_form HO_6.out (by omega);(first|cases eo29|(injection eo29 with ea_ en_ ec_;(first|subst ea_|(injection ea_ with ea_;subst ea_));subst ec_;clear en_));have GB29:=am_ gb29;have GG29:=am_ HG29;clear gb29 gl29 HG29;obtain⟨_,ce29,hcl29,hM29,hcc29,hfr29,_,_⟩:=Kd.S_elem HO_6.out [] (0:Int) p29 q29;obtain⟨ve29_0,rfl,ge29_0⟩:=hM29;have hx29_0:=hcc29 0 _ rfl;have hf29_0:=hfr29 0;(try simp only[show((Kd.slice 40 k40)).sz=1 from rfl,Nat.mul_one,Nat.add_zero]at hx29_0);(try simp only[show((Kd.slice 40 k40)).sz=1 from rfl,Nat.mul_one,Nat.add_zero]at hf29_0);clear hcl29 hcc29 hfr29;(try clear hM29);(try rw[show((0:Int)).toNat=0 from rfl]at hx29_0);(try simp only[Nat.reduceMul,Nat.zero_mul,Nat.zero_add,Nat.reduceAdd]at hx29_0);(try rw[show((0:Int)).toNat=0 from rfl]at hf29_0);(try simp only[Nat.reduceMul,Nat.zero_mul,Nat.zero_add,Nat.reduceAdd]at hf29_0);replace p29:=eq_true p29;replace q29:=eq_true q29;have HX33:=am_ (show Kd.S (Kd.slice 40 k40) 24 w32 w.heap.size (fun k_=>((fun k_=>some k_≠(v563:Value).ownBlock)) k_∧¬((fun k_=>some k_=(v591:Value).ownBlock)) k_) (.slice (some ⟨go29,0,none⟩) x6_2.length co30) x6_2 from(by(with_reducible repeat (first|apply Kd.S_alloc|apply Kd.S_drewN|apply Kd.S_drew));exact Kd.S_mono HO_6.out (fun k_ hk=>⟨hk.1,fun e_=>hk.2 e_⟩)));obtain⟨oki33,ce33,hcl33,hM33,hcc33,hfr33,hoki33,hH33⟩:=Kd.S_elem HX33.out [] (0:Int) (by omega) (by have h_:(0:Int)<((x6_2.length:Int):Int):=of_decide_eq_true (a12_);first|exact h_|(have e_:=(Kd.S_reads' HO_6.out).1;omega) | simpa using h_);obtain⟨ve33_0,rfl,ge33_0⟩:=hM33;have HP33:=Kd.S_seg hH33 (by omega) (by have h_:(0:Int)<((x6_2.length:Int):Int):=of_decide_eq_true (a12_);first|exact h_|(have e_:=(Kd.S_reads' HO_6.out).1;omega) | simpa using h_) (seg:=[v591]) (j:=0) (show 1≤1 from by decide) (x':=t590) (Kd.M_row (Kd.R_mono (Kd.R_tight rfl (Kd.R_mono (ok':=fun k_=>((fun k_=>some k_≠(v563:Value).ownBlock)) k_∧k_≠go29) (Kd.R_apart' (HO592.out) (Kd.S_typed HO_6.out) (by decide)) (fun k_ hk=>⟨hk.1.2,fun e_=>(hk.2) (by rw[e_];rfl)⟩))) (fun _ h_=>Or.inr (h_)))) (fun _ hk=>hk) (fun k_ hk_=>((Kd.R_mono (ok':=fun k_=>((fun k_=>some k_≠(v563:Value).ownBlock)) k_∧k_≠go29) (Kd.R_apart' (HO592.out) (Kd.S_typed HO_6.out) (by decide)) (fun k_ hk=>⟨hk.1.2,fun e_=>(hk.2) (by rw[e_];rfl)⟩))).1 k_ hk_.symm);have hx33_0:=hcc33 0 _ rfl;(try simp only[show((Kd.slice 40 k40)).sz=1 from rfl,Nat.mul_one,Nat.add_zero]at hx33_0);(try rw[show((0:Int)).toNat=0 from rfl]at hx33_0);(try simp only[Nat.reduceMul,Nat.zero_mul,Nat.zero_add,Nat.reduceAdd]at hx33_0);have hf33_0:=hfr33 0;(try simp only[show((Kd.slice 40 k40)).sz=1 from rfl,Nat.mul_one,Nat.add_zero]at hf33_0);(try rw[show((0:Int)).toNat=0 from rfl]at hf33_0);(try simp only[Nat.reduceMul,Nat.zero_mul,Nat.zero_add,Nat.reduceAdd]at hf33_0);clear hcl33 hcc33 hfr33 hoki33 hH33;(try clear hM33);(try simp only[show((Kd.slice 40 k40)).sz=1 from rfl,Nat.mul_one,Nat.add_zero]at HP33))|((with_reducible refine gate_store (t:=24) (p:=40) rfl ?_);refine store_event (t:=24) (p:=40) (v:=?vo_w34) (w1:=(w32.setCell ⟨go29,0,none⟩ (v591))) ?hg ?ho ?hn ?hr ?_;(case ho=>rfl);(case hg=>rfl);(case hn=>rfl);(case hr=>first|(go_simp;done)|(go_simp;rfl)|(obtain⟨A_,c_,e_,_⟩:=Kd.R_reads HO592.out;subst e_;first|(go_simp;done)|(go_simp;rfl)));intro w34 hw;have hg:w32.grownBy w34 (some go29):=(by rw[hw];exact HP33.2);have hp_:Kd.S (Kd.slice 40 k40) 24 w34 w.heap.size (fun k_=>some k_≠(v563:Value).ownBlock) (.slice (some ⟨go29,0,none⟩) x6_2.length co30) y595:=(by rw[hw,Ny595.out];exact HP33.1);clear HP33;have n0_:=am_ (Kd.R_over' (v:=(.slice (some ⟨go29,0,none⟩) x6_2.length co30)) ((a0_ HO_5.out)) (Kd.S_typed HO_6.out) (by decide) hg);have n1_:=am_ (hp_);have n2_:=am_ (IsS69.grown ((a2_ HI561.out)) hg (IsS69.own_neS HI561.out HO_6.out (by decide)));have n3_:=am_ ((by rw[hw];exact below_set (HB.out) GB29.out:Below w.heap.size w w34));clear HO_5 HO_6 HI561 HB HO592;have HO_5:=n0_;have HO_6:=n1_;have HI561:=n2_;have HB:=n3_;clear n0_ n1_ n2_ n3_ hg hw hp_))
         go_ret2
         exact⟨_,_,a10_,(a25_ HO_5.out),(a29_ HO_6.out),(a3_ HI561.out)⟩
        ·rw[if_neg c28]at H
         exact absurd H (by simp)
       ·replace c26:=Bool.eq_false_iff.mpr c26
        subst c26
        replace H:(some (t562,x6_2))=some (r1,r2):=by rw[if_neg (show ¬(false=true) by decide)]at H;exact H
        simp only[Option.some.injEq,Prod.mk.injEq]at H
        obtain⟨rfl,rfl⟩:=H
        obtain⟨Ao35,co35,eo35⟩:=Kd.S_slice HO_6.out
        subst eo35
        go_wp2_with (first|(go_at_call 43;(with_reducible refine(spec_l1Cur_one.calls g561 l0 x562001_2 x562002_2 16 false t588 t589 w _ ?side1 ?side2 A25.out).mono ?_);(case side1=>exact(a2_ HI561.out));(case side2=>exact(a3_ HI561.out));rintro e w36 ⟨rfl,hi,hb,hk⟩;replace HO_5:=am_ (Kd.R_mono (Kd.R_keep (IsS69.apart (show IsS69 w _ g561 l0 x562001_2 x562002_2 from(a2_ HI561.out)) ((a0_ HO_5.out)) (by decide)) hk (fun _ h=>h.2)) (fun _ h=>h.1));replace HO_6:=am_ (Kd.S_mono (Kd.S_keep (IsS69.apartS (show IsS69 w _ g561 l0 x562001_2 x562002_2 from(a2_ HI561.out)) ((a29_ HO_6.out)) (by decide)) hk (fun _ h=>h.2)) (fun _ h=>h.1));replace HB:=am_ (hb);replace HI561:=am_ (hi);(try clear hb);(try clear hb2);(try clear hk);(try clear hi)))
        go_ret2
        exact⟨_,_,a10_,(a0_ HO_5.out),(a29_ HO_6.out),(a3_ HI561.out)⟩
      ·rw[if_neg c24]at H
       have c24b0:decide (0<x7_4)=false:=decide_eq_false c24
       clear c24
       simp only[Option.some.injEq,Prod.mk.injEq]at H
       obtain⟨rfl,rfl⟩:=H
       obtain⟨Ao37,co37,eo37⟩:=Kd.S_slice HO_6.out
       subst eo37
       go_wp2
       go_ret2
       exact⟨_,_,a10_,(a0_ HO_5.out),(a29_ HO_6.out),(a3_ HI561.out)⟩

/-! ### impl_areSheets: function 57 -/
def impl_areSheets.l0:Nat→List (List (S40))→Int→List (List (S40))→Int→Int→Option (Bool)
 | 0,_,_,_,_,_=>none
 | k+1,x0,x1,x7,x8,x9=>if x9<x8 then(if 0≤x9 then(if x9<(x7.length:Int) then((impl_IsSheet.f k (rd_L3 x7 x9)).bind fun t597=>(if t597=true then(impl_areSheets.l0 k x0 x1 x7 x8 (wrap64 (x9+1))) else(some false))) else(none)) else(none)) else(if(x0.length:Int)≥1 then(some (decide ((x0.length:Int)≤x1))) else(some false))
def impl_areSheets.f (k:Nat) (l0:List (List (S40))) (a1:Int):Option (Bool):=impl_areSheets.l0 k l0 a1 l0 (l0.length:Int) 0
theorem impl_areSheets.mono_l:∀k,(∀y0 y1 y2 y3 y4,LeO (impl_areSheets.l0 k y0 y1 y2 y3 y4) (impl_areSheets.l0 (k+1) y0 y1 y2 y3 y4))
 | 0=>fun _ _ _ _ _ r h=>by simp[impl_areSheets.l0]at h
 | k+1=>by
  have ih0:=impl_areSheets.mono_l k
  intros
  unfold impl_areSheets.l0
  rotate_left
  all_goals repeat' first|(with_reducible first|exact ih0 _ _ _ _ _|exact impl_IsSheet.mono _ _|exact LeO.refl _|exact LeO.none _|refine LeO.ite ?_ ?_|refine LeO.bind ?_ (fun _=>?_))|exact ih0 _ _ _ _ _|exact impl_IsSheet.mono _ _|exact LeO.none _|refine LeO.ite ?_ ?_|refine LeO.bind ?_ (fun _=>?_)
theorem impl_areSheets.mono:∀a0 a1 k,LeO (impl_areSheets.f k a0 a1) (impl_areSheets.f (k+1) a0 a1):=by
 intro a0 a1 k
 have ih0:=impl_areSheets.mono_l k
 unfold impl_areSheets.f
 repeat' first
  |(with_reducible exact ih0 _ _ _ _ _)
  |(with_reducible exact impl_IsSheet.mono _ _)
  |(with_reducible exact LeO.refl _)
  |(with_reducible exact LeO.none _)
  |(with_reducible refine LeO.ite ?_ ?_)
  |(with_reducible refine LeO.bind ?_ (fun _=>?_))
  |exact ih0 _ _ _ _ _
  |exact impl_IsSheet.mono _ _
  |exact LeO.none _
   | refine LeO.ite ?_ ?_
   | refine LeO.bind ?_ (fun _=>?_)
set_option maxHeartbeats 8000000 in
set_option maxRecDepth 100000 in
theorem impl_areSheets.calls (k:Nat) (A0:Option Addr) (c0:Nat) (l0:List (List (S40))) (a1:Int) (r:Bool) (w:World) (hr0:Kd.C (Kd.slice 40 k40) w A0 l0.length l0) (hc0:l0.length≤c0) (h:impl_areSheets.f k l0 a1=some r) :
 Calls Tryz.prog 57 #[.slice A0 l0.length c0, .int .i64 a1] w fun e w'=>e = .returned (.bool r)∧Below w.heap.size w w':=by
 have HR0:=am_ hr0
 have HC0:=am_ hc0
 clear hr0 hc0
 have HB:=am_ (Below.refl w.heap.size w)
 have H:(impl_areSheets.l0 k l0 a1 l0 (l0.length:Int) 0)=some r:=h
 clear h
 have H':=am_ H
 clear H
 go_enter Tryz.func57,Tryz.ntmps57
 go_wp2
 (try simp only[Act.put,List.setIfInBounds_toArray,List.set_cons_zero,List.set_cons_succ])
 go_loopg [9] k (fun kq v9 w'=>∃(x9_1:Int),v9 = .int .i64 x9_1∧Aside0 (impl_areSheets.l0 kq l0 a1 l0 (l0.length:Int) x9_1=some r)∧Aside0 (kq≤k)∧Aside0 (Below w.heap.size w w'))
 case atStart=>exact⟨(0),(by first | rfl|(simp;done)|(simp[*];done)),H',⟨Nat.le_refl _⟩,⟨a1_⟩⟩
 case round=>
  clear H'
  try clear p2
  obtain⟨x9_1,rfl,HA,HK1,HB⟩:=hrel
  cases gk with
  | zero=>exact absurd HA.out (by simp[impl_areSheets.l0])
  | succ k1=>
   have H:=HA.out
   clear HA
   simp only[impl_areSheets.l0]at H
   by_cases c3:x9_1<(l0.length:Int)
   ·rw[if_pos c3]at H
    have c3b0:decide (x9_1<(l0.length:Int))=true:=decide_eq_true c3
    clear c3
    by_cases c4:0≤x9_1
    ·rw[if_pos c4]at H
     have c4b0:decide (0≤x9_1)=true:=decide_eq_true c4
     clear c4
     by_cases c5:x9_1<(l0.length:Int)
     ·rw[if_pos c5]at H
      have c5b0:decide (x9_1<(l0.length:Int))=true:=decide_eq_true c5
      clear c5
      obtain⟨t597,A6,H⟩:=bo_ H
      try dsimp only at H
      by_cases c7:t597=true
      ·subst c7
       replace H:(impl_areSheets.l0 k1 l0 a1 l0 (l0.length:Int) (wrap64 (x9_1+1)))=some r:=by rw[if_pos rfl]at H;exact H
       have H':=am_ H
       clear H
       have p596:0≤(x9_1:Int):=of_decide_eq_true (a12_)
       have q596:x9_1<(l0.length:Int):=of_decide_eq_true (a12_)
       obtain⟨ad596,A596_0,c596_0,e596,hx596_0,hl596_0,hi596_0⟩:=at_L3 HR0.out x9_1 p596 q596
       cases e596
       replace hx596_0:=(HB.out.cell (World.block_lt_of_cell? w _ hx596_0)).trans hx596_0
       have HR596_0:=am_ hi596_0
       have HC596_0:=am_ hl596_0
       clear hi596_0 hl596_0
       replace p596:=eq_true p596
       replace q596:=eq_true q596
       go_wp2_with (first|((with_reducible refine gate_callee (f:=45) rfl ?_);refine goesL_ (some 14) rfl rfl Tryz.func45 (by kernel_rfl) rfl #[.slice A596_0 (rd_L3 l0 x9_1).length c596_0] rfl gd_ ?_;(with_reducible refine(impl_IsSheet.calls k1 _ _ (rd_L3 l0 x9_1) true _ ?side1 ?side2 A6.out).mono ?_);(case side1=>exact(a6_ HR596_0.out));(case side2=>exact HC596_0.out);rintro e w8 ⟨rfl,hb⟩;refine⟨_,rfl,?_⟩;replace HB:=am_ (below_step (a1_) hb);(try clear hb);(try clear hb2);(try clear hk);(try clear hi)))
       go_roundg k1
       case measure=>have:=HK1.out;omega
       case rel=>exact⟨(wrap64 (x9_1+1)),(by first | rfl|(simp;done)|(simp[*];done)),H',⟨by have:=HK1.out;omega⟩,⟨a1_⟩⟩
      ·replace c7:=Bool.eq_false_iff.mpr c7
       subst c7
       replace H:(some false)=some r:=by rw[if_neg (show ¬(false=true) by decide)]at H;exact H
       obtain rfl:=Option.some.inj H
       have p596:0≤(x9_1:Int):=of_decide_eq_true (a12_)
       have q596:x9_1<(l0.length:Int):=of_decide_eq_true (a12_)
       obtain⟨ad596,A596_0,c596_0,e596,hx596_0,hl596_0,hi596_0⟩:=at_L3 HR0.out x9_1 p596 q596
       cases e596
       replace hx596_0:=(HB.out.cell (World.block_lt_of_cell? w _ hx596_0)).trans hx596_0
       have HR596_0:=am_ hi596_0
       have HC596_0:=am_ hl596_0
       clear hi596_0 hl596_0
       replace p596:=eq_true p596
       replace q596:=eq_true q596
       go_wp2_with (first|((with_reducible refine gate_callee (f:=45) rfl ?_);refine goesL_ (some 14) rfl rfl Tryz.func45 (by kernel_rfl) rfl #[.slice A596_0 (rd_L3 l0 x9_1).length c596_0] rfl gd_ ?_;(with_reducible refine(impl_IsSheet.calls k1 _ _ (rd_L3 l0 x9_1) false _ ?side1 ?side2 A6.out).mono ?_);(case side1=>exact(a6_ HR596_0.out));(case side2=>exact HC596_0.out);rintro e w9 ⟨rfl,hb⟩;refine⟨_,rfl,?_⟩;replace HB:=am_ (below_step (a1_) hb);(try clear hb);(try clear hb2);(try clear hk);(try clear hi)))
       go_ret
       exact⟨a10_,a1_⟩
     ·rw[if_neg c5]at H
      exact absurd H (by simp)
    ·rw[if_neg c4]at H
     exact absurd H (by simp)
   ·rw[if_neg c3]at H
    have c3b0:decide (x9_1<(l0.length:Int))=false:=decide_eq_false c3
    clear c3
    by_cases c10:(l0.length:Int)≥1
    ·rw[if_pos c10]at H
     have c10b0:decide (1≤(l0.length:Int))=true:=decide_eq_true c10
     have c10b1:decide (1≤l0.length)=true:=decide_eq_true (by omega)
     clear c10
     obtain rfl:=Option.some.inj H
     go_wp2
     go_ret
     exact⟨a10_,a1_⟩
    ·rw[if_neg c10]at H
     have c10b0:decide (1≤(l0.length:Int))=false:=decide_eq_false c10
     have c10b1:decide (1≤l0.length)=false:=decide_eq_false (by omega)
     clear c10
     obtain rfl:=Option.some.inj H
     go_wp2
     go_ret
     exact⟨a10_,a1_⟩

end Go.Proofs.YtplpjmhmochcfaaGreat.QFnDifferences
