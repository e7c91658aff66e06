/- Written by a program of this session (the kit's printer, with leaf contracts proved by hand put in): what each Go function computes, and that the call computes it. No condition but those that each theorem names. -/
import Derived.Test.YtpbffmjjhmllbaaDoorQFnChecksumsx0
import Derived.Test.YtpbffmjjhmllbaaDoorQFnChecksumsx2
import Derived.Test.YtpbffmjjhmllbaaDoorQFnChecksumsx8
import Derived.Test.YtpbffmjjhmllbaaDoorQFnChecksumsx11
namespace Go.Proofs.YtpbffmjjhmllbaaDoor.QFnChecksums
open Go.RowKit Go.Proofs.YtpbffmjjhmllbaaDoorW.PrintWords Go.Proofs.YtpbffmjjhmllbaaDoorW.PrintLast Go.Proofs.YtpbffmjjhmllbaaDoorW.PrintMore
attribute [local go_sem] max2_int min2_int max_two min_two max_three min_three max_four min_four   -- for this text's walks alone
set_option linter.unusedVariables false
set_option linter.unusedSimpArgs false

/-! ### spec_ckTracks: function 56 -/
def spec_ckTracks.f (k:Nat) (l0:List Int):Option (Bool):=if(l0.length:Int)=20 then((spec_l1All.f k l0 0 1000002).bind fun t480=>(some t480)) else(some false)
theorem spec_ckTracks.mono:∀a0 k,LeO (spec_ckTracks.f k a0) (spec_ckTracks.f (k+1) a0):=by
 intro a0 k
 unfold spec_ckTracks.f
 repeat' first
  |(with_reducible exact spec_l1All.mono _ _ _ _)
  |(with_reducible exact LeO.refl _)
  |(with_reducible exact LeO.none _)
  |(with_reducible refine LeO.ite ?_ ?_)
  |(with_reducible refine LeO.bind ?_ (fun _=>?_))
  |exact spec_l1All.mono _ _ _ _
  |exact LeO.none _
   | refine LeO.ite ?_ ?_
   | refine LeO.bind ?_ (fun _=>?_)
set_option maxHeartbeats 8000000 in
set_option maxRecDepth 100000 in
theorem spec_ckTracks.calls (k:Nat) (A0:Option Addr) (c0:Nat) (l0:List Int) (r:Bool) (w:World) (hr0:Kd.C (Kd.int .i64) w A0 l0.length l0) (hc0:l0.length≤c0) (h:spec_ckTracks.f k l0=some r) :
 Calls Tryd.prog 56 #[.slice A0 l0.length c0] w fun e w'=>e = .returned (.bool r)∧Drawn0 w w':=by
 have HR0:=am_ hr0
 have HC0:=am_ hc0
 clear hr0 hc0
 have H:(if(l0.length:Int)=20 then((spec_l1All.f k l0 0 1000002).bind fun t480=>(some t480)) else(some false))=some r:=h
 clear h
 by_cases c2:(l0.length:Int)=20
 ·rw[if_pos c2]at H
  have c2b0:((l0.length:Int) == 20)=true:=beq_iff_eq.mpr c2
  have c2b1:((l0.length:Int) != 20)=false:=bne_eq_false_iff_eq.mpr c2
  clear c2
  obtain⟨t480,A3,H⟩:=bo_ H
  try dsimp only at H
  obtain rfl:=Option.some.inj H
  go_enter Tryd.func56,Tryd.ntmps56
  go_wp2_with (first|(go_at_call 83;(with_reducible refine(spec_l1All.calls k _ _ l0 0 1000002 t480 _ ?side1 ?side2 A3.out).mono ?_);(case side1=>exact(a28_ HR0.out));(case side2=>exact HC0.out);rintro e w' ⟨rfl,⟨nd,rfl⟩⟩))
  go_ret
  exact⟨by first | rfl|(simp;done)|(simp[*];done),a24_⟩
 ·rw[if_neg c2]at H
  have c2b0:((l0.length:Int) == 20)=false:=beq_eq_false_iff_ne.mpr c2
  have c2b1:((l0.length:Int) != 20)=true:=bne_iff_ne.mpr c2
  obtain rfl:=Option.some.inj H
  go_enter Tryd.func56,Tryd.ntmps56
  go_wp2
  go_ret
  exact⟨by first | rfl|(simp;done)|(simp[*];done),a24_⟩

/-! ### spec_DifferentTracks: function 21 -/
mutual
def spec_DifferentTracks.j0:Nat→List Int→List Int→Bool→Option (List Int×Bool)
 | 0,_,_,_=>none
 | k+1,x0,x1,x16=>if x16=true then(some (([]:List Int),false)) else(spec_DifferentTracks.l0 k x1 ([]:List Int) x0 (x0.length:Int) 0)
def spec_DifferentTracks.l0:Nat→List Int→List Int→List Int→Int→Int→Option (List Int×Bool)
 | 0,_,_,_,_,_=>none
 | k+1,x1,x6,x17,x18,x19=>if x19<x18 then(if 0≤x19 then(if x19<(x17.length:Int) then(if x19<(x1.length:Int) then(if(rd x17 x19)=(rd x1 x19) then(spec_DifferentTracks.l0 k x1 x6 x17 x18 (wrap64 (x19+1))) else(if x6.length<17592186044416 then(spec_DifferentTracks.l0 k x1 (x6 ++ [x19]) x17 x18 (wrap64 (x19+1))) else(none))) else(none)) else(none)) else(none)) else(some (x6,true))
end
def spec_DifferentTracks.f (k:Nat) (l0:List Int) (l1:List Int):Option (List Int×Bool):=(spec_ckTracks.f k l0).bind fun t481=>(if t481=true then((spec_ckTracks.f k l1).bind fun t482=>(spec_DifferentTracks.j0 k l0 l1 (!t482))) else(spec_DifferentTracks.j0 k l0 l1 true))
theorem spec_DifferentTracks.mono_l:∀k,(∀y0 y1 y2,LeO (spec_DifferentTracks.j0 k y0 y1 y2) (spec_DifferentTracks.j0 (k+1) y0 y1 y2))∧(∀y0 y1 y2 y3 y4,LeO (spec_DifferentTracks.l0 k y0 y1 y2 y3 y4) (spec_DifferentTracks.l0 (k+1) y0 y1 y2 y3 y4))
 | 0=>⟨fun _ _ _ r h=>by simp[spec_DifferentTracks.j0]at h,fun _ _ _ _ _ r h=>by simp[spec_DifferentTracks.l0]at h⟩
 | k+1=>by
  obtain⟨ih0,ih1⟩:=spec_DifferentTracks.mono_l k
  refine⟨?_,?_⟩
  intros
  unfold spec_DifferentTracks.j0
  rotate_left
  intros
  unfold spec_DifferentTracks.l0
  rotate_left
  all_goals repeat' first|(with_reducible first|exact ih0 _ _ _|exact ih1 _ _ _ _ _|exact spec_ckTracks.mono _ _|exact LeO.refl _|exact LeO.none _|refine LeO.ite ?_ ?_|refine LeO.bind ?_ (fun _=>?_))|exact ih0 _ _ _|exact ih1 _ _ _ _ _|exact spec_ckTracks.mono _ _|exact LeO.none _|refine LeO.ite ?_ ?_|refine LeO.bind ?_ (fun _=>?_)
theorem spec_DifferentTracks.mono:∀a0 a1 k,LeO (spec_DifferentTracks.f k a0 a1) (spec_DifferentTracks.f (k+1) a0 a1):=by
 intro a0 a1 k
 obtain⟨ih0,ih1⟩:=spec_DifferentTracks.mono_l k
 unfold spec_DifferentTracks.f
 repeat' first
  |(with_reducible exact ih0 _ _ _)
  |(with_reducible exact ih1 _ _ _ _ _)
  |(with_reducible exact spec_ckTracks.mono _ _)
  |(with_reducible exact LeO.refl _)
  |(with_reducible exact LeO.none _)
  |(with_reducible refine LeO.ite ?_ ?_)
  |(with_reducible refine LeO.bind ?_ (fun _=>?_))
  |exact ih0 _ _ _
  |exact ih1 _ _ _ _ _
  |exact spec_ckTracks.mono _ _
  |exact LeO.none _
   | refine LeO.ite ?_ ?_
   | refine LeO.bind ?_ (fun _=>?_)
set_option maxHeartbeats 8000000 in
set_option maxRecDepth 100000 in
theorem spec_DifferentTracks.calls (k:Nat) (A0:Option Addr) (c0:Nat) (l0:List Int) (A1:Option Addr) (c1:Nat) (l1:List Int) (r1:List Int) (r2:Bool) (w:World) (hr0:Kd.C (Kd.int .i64) w A0 l0.length l0) (hc0:l0.length≤c0) (hr1:Kd.C (Kd.int .i64) w A1 l1.length l1) (hc1:l1.length≤c1) (h:spec_DifferentTracks.f k l0 l1=some (r1,r2)) :
 Calls Tryd.prog 21 #[.slice A0 l0.length c0, .slice A1 l1.length c1] w fun e w'=>∃v0_:Value,e = .returned (.tuple #[v0_, .bool r2])∧Kd.R (Kd.int .i64) 3 w' w.heap.size (fun _=>True) v0_ r1∧Below w.heap.size w w':=by
 have HR0:=am_ hr0
 have HC0:=am_ hc0
 clear hr0 hc0
 have HR1:=am_ hr1
 have HC1:=am_ hc1
 clear hr1 hc1
 have HB:=am_ (Below.refl w.heap.size w)
 have H:((spec_ckTracks.f k l0).bind fun t481=>(if t481=true then((spec_ckTracks.f k l1).bind fun t482=>(spec_DifferentTracks.j0 k l0 l1 (!t482))) else(spec_DifferentTracks.j0 k l0 l1 true)))=some (r1,r2):=h
 clear h
 have HC3:=am_ H
 clear H
 go_enter Tryd.func21,Tryd.ntmps21
 go_upto_region 1 with (fail)
 go_cut [16] (fun v16 wc=>∃(kq:Nat) (x16_2:Bool),v16 = .bool x16_2∧Aside0 (spec_DifferentTracks.j0 kq l0 l1 x16_2=some (r1,r2))∧Aside0 (kq≤k)∧Aside0 (Below w.heap.size w wc))
 case first=>
  have H:=HC3.out
  clear HC3
  obtain⟨t481,A4,H⟩:=bo_ H
  try dsimp only at H
  by_cases c5:t481=true
  ·subst c5
   replace H:((spec_ckTracks.f k l1).bind fun t482=>(spec_DifferentTracks.j0 k l0 l1 (!t482)))=some (r1,r2):=by rw[if_pos rfl]at H;exact H
   obtain⟨t482,A6,H⟩:=bo_ H
   try dsimp only at H
   have H':=am_ H
   clear H
   go_wp2_with (first|((with_reducible refine gate_callee (f:=56) rfl ?_);refine goesL_ (some 10) rfl rfl Tryd.func56 (by kernel_rfl) rfl #[.slice A0 l0.length c0] rfl gd_ ?_;(with_reducible refine(spec_ckTracks.calls k _ _ l0 true _ ?side1 ?side2 A4.out).mono ?_);(case side1=>exact(a21_ HR0.out));(case side2=>exact HC0.out);rintro e w' ⟨rfl,⟨nd,rfl⟩⟩;refine⟨_,rfl,?_⟩)|(go_at_call 56;(with_reducible refine(spec_ckTracks.calls k _ _ l1 t482 _ ?side1 ?side2 A6.out).mono ?_);(case side1=>exact(a44_ HR1.out));(case side2=>exact HC1.out);rintro e w' ⟨rfl,⟨nd,rfl⟩⟩))
   go_meet
   case rel=>exact⟨_,(!t482),(by first | rfl|(simp;done)|(simp[*];done)),H',⟨by first | omega|exact Nat.le_refl _⟩,⟨a0_⟩⟩
  ·replace c5:=Bool.eq_false_iff.mpr c5
   subst c5
   replace H:(spec_DifferentTracks.j0 k l0 l1 true)=some (r1,r2):=by rw[if_neg (show ¬(false=true) by decide)]at H;exact H
   have H':=am_ H
   clear H
   go_wp2_with (first|((with_reducible refine gate_callee (f:=56) rfl ?_);refine goesL_ (some 10) rfl rfl Tryd.func56 (by kernel_rfl) rfl #[.slice A0 l0.length c0] rfl gd_ ?_;(with_reducible refine(spec_ckTracks.calls k _ _ l0 false _ ?side1 ?side2 A4.out).mono ?_);(case side1=>exact(a21_ HR0.out));(case side2=>exact HC0.out);rintro e w' ⟨rfl,⟨nd,rfl⟩⟩;refine⟨_,rfl,?_⟩))
   go_meet
   case rel=>exact⟨_,(true),(by first | rfl|(simp;done)|(simp[*];done)),H',⟨by first | omega|exact Nat.le_refl _⟩,⟨a0_⟩⟩
 case rest=>
  clear HC3
  try clear c1
  try clear c2
  try clear p2
  try clear c5
  obtain⟨kq,x16_2,rfl,HA,HJ2,HB⟩:=hcut
  cases kq with
  | zero=>exact absurd HA.out (by simp[spec_DifferentTracks.j0])
  | succ kj2=>
   have H:=HA.out
   clear HA
   simp only[spec_DifferentTracks.j0]at H
   by_cases c7:x16_2=true
   ·subst c7
    replace H:(some (([]:List Int),false))=some (r1,r2):=by rw[if_pos rfl]at H;exact H
    simp only[Option.some.injEq,Prod.mk.injEq]at H
    obtain⟨rfl,rfl⟩:=H
    go_wp2
    go_ret2
    exact⟨_,a8_,a29_,a0_⟩
   ·replace c7:=Bool.eq_false_iff.mpr c7
    subst c7
    replace H:(spec_DifferentTracks.l0 kj2 l1 ([]:List Int) l0 (l0.length:Int) 0)=some (r1,r2):=by rw[if_neg (show ¬(false=true) by decide)]at H;exact H
    have H':=am_ H
    clear H
    go_wp2
    (try simp only[Act.put,List.setIfInBounds_toArray,List.set_cons_zero,List.set_cons_succ])
    go_loopg [6,19] kj2 (fun kq v6 v19 w'=>∃(x6_2:List Int) (x19_2:Int),v19 = .int .i64 x19_2∧Aside0 (spec_DifferentTracks.l0 kq l1 x6_2 l0 (l0.length:Int) x19_2=some (r1,r2))∧Aside0 (kq≤kj2)∧Aside0 (Kd.R (Kd.int .i64) 3 w' w.heap.size (fun _=>True) v6 x6_2)∧Aside0 (Below w.heap.size w w'))
    case atStart=>exact⟨(([]:List Int)),(0),(by first | rfl|(simp;done)|(simp[*];done)),H',⟨Nat.le_refl _⟩,⟨a29_⟩,⟨a0_⟩⟩
    case round=>
     clear H'
     try clear c1
     try clear c2
     try clear p2
     try clear c5
     try clear c7
     try clear p2
     obtain⟨x6_2,x19_2,rfl,HA,HK2,HO_6,HB⟩:=hrel
     cases gk with
     | zero=>exact absurd HA.out (by simp[spec_DifferentTracks.l0])
     | succ k2=>
      have H:=HA.out
      clear HA
      simp only[spec_DifferentTracks.l0]at H
      by_cases c8:x19_2<(l0.length:Int)
      ·rw[if_pos c8]at H
       have c8b0:decide (x19_2<(l0.length:Int))=true:=decide_eq_true c8
       clear c8
       by_cases c9:0≤x19_2
       ·rw[if_pos c9]at H
        have c9b0:decide (0≤x19_2)=true:=decide_eq_true c9
        clear c9
        by_cases c10:x19_2<(l0.length:Int)
        ·rw[if_pos c10]at H
         have c10b0:decide (x19_2<(l0.length:Int))=true:=decide_eq_true c10
         clear c10
         by_cases c11:x19_2<(l1.length:Int)
         ·rw[if_pos c11]at H
          have c11b0:decide (x19_2<(l1.length:Int))=true:=decide_eq_true c11
          clear c11
          by_cases c12:(rd l0 x19_2)=(rd l1 x19_2)
          ·rw[if_pos c12]at H
           have c12b0:((rd l0 x19_2) == (rd l1 x19_2))=true:=beq_iff_eq.mpr c12
           have c12b1:((rd l0 x19_2) != (rd l1 x19_2))=false:=bne_eq_false_iff_eq.mpr c12
           clear c12
           have H':=am_ H
           clear H
           have p483:0≤(x19_2:Int):=of_decide_eq_true (a10_)
           have q483:x19_2<(l0.length:Int):=of_decide_eq_true (a10_)
           obtain⟨ad483,e483,hx483_0⟩:=Kd.at_int HR0.out x19_2 p483 q483
           cases e483
           replace hx483_0:=(HB.out.cell (World.block_lt_of_cell? w _ hx483_0)).trans hx483_0
           replace p483:=eq_true p483
           replace q483:=eq_true q483
           have p484:0≤(x19_2:Int):=of_decide_eq_true (a10_)
           have q484:x19_2<(l1.length:Int):=of_decide_eq_true (a10_)
           obtain⟨ad484,e484,hx484_0⟩:=Kd.at_int HR1.out x19_2 p484 q484
           cases e484
           replace hx484_0:=(HB.out.cell (World.block_lt_of_cell? w _ hx484_0)).trans hx484_0
           replace p484:=eq_true p484
           replace q484:=eq_true q484
           go_wp2
           go_roundg k2
           case measure=>have:=HJ2.out;have:=HK2.out;omega
           case rel=>exact⟨(x6_2),(wrap64 (x19_2+1)),(by first | rfl|(simp;done)|(simp[*];done)),H',⟨by have:=HJ2.out;have:=HK2.out;omega⟩,⟨(a1_ HO_6.out)⟩,⟨a0_⟩⟩
          ·rw[if_neg c12]at H
           have c12b0:((rd l0 x19_2) == (rd l1 x19_2))=false:=beq_eq_false_iff_ne.mpr c12
           have c12b1:((rd l0 x19_2) != (rd l1 x19_2))=true:=bne_iff_ne.mpr c12
           by_cases c13:x6_2.length<17592186044416
           ·rw[if_pos c13]at H
            have LMc13:=am_ c13
            clear c13
            obtain⟨y485,hy485⟩:∃y_:List Int,y_=(x6_2 ++ [x19_2]):=⟨_,rfl⟩
            replace H:(spec_DifferentTracks.l0 k2 l1 y485 l0 (l0.length:Int) (wrap64 (x19_2+1)))=some (r1,r2):=by first|(rw[hy485];with_reducible exact H)|(have H2_:=(Option.bind_some _ _).symm.trans H;rw[hy485];with_reducible exact H2_)|(have H2_:=(Option.bind_some _ _).symm.trans H;with_reducible exact H2_) | with_reducible exact H|(rw[hy485];exact H)|exact H
            have Ny485:=am_ hy485
            clear hy485
            have H':=am_ H
            clear H
            have p483:0≤(x19_2:Int):=of_decide_eq_true (a10_)
            have q483:x19_2<(l0.length:Int):=of_decide_eq_true (a10_)
            obtain⟨ad483,e483,hx483_0⟩:=Kd.at_int HR0.out x19_2 p483 q483
            cases e483
            replace hx483_0:=(HB.out.cell (World.block_lt_of_cell? w _ hx483_0)).trans hx483_0
            replace p483:=eq_true p483
            replace q483:=eq_true q483
            have p484:0≤(x19_2:Int):=of_decide_eq_true (a10_)
            have q484:x19_2<(l1.length:Int):=of_decide_eq_true (a10_)
            obtain⟨ad484,e484,hx484_0⟩:=Kd.at_int HR1.out x19_2 p484 q484
            cases e484
            replace hx484_0:=(HB.out.cell (World.block_lt_of_cell? w _ hx484_0)).trans hx484_0
            replace p484:=eq_true p484
            replace q484:=eq_true q484
            go_wp2_with (first|((with_reducible refine gate_builtin (b:= .append) (xs:= #[.tmp 30, .tmp 32]) rfl ?_);at_builtin;refine Kd.R_append (Kd.int .i64) (w0:=w) w.heap.size rfl (.tmp 30) (.tmp 32) 28 3 (.int .i64 0) 8 rfl Tryd.underlying28 info3 rfl (by decide) (by omega) u6 x6_2 x19_2 [.int .i64 x19_2] (fun _=>True) (fun _=>False) rfl rfl ?aP (fun _ hk=>hk.elim) ?aF ?aO ?aB ?aS ?aL ?_;(case aP=>exact rfl);(case aB=>exact(a0_));(case aF=>exact(fun _ _=>trivial));(case aO=>exact((a1_ HO_6.out)));(case aS=>exact(below_size (a0_)));(case aL=>have:=LMc13.out;omega);intro v486 w14 ho hb hg hat;rw[← Ny485.out]at ho;have n0_:=am_ (hb);have n1_:=am_ (ho);clear HB HO_6;have HB:=n0_;have HO487:=n1_;clear n0_ n1_ ho hb hg hat))
            go_roundg k2
            case measure=>have:=HJ2.out;have:=HK2.out;omega
            case rel=>exact⟨(y485),(wrap64 (x19_2+1)),(by first | rfl|(simp;done)|(simp[*];done)),H',⟨by have:=HJ2.out;have:=HK2.out;omega⟩,⟨(a1_ HO487.out)⟩,⟨a0_⟩⟩
           ·rw[if_neg c13]at H
            exact absurd H (by simp)
         ·rw[if_neg c11]at H
          exact absurd H (by simp)
        ·rw[if_neg c10]at H
         exact absurd H (by simp)
       ·rw[if_neg c9]at H
        exact absurd H (by simp)
      ·rw[if_neg c8]at H
       have c8b0:decide (x19_2<(l0.length:Int))=false:=decide_eq_false c8
       clear c8
       simp only[Option.some.injEq,Prod.mk.injEq]at H
       obtain⟨rfl,rfl⟩:=H
       go_wp2
       go_ret2
       exact⟨_,a8_,(a1_ HO_6.out),a0_⟩

/-! ### spec_DrawHoleOfNumber: function 22 -/
def spec_DrawHoleOfNumber.f (l0:List Int):Option (Int):=(spec_l1Cur_hole.f l0 0 0).bind fun bt489=>((spec_ckNumber.f bt489.1 bt489.2.1 bt489.2.2.1).bind fun t494=>((spec_l1Cur_pick.f l0 bt489.2.2.2.1 bt489.2.2.2.2 5).bind fun bt495=>((spec_l1Cur_pick.f l0 bt495.2.1 bt495.2.2 60000).bind fun bt498=>((spec_l1Cur_among.f l0 bt498.2.1 bt498.2.2 (([t494,t494,wrap64 ((wrap64 (t494+bt495.1))-2),0,1,(-1),80080020,bt498.1]:List Int))).bind fun bt504=>(some bt504.1)))))
set_option maxHeartbeats 8000000 in
set_option maxRecDepth 100000 in
theorem spec_DrawHoleOfNumber.calls (A0:Option Addr) (c0:Nat) (l0:List Int) (r:Int) (w:World) (hr0:Kd.C (Kd.int .u8) w A0 l0.length l0) (hc0:l0.length≤c0) (h:spec_DrawHoleOfNumber.f l0=some r) :
 Calls Tryd.prog 22 #[.slice A0 l0.length c0] w fun e w'=>e = .returned (.int .i64 r)∧Below w.heap.size w w':=by
 have hu55:=Tryd.underlying55
 have HR0:=am_ hr0
 have HC0:=am_ hc0
 clear hr0 hc0
 have HB:=am_ (Below.refl w.heap.size w)
 have H:((spec_l1Cur_hole.f l0 0 0).bind fun bt489=>((spec_ckNumber.f bt489.1 bt489.2.1 bt489.2.2.1).bind fun t494=>((spec_l1Cur_pick.f l0 bt489.2.2.2.1 bt489.2.2.2.2 5).bind fun bt495=>((spec_l1Cur_pick.f l0 bt495.2.1 bt495.2.2 60000).bind fun bt498=>((spec_l1Cur_among.f l0 bt498.2.1 bt498.2.2 (([t494,t494,wrap64 ((wrap64 (t494+bt495.1))-2),0,1,(-1),80080020,bt498.1]:List Int))).bind fun bt504=>(some bt504.1))))))=some r:=h
 clear h
 obtain⟨⟨t489,t490,t491,t492,t493⟩,A2,H⟩:=bo_ H
 try dsimp only at H
 obtain⟨t494,A3,H⟩:=bo_ H
 try dsimp only at H
 obtain⟨⟨t495,t496,t497⟩,A4,H⟩:=bo_ H
 try dsimp only at H
 obtain⟨⟨t498,t499,t500⟩,A5,H⟩:=bo_ H
 try dsimp only at H
 obtain⟨y501,hy501⟩:∃y_:List Int,y_=(([t494,t494,wrap64 ((wrap64 (t494+t495))-2),0,1,(-1),80080020,t498]:List Int)):=⟨_,rfl⟩
 replace H:((spec_l1Cur_among.f l0 t499 t500 y501).bind fun bt504=>(some bt504.1))=some r:=by first|(rw[hy501];with_reducible exact H)|(have H2_:=(Option.bind_some _ _).symm.trans H;rw[hy501];with_reducible exact H2_)|(have H2_:=(Option.bind_some _ _).symm.trans H;with_reducible exact H2_) | with_reducible exact H|(rw[hy501];exact H)|exact H
 have Ny501:=am_ hy501
 clear hy501
 obtain⟨⟨t504,t505,t506⟩,A6,H⟩:=bo_ H
 try dsimp only at H
 obtain rfl:=Option.some.inj H
 go_enter Tryd.func22,Tryd.ntmps22
 go_wp2_with (first|((with_reducible refine gate_dst (N:=7) rfl ?_);refine box_event ?hg (N:=7) ?hd (cs:= #[.slice A0 l0.length c0, .int .i64 0, .int .u64 0]) (t:=55) ?hr ?_;(case hd=>rfl);(case hg=>rfl);(case hr=>exact hr_);intro g488 hg w7 hbox hb;have HI488:=am_ ((⟨_,_,hbox,by rw[hg];exact(below_size (a0_)),HR0.out⟩:IsS55 w w7 g488 l0 0 0));replace HB:=am_ (below_step (a0_) hb);clear hb hbox hg)|((with_reducible refine gate_callee (f:=57) rfl ?_);refine goesL_ (some 9) rfl rfl Tryd.func57 (by kernel_rfl) rfl #[.pointer (some ⟨g488,0,none⟩)] rfl gd_ ?_;(with_reducible refine(spec_l1Cur_hole.calls g488 l0 0 0 t489 t490 t491 t492 t493 w _ ?side1 ?side2 A2.out).mono ?_);(case side1=>exact(a2_ HI488.out));(case side2=>exact(a4_ HI488.out));rintro e w8 ⟨rfl,hi,hb,hk⟩;refine⟨_,rfl,?_⟩;replace HB:=am_ (hb);replace HI488:=am_ (hi);(try clear hb);(try clear hb2);(try clear hk);(try clear hi))|((with_reducible refine gate_callee (f:=48) rfl ?_);refine goesL_ (some 10) rfl rfl Tryd.func48 (by kernel_rfl) rfl #[.agg #[.int .i64 t489, .int .i64 t490, .int .i64 t491]] rfl gd_ ?_;(with_reducible refine(spec_ckNumber.calls t489 t490 t491 t494 _ A3.out).mono ?_);rintro e w9 ⟨rfl,hb⟩;refine⟨_,rfl,?_⟩;replace HB:=am_ (below_step ((a4_ HI488.out)) hb);replace HI488:=am_ (IsS55.below ((a2_ HI488.out)) hb);(try clear hb);(try clear hb2);(try clear hk);(try clear hi))|((with_reducible refine gate_callee (f:=54) rfl ?_);refine goesL_ (some 16) rfl rfl Tryd.func54 (by kernel_rfl) rfl #[.pointer (some ⟨g488,0,none⟩), .int .i64 5] rfl gd_ ?_;(with_reducible refine(spec_l1Cur_pick.calls g488 l0 t492 t493 5 t495 t496 t497 w _ ?side1 ?side2 A4.out).mono ?_);(case side1=>exact(a2_ HI488.out));(case side2=>exact(a4_ HI488.out));rintro e w10 ⟨rfl,hi,hb,hk⟩;refine⟨_,rfl,?_⟩;replace HB:=am_ (hb);replace HI488:=am_ (hi);(try clear hb);(try clear hb2);(try clear hk);(try clear hi))|((with_reducible refine gate_callee (f:=54) rfl ?_);refine goesL_ (some 20) rfl rfl Tryd.func54 (by kernel_rfl) rfl #[.pointer (some ⟨g488,0,none⟩), .int .i64 60000] rfl gd_ ?_;(with_reducible refine(spec_l1Cur_pick.calls g488 l0 t496 t497 60000 t498 t499 t500 w _ ?side1 ?side2 A5.out).mono ?_);(case side1=>exact(a2_ HI488.out));(case side2=>exact(a4_ HI488.out));rintro e w11 ⟨rfl,hi,hb,hk⟩;refine⟨_,rfl,?_⟩;replace HB:=am_ (hb);replace HI488:=am_ (hi);(try clear hb);(try clear hb2);(try clear hk);(try clear hi))|((with_reducible refine gate_dst (N:=21) rfl ?_);refine Kd.R_lit (Kd.int .i64) _ 3 ?hg (N:=21) ?hd (xs:=([t494,t494,wrap64 ((wrap64 (t494+t495))-2),0,1,(-1),80080020,t498]:List Int)) (inner:=[.int .i64 t494, .int .i64 t494, .int .i64 (wrap64 ((wrap64 (t494+t495))-2)), .int .i64 0, .int .i64 1, .int .i64 (-1), .int .i64 80080020, .int .i64 t498]) (ok:=fun _=>True) (okp:=fun _=>True) ?hr ?hp (fun _ hk=>hk) trivial (Below.refl _ _) (Nat.le_refl _) (by simp) ?_;(case hd=>rfl);(case hg=>rfl);(case hr=>exact hr_);(case hp=>exact(Reps.one (show Kd.M (Kd.int .i64) _ _ _ t494 [.int .i64 t494] from rfl) (Reps.one (show Kd.M (Kd.int .i64) _ _ _ t494 [.int .i64 t494] from rfl) (Reps.one (show Kd.M (Kd.int .i64) _ _ _ (wrap64 ((wrap64 (t494+t495))-2)) [.int .i64 (wrap64 ((wrap64 (t494+t495))-2))] from rfl) (Reps.one (show Kd.M (Kd.int .i64) _ _ _ 0 [.int .i64 0] from rfl) (Reps.one (show Kd.M (Kd.int .i64) _ _ _ 1 [.int .i64 1] from rfl) (Reps.one (show Kd.M (Kd.int .i64) _ _ _ (-1) [.int .i64 (-1)] from rfl) (Reps.one (show Kd.M (Kd.int .i64) _ _ _ 80080020 [.int .i64 80080020] from rfl) (Reps.one (show Kd.M (Kd.int .i64) _ _ _ t498 [.int .i64 t498] from rfl) (Reps.none _ _))))))))));intro v502 w12 ho13 hb hg_ hnew_;clear hg_ hnew_;(first|rw[← Ny501.out]at ho13|(simp only[Int.reduceToNat]at ho13;rw[← Ny501.out]at ho13));have HO503:=am_ (Kd.R_lower ho13 (below_size ((a4_ HI488.out))));replace HB:=am_ (below_step ((a4_ HI488.out)) hb);replace HI488:=am_ (IsS55.below ((a2_ HI488.out)) hb);clear hb ho13;obtain⟨Ao14,co14,eo14⟩:=Kd.R_slice HO503.out;subst eo14)|((with_reducible refine gate_callee (f:=58) rfl ?_);refine goesL_ (some 22) rfl rfl Tryd.func58 (by kernel_rfl) rfl #[.pointer (some ⟨g488,0,none⟩), .slice Ao14 y501.length co14] rfl gd_ ?_;(with_reducible refine(spec_l1Cur_among.calls g488 l0 t499 t500 _ _ y501 t504 t505 t506 w _ ?side1 ?side2 ?side3 ?side4 ?side5 A6.out).mono ?_);(case side1=>exact(a2_ HI488.out));(case side2=>exact(a4_ HI488.out));(case side3=>exact(a12_ HO503.out));(case side4=>exact(Kd.R_reads' HO503.out).2.1);(case side5=>exact far_slice (IsS55.own_ne HI488.out HO503.out (by decide)));rintro e w15 ⟨rfl,hi,hb,hk⟩;refine⟨_,rfl,?_⟩;replace HO503:=am_ (Kd.R_mono (Kd.R_keep (IsS55.apart (show IsS55 w _ g488 l0 t499 t500 from(a2_ HI488.out)) ((a1_ HO503.out)) (by decide)) hk (fun _ h=>h.2)) (fun _ h=>h.1));replace HB:=am_ (hb);replace HI488:=am_ (hi);(try clear hb);(try clear hb2);(try clear hk);(try clear hi)))
 go_ret
 exact⟨a8_,(a4_ HI488.out)⟩

/-! ### spec_HoleOfNumber: function 23 -/
def spec_HoleOfNumber.f (a0:Int):Option (Int×Int×Int×Bool):=if a0<0 then(some (0,0,0,false)) else((spec_shHole.f (wrap64 (Int.tdiv a0 4004001)) (wrap64 (Int.tdiv (Int.tmod a0 4004001) 2001)) (Int.tmod a0 2001)).bind fun t509=>(if t509=true then((spec_ckNumber.f (wrap64 (Int.tdiv a0 4004001)) (wrap64 (Int.tdiv (Int.tmod a0 4004001) 2001)) (Int.tmod a0 2001)).bind fun t510=>(if t510=a0 then(some (wrap64 (Int.tdiv a0 4004001),wrap64 (Int.tdiv (Int.tmod a0 4004001) 2001),Int.tmod a0 2001,true)) else(some (0,0,0,false)))) else(some (0,0,0,false))))
set_option maxHeartbeats 8000000 in
set_option maxRecDepth 100000 in
theorem spec_HoleOfNumber.calls (a0:Int) (r1:Int) (r2:Int) (r3:Int) (r4:Bool) (w:World) (h:spec_HoleOfNumber.f a0=some (r1,r2,r3,r4)) :
 Calls Tryd.prog 23 #[.int .i64 a0] w fun e w'=>e = .returned (.tuple #[.agg #[.int .i64 r1, .int .i64 r2, .int .i64 r3], .bool r4])∧Below w.heap.size w w':=by
 have hu33:=Tryd.underlying33
 have HB:=am_ (Below.refl w.heap.size w)
 have H:(if a0<0 then(some (0,0,0,false)) else((spec_shHole.f (wrap64 (Int.tdiv a0 4004001)) (wrap64 (Int.tdiv (Int.tmod a0 4004001) 2001)) (Int.tmod a0 2001)).bind fun t509=>(if t509=true then((spec_ckNumber.f (wrap64 (Int.tdiv a0 4004001)) (wrap64 (Int.tdiv (Int.tmod a0 4004001) 2001)) (Int.tmod a0 2001)).bind fun t510=>(if t510=a0 then(some (wrap64 (Int.tdiv a0 4004001),wrap64 (Int.tdiv (Int.tmod a0 4004001) 2001),Int.tmod a0 2001,true)) else(some (0,0,0,false)))) else(some (0,0,0,false)))))=some (r1,r2,r3,r4):=h
 clear h
 by_cases c2:a0<0
 ·rw[if_pos c2]at H
  have c2b0:decide (a0<0)=true:=decide_eq_true c2
  clear c2
  simp only[Option.some.injEq,Prod.mk.injEq]at H
  obtain⟨rfl,rfl,rfl,rfl⟩:=H
  go_enter Tryd.func23,Tryd.ntmps23
  go_wp2_with (first|((with_reducible refine gate_dst (N:=2) rfl ?_);refine box_event ?hg (N:=2) ?hd (cs:= #[.int .i64 0, .int .i64 0, .int .i64 0]) (t:=33) ?hr ?_;(case hd=>rfl);(case hg=>rfl);(case hr=>exact hr_);intro gb507 hg w3 hbox hb;have BK507:=am_ (hbox);have GW507:=am_ ((by rw[hg];exact(below_size (a0_)):w.heap.size≤gb507));have GE507:=am_ ((by rw[hg];exact(below_size (a0_)):w.heap.size≤gb507));replace HB:=am_ (below_step (a0_) hb);clear hb hbox hg)|((with_reducible refine gate_dst (N:=4) rfl ?_);refine box_event ?hg (N:=4) ?hd (cs:= #[.int .i64 0, .int .i64 0, .int .i64 0]) (t:=33) ?hr ?_;(case hd=>rfl);(case hg=>rfl);(case hr=>exact hr_);intro gb508 hg w4 hbox hb;have BK508:=am_ (hbox);have GW508:=am_ ((by rw[hg];exact(below_size ((a3_ GE507.out))):w.heap.size≤gb508));have GE508:=am_ ((by rw[hg];exact(below_size ((a3_ GE507.out))):w.heap.size≤gb508));replace HB:=am_ (below_step ((a3_ GE507.out)) hb);have NB507_508:=am_ ((by rw[hg];exact Nat.ne_of_lt (blk_lt (g:=gb507) (o:= .cells #[.int .i64 0, .int .i64 0, .int .i64 0] 33 (0,0)) ((a5_ BK507.out))):gb507≠gb508));have NB508_507:=am_ ((by rw[hg];exact Nat.ne_of_gt (blk_lt (g:=gb507) (o:= .cells #[.int .i64 0, .int .i64 0, .int .i64 0] 33 (0,0)) ((a5_ BK507.out))):gb508≠gb507));replace BK507:=am_ (blk_below (g:=gb507) (o:= .cells #[.int .i64 0, .int .i64 0, .int .i64 0] 33 (0,0)) ((a5_ BK507.out)) hb);clear hb hbox hg;have hnb5:=NB508_507.out;have hnc5:=NB507_508.out;have hcz6_0:w4.cell? ⟨gb508,0,none⟩=some (.int .i64 0):=(blk_cell BK508.out 0).trans rfl;have hcz6_1:w4.cell? ⟨gb508,1,none⟩=some (.int .i64 0):=(blk_cell BK508.out 1).trans rfl;have hcz6_2:w4.cell? ⟨gb508,2,none⟩=some (.int .i64 0):=(blk_cell BK508.out 2).trans rfl;have hfz6_0:=blk_frozen BK508.out 0;have hfz6_1:=blk_frozen BK508.out 1;have hfz6_2:=blk_frozen BK508.out 2;have hcz7_0:w4.cell? ⟨gb507,0,none⟩=some (.int .i64 0):=(blk_cell BK507.out 0).trans rfl;have hcz7_1:w4.cell? ⟨gb507,1,none⟩=some (.int .i64 0):=(blk_cell BK507.out 1).trans rfl;have hcz7_2:w4.cell? ⟨gb507,2,none⟩=some (.int .i64 0):=(blk_cell BK507.out 2).trans rfl;have hfz7_0:=blk_frozen BK507.out 0;have hfz7_1:=blk_frozen BK507.out 1;have hfz7_2:=blk_frozen BK507.out 2))
  refine bodyPost_ret (results_ct rfl _ _ gb507 33 #[.int .i64 0, .int .i64 0, .int .i64 0] (0,0) _ rfl (by(with_reducible repeat (first|refine blk_drewN ?_ _ | refine blk_drew ?_ | refine blk_alloc ?_ _));refine blk_put (cs:= #[.int .i64 0, .int .i64 0, .int .i64 0]) ?_ 2 _ rfl;(with_reducible repeat (first|refine blk_drewN ?_ _ | refine blk_drew ?_ | refine blk_alloc ?_ _));refine blk_put (cs:= #[.int .i64 0, .int .i64 0, .int .i64 0]) ?_ 1 _ rfl;(with_reducible repeat (first|refine blk_drewN ?_ _ | refine blk_drew ?_ | refine blk_alloc ?_ _));refine blk_put (cs:= #[.int .i64 0, .int .i64 0, .int .i64 0]) ?_ 0 _ rfl;(with_reducible repeat (first|refine blk_drewN ?_ _ | refine blk_drew ?_ | refine blk_alloc ?_ _));refine blk_far ?_ NB507_508.out _;(with_reducible repeat (first|refine blk_drewN ?_ _ | refine blk_drew ?_ | refine blk_alloc ?_ _));refine blk_far ?_ NB507_508.out _;(with_reducible repeat (first|refine blk_drewN ?_ _ | refine blk_drew ?_ | refine blk_alloc ?_ _));refine blk_far ?_ NB507_508.out _;(with_reducible repeat (first|refine blk_drewN ?_ _ | refine blk_drew ?_ | refine blk_alloc ?_ _));exact BK507.out) Tryd.underlying33 rfl (by kernel_rfl)) rfl ?_
  exact⟨a8_,(a13_ GE507.out GE508.out)⟩
 ·rw[if_neg c2]at H
  have c2b0:decide (a0<0)=false:=decide_eq_false c2
  clear c2
  obtain⟨t509,A8,H⟩:=bo_ H
  try dsimp only at H
  by_cases c9:t509=true
  ·subst c9
   replace H:((spec_ckNumber.f (wrap64 (Int.tdiv a0 4004001)) (wrap64 (Int.tdiv (Int.tmod a0 4004001) 2001)) (Int.tmod a0 2001)).bind fun t510=>(if t510=a0 then(some (wrap64 (Int.tdiv a0 4004001),wrap64 (Int.tdiv (Int.tmod a0 4004001) 2001),Int.tmod a0 2001,true)) else(some (0,0,0,false))))=some (r1,r2,r3,r4):=by rw[if_pos rfl]at H;exact H
   obtain⟨t510,A10,H⟩:=bo_ H
   try dsimp only at H
   by_cases c11:t510=a0
   ·rw[if_pos c11]at H
    have c11b0:(t510 == a0)=true:=beq_iff_eq.mpr c11
    have c11b1:(t510 != a0)=false:=bne_eq_false_iff_eq.mpr c11
    clear c11
    simp only[Option.some.injEq,Prod.mk.injEq]at H
    obtain⟨rfl,rfl,rfl,rfl⟩:=H
    go_enter Tryd.func23,Tryd.ntmps23
    go_wp2_with (first|((with_reducible refine gate_dst (N:=2) rfl ?_);refine box_event ?hg (N:=2) ?hd (cs:= #[.int .i64 0, .int .i64 0, .int .i64 0]) (t:=33) ?hr ?_;(case hd=>rfl);(case hg=>rfl);(case hr=>exact hr_);intro gb507 hg w12 hbox hb;have BK507:=am_ (hbox);have GW507:=am_ ((by rw[hg];exact(below_size (a0_)):w.heap.size≤gb507));have GE507:=am_ ((by rw[hg];exact(below_size (a0_)):w.heap.size≤gb507));replace HB:=am_ (below_step (a0_) hb);clear hb hbox hg)|((with_reducible refine gate_dst (N:=4) rfl ?_);refine box_event ?hg (N:=4) ?hd (cs:= #[.int .i64 0, .int .i64 0, .int .i64 0]) (t:=33) ?hr ?_;(case hd=>rfl);(case hg=>rfl);(case hr=>exact hr_);intro gb508 hg w13 hbox hb;have BK508:=am_ (hbox);have GW508:=am_ ((by rw[hg];exact(below_size ((a3_ GE507.out))):w.heap.size≤gb508));have GE508:=am_ ((by rw[hg];exact(below_size ((a3_ GE507.out))):w.heap.size≤gb508));replace HB:=am_ (below_step ((a3_ GE507.out)) hb);have NB507_508:=am_ ((by rw[hg];exact Nat.ne_of_lt (blk_lt (g:=gb507) (o:= .cells #[.int .i64 0, .int .i64 0, .int .i64 0] 33 (0,0)) ((a5_ BK507.out))):gb507≠gb508));have NB508_507:=am_ ((by rw[hg];exact Nat.ne_of_gt (blk_lt (g:=gb507) (o:= .cells #[.int .i64 0, .int .i64 0, .int .i64 0] 33 (0,0)) ((a5_ BK507.out))):gb508≠gb507));replace BK507:=am_ (blk_below (g:=gb507) (o:= .cells #[.int .i64 0, .int .i64 0, .int .i64 0] 33 (0,0)) ((a5_ BK507.out)) hb);clear hb hbox hg;have hnb14:=NB508_507.out;have hnc14:=NB507_508.out;have hcz15_0:w13.cell? ⟨gb508,0,none⟩=some (.int .i64 0):=(blk_cell BK508.out 0).trans rfl;have hcz15_1:w13.cell? ⟨gb508,1,none⟩=some (.int .i64 0):=(blk_cell BK508.out 1).trans rfl;have hcz15_2:w13.cell? ⟨gb508,2,none⟩=some (.int .i64 0):=(blk_cell BK508.out 2).trans rfl;have hfz15_0:=blk_frozen BK508.out 0;have hfz15_1:=blk_frozen BK508.out 1;have hfz15_2:=blk_frozen BK508.out 2)|(go_at_call 45;(with_reducible refine(spec_shHole.calls (wrap64 (Int.tdiv a0 4004001)) (wrap64 (Int.tdiv (Int.tmod a0 4004001) 2001)) (Int.tmod a0 2001) true _ A8.out).mono ?_);rintro e w16 ⟨rfl,hb⟩;replace BK507:=am_ (blk_below (g:=gb507) (o:= .cells #[.int .i64 0, .int .i64 0, .int .i64 0] 33 (0,0)) ((a11_ NB507_508.out BK507.out)) hb);replace BK508:=am_ (blk_below (g:=gb508) (o:= .cells #[.int .i64 (wrap64 (Int.tdiv a0 4004001)), .int .i64 (wrap64 (Int.tdiv (Int.tmod a0 4004001) 2001)), .int .i64 (Int.tmod a0 2001)] 33 (0,0)) ((a14_ BK508.out)) hb);replace HB:=am_ (below_step ((a13_ GE507.out GE508.out)) hb);(try clear hb);(try clear hb2);(try clear hk);(try clear hi);have hcz17_0:w16.cell? ⟨gb508,0,none⟩=some (.int .i64 (wrap64 (Int.tdiv a0 4004001))):=(blk_cell BK508.out 0).trans rfl;have hcz17_1:w16.cell? ⟨gb508,1,none⟩=some (.int .i64 (wrap64 (Int.tdiv (Int.tmod a0 4004001) 2001))):=(blk_cell BK508.out 1).trans rfl;have hcz17_2:w16.cell? ⟨gb508,2,none⟩=some (.int .i64 (Int.tmod a0 2001)):=(blk_cell BK508.out 2).trans rfl;have hfz17_0:=blk_frozen BK508.out 0;have hfz17_1:=blk_frozen BK508.out 1;have hfz17_2:=blk_frozen BK508.out 2)|(go_at_call 48;(with_reducible refine(spec_ckNumber.calls (wrap64 (Int.tdiv a0 4004001)) (wrap64 (Int.tdiv (Int.tmod a0 4004001) 2001)) (Int.tmod a0 2001) t510 _ A10.out).mono ?_);rintro e w18 ⟨rfl,hb⟩;replace BK507:=am_ (blk_below (g:=gb507) (o:= .cells #[.int .i64 0, .int .i64 0, .int .i64 0] 33 (0,0)) ((a5_ BK507.out)) hb);replace BK508:=am_ (blk_below (g:=gb508) (o:= .cells #[.int .i64 (wrap64 (Int.tdiv a0 4004001)), .int .i64 (wrap64 (Int.tdiv (Int.tmod a0 4004001) 2001)), .int .i64 (Int.tmod a0 2001)] 33 (0,0)) ((a5_ BK508.out)) hb);replace HB:=am_ (below_step ((a13_ GE507.out GE508.out)) hb);(try clear hb);(try clear hb2);(try clear hk);(try clear hi);have hcz19_0:w18.cell? ⟨gb508,0,none⟩=some (.int .i64 (wrap64 (Int.tdiv a0 4004001))):=(blk_cell BK508.out 0).trans rfl;have hcz19_1:w18.cell? ⟨gb508,1,none⟩=some (.int .i64 (wrap64 (Int.tdiv (Int.tmod a0 4004001) 2001))):=(blk_cell BK508.out 1).trans rfl;have hcz19_2:w18.cell? ⟨gb508,2,none⟩=some (.int .i64 (Int.tmod a0 2001)):=(blk_cell BK508.out 2).trans rfl;have hfz19_0:=blk_frozen BK508.out 0;have hfz19_1:=blk_frozen BK508.out 1;have hfz19_2:=blk_frozen BK508.out 2;have hcz20_0:w18.cell? ⟨gb507,0,none⟩=some (.int .i64 0):=(blk_cell BK507.out 0).trans rfl;have hcz20_1:w18.cell? ⟨gb507,1,none⟩=some (.int .i64 0):=(blk_cell BK507.out 1).trans rfl;have hcz20_2:w18.cell? ⟨gb507,2,none⟩=some (.int .i64 0):=(blk_cell BK507.out 2).trans rfl;have hfz20_0:=blk_frozen BK507.out 0;have hfz20_1:=blk_frozen BK507.out 1;have hfz20_2:=blk_frozen BK507.out 2))
    refine bodyPost_ret (results_ct rfl _ _ gb507 33 #[.int .i64 (wrap64 (Int.tdiv a0 4004001)), .int .i64 (wrap64 (Int.tdiv (Int.tmod a0 4004001) 2001)), .int .i64 (Int.tmod a0 2001)] (0,0) _ rfl ((a14_ BK507.out)) Tryd.underlying33 rfl (by kernel_rfl)) rfl ?_
    exact⟨a8_,(a13_ GE507.out GE508.out)⟩
   ·rw[if_neg c11]at H
    have c11b0:(t510 == a0)=false:=beq_eq_false_iff_ne.mpr c11
    have c11b1:(t510 != a0)=true:=bne_iff_ne.mpr c11
    simp only[Option.some.injEq,Prod.mk.injEq]at H
    obtain⟨rfl,rfl,rfl,rfl⟩:=H
    go_enter Tryd.func23,Tryd.ntmps23
    go_wp2_with (first|((with_reducible refine gate_dst (N:=2) rfl ?_);refine box_event ?hg (N:=2) ?hd (cs:= #[.int .i64 0, .int .i64 0, .int .i64 0]) (t:=33) ?hr ?_;(case hd=>rfl);(case hg=>rfl);(case hr=>exact hr_);intro gb507 hg w21 hbox hb;have BK507:=am_ (hbox);have GW507:=am_ ((by rw[hg];exact(below_size (a0_)):w.heap.size≤gb507));have GE507:=am_ ((by rw[hg];exact(below_size (a0_)):w.heap.size≤gb507));replace HB:=am_ (below_step (a0_) hb);clear hb hbox hg)|((with_reducible refine gate_dst (N:=4) rfl ?_);refine box_event ?hg (N:=4) ?hd (cs:= #[.int .i64 0, .int .i64 0, .int .i64 0]) (t:=33) ?hr ?_;(case hd=>rfl);(case hg=>rfl);(case hr=>exact hr_);intro gb508 hg w22 hbox hb;have BK508:=am_ (hbox);have GW508:=am_ ((by rw[hg];exact(below_size ((a3_ GE507.out))):w.heap.size≤gb508));have GE508:=am_ ((by rw[hg];exact(below_size ((a3_ GE507.out))):w.heap.size≤gb508));replace HB:=am_ (below_step ((a3_ GE507.out)) hb);have NB507_508:=am_ ((by rw[hg];exact Nat.ne_of_lt (blk_lt (g:=gb507) (o:= .cells #[.int .i64 0, .int .i64 0, .int .i64 0] 33 (0,0)) ((a5_ BK507.out))):gb507≠gb508));have NB508_507:=am_ ((by rw[hg];exact Nat.ne_of_gt (blk_lt (g:=gb507) (o:= .cells #[.int .i64 0, .int .i64 0, .int .i64 0] 33 (0,0)) ((a5_ BK507.out))):gb508≠gb507));replace BK507:=am_ (blk_below (g:=gb507) (o:= .cells #[.int .i64 0, .int .i64 0, .int .i64 0] 33 (0,0)) ((a5_ BK507.out)) hb);clear hb hbox hg;have hnb23:=NB508_507.out;have hnc23:=NB507_508.out;have hcz24_0:w22.cell? ⟨gb508,0,none⟩=some (.int .i64 0):=(blk_cell BK508.out 0).trans rfl;have hcz24_1:w22.cell? ⟨gb508,1,none⟩=some (.int .i64 0):=(blk_cell BK508.out 1).trans rfl;have hcz24_2:w22.cell? ⟨gb508,2,none⟩=some (.int .i64 0):=(blk_cell BK508.out 2).trans rfl;have hfz24_0:=blk_frozen BK508.out 0;have hfz24_1:=blk_frozen BK508.out 1;have hfz24_2:=blk_frozen BK508.out 2)|(go_at_call 45;(with_reducible refine(spec_shHole.calls (wrap64 (Int.tdiv a0 4004001)) (wrap64 (Int.tdiv (Int.tmod a0 4004001) 2001)) (Int.tmod a0 2001) true _ A8.out).mono ?_);rintro e w25 ⟨rfl,hb⟩;replace BK507:=am_ (blk_below (g:=gb507) (o:= .cells #[.int .i64 0, .int .i64 0, .int .i64 0] 33 (0,0)) ((a11_ NB507_508.out BK507.out)) hb);replace BK508:=am_ (blk_below (g:=gb508) (o:= .cells #[.int .i64 (wrap64 (Int.tdiv a0 4004001)), .int .i64 (wrap64 (Int.tdiv (Int.tmod a0 4004001) 2001)), .int .i64 (Int.tmod a0 2001)] 33 (0,0)) ((a14_ BK508.out)) hb);replace HB:=am_ (below_step ((a13_ GE507.out GE508.out)) hb);(try clear hb);(try clear hb2);(try clear hk);(try clear hi);have hcz26_0:w25.cell? ⟨gb508,0,none⟩=some (.int .i64 (wrap64 (Int.tdiv a0 4004001))):=(blk_cell BK508.out 0).trans rfl;have hcz26_1:w25.cell? ⟨gb508,1,none⟩=some (.int .i64 (wrap64 (Int.tdiv (Int.tmod a0 4004001) 2001))):=(blk_cell BK508.out 1).trans rfl;have hcz26_2:w25.cell? ⟨gb508,2,none⟩=some (.int .i64 (Int.tmod a0 2001)):=(blk_cell BK508.out 2).trans rfl;have hfz26_0:=blk_frozen BK508.out 0;have hfz26_1:=blk_frozen BK508.out 1;have hfz26_2:=blk_frozen BK508.out 2)|(go_at_call 48;(with_reducible refine(spec_ckNumber.calls (wrap64 (Int.tdiv a0 4004001)) (wrap64 (Int.tdiv (Int.tmod a0 4004001) 2001)) (Int.tmod a0 2001) t510 _ A10.out).mono ?_);rintro e w27 ⟨rfl,hb⟩;replace BK507:=am_ (blk_below (g:=gb507) (o:= .cells #[.int .i64 0, .int .i64 0, .int .i64 0] 33 (0,0)) ((a5_ BK507.out)) hb);replace BK508:=am_ (blk_below (g:=gb508) (o:= .cells #[.int .i64 (wrap64 (Int.tdiv a0 4004001)), .int .i64 (wrap64 (Int.tdiv (Int.tmod a0 4004001) 2001)), .int .i64 (Int.tmod a0 2001)] 33 (0,0)) ((a5_ BK508.out)) hb);replace HB:=am_ (below_step ((a13_ GE507.out GE508.out)) hb);(try clear hb);(try clear hb2);(try clear hk);(try clear hi);have hcz28_0:w27.cell? ⟨gb507,0,none⟩=some (.int .i64 0):=(blk_cell BK507.out 0).trans rfl;have hcz28_1:w27.cell? ⟨gb507,1,none⟩=some (.int .i64 0):=(blk_cell BK507.out 1).trans rfl;have hcz28_2:w27.cell? ⟨gb507,2,none⟩=some (.int .i64 0):=(blk_cell BK507.out 2).trans rfl;have hfz28_0:=blk_frozen BK507.out 0;have hfz28_1:=blk_frozen BK507.out 1;have hfz28_2:=blk_frozen BK507.out 2))
    refine bodyPost_ret (results_ct rfl _ _ gb507 33 #[.int .i64 0, .int .i64 0, .int .i64 0] (0,0) _ rfl ((a22_ BK507.out)) Tryd.underlying33 rfl (by kernel_rfl)) rfl ?_
    exact⟨a8_,(a13_ GE507.out GE508.out)⟩
  ·replace c9:=Bool.eq_false_iff.mpr c9
   subst c9
   replace H:(some (0,0,0,false))=some (r1,r2,r3,r4):=by rw[if_neg (show ¬(false=true) by decide)]at H;exact H
   simp only[Option.some.injEq,Prod.mk.injEq]at H
   obtain⟨rfl,rfl,rfl,rfl⟩:=H
   go_enter Tryd.func23,Tryd.ntmps23
   go_wp2_with (first|((with_reducible refine gate_dst (N:=2) rfl ?_);refine box_event ?hg (N:=2) ?hd (cs:= #[.int .i64 0, .int .i64 0, .int .i64 0]) (t:=33) ?hr ?_;(case hd=>rfl);(case hg=>rfl);(case hr=>exact hr_);intro gb507 hg w29 hbox hb;have BK507:=am_ (hbox);have GW507:=am_ ((by rw[hg];exact(below_size (a0_)):w.heap.size≤gb507));have GE507:=am_ ((by rw[hg];exact(below_size (a0_)):w.heap.size≤gb507));replace HB:=am_ (below_step (a0_) hb);clear hb hbox hg)|((with_reducible refine gate_dst (N:=4) rfl ?_);refine box_event ?hg (N:=4) ?hd (cs:= #[.int .i64 0, .int .i64 0, .int .i64 0]) (t:=33) ?hr ?_;(case hd=>rfl);(case hg=>rfl);(case hr=>exact hr_);intro gb508 hg w30 hbox hb;have BK508:=am_ (hbox);have GW508:=am_ ((by rw[hg];exact(below_size ((a3_ GE507.out))):w.heap.size≤gb508));have GE508:=am_ ((by rw[hg];exact(below_size ((a3_ GE507.out))):w.heap.size≤gb508));replace HB:=am_ (below_step ((a3_ GE507.out)) hb);have NB507_508:=am_ ((by rw[hg];exact Nat.ne_of_lt (blk_lt (g:=gb507) (o:= .cells #[.int .i64 0, .int .i64 0, .int .i64 0] 33 (0,0)) ((a5_ BK507.out))):gb507≠gb508));have NB508_507:=am_ ((by rw[hg];exact Nat.ne_of_gt (blk_lt (g:=gb507) (o:= .cells #[.int .i64 0, .int .i64 0, .int .i64 0] 33 (0,0)) ((a5_ BK507.out))):gb508≠gb507));replace BK507:=am_ (blk_below (g:=gb507) (o:= .cells #[.int .i64 0, .int .i64 0, .int .i64 0] 33 (0,0)) ((a5_ BK507.out)) hb);clear hb hbox hg;have hnb31:=NB508_507.out;have hnc31:=NB507_508.out;have hcz32_0:w30.cell? ⟨gb508,0,none⟩=some (.int .i64 0):=(blk_cell BK508.out 0).trans rfl;have hcz32_1:w30.cell? ⟨gb508,1,none⟩=some (.int .i64 0):=(blk_cell BK508.out 1).trans rfl;have hcz32_2:w30.cell? ⟨gb508,2,none⟩=some (.int .i64 0):=(blk_cell BK508.out 2).trans rfl;have hfz32_0:=blk_frozen BK508.out 0;have hfz32_1:=blk_frozen BK508.out 1;have hfz32_2:=blk_frozen BK508.out 2)|(go_at_call 45;(with_reducible refine(spec_shHole.calls (wrap64 (Int.tdiv a0 4004001)) (wrap64 (Int.tdiv (Int.tmod a0 4004001) 2001)) (Int.tmod a0 2001) false _ A8.out).mono ?_);rintro e w33 ⟨rfl,hb⟩;replace BK507:=am_ (blk_below (g:=gb507) (o:= .cells #[.int .i64 0, .int .i64 0, .int .i64 0] 33 (0,0)) ((a11_ NB507_508.out BK507.out)) hb);replace BK508:=am_ (blk_below (g:=gb508) (o:= .cells #[.int .i64 (wrap64 (Int.tdiv a0 4004001)), .int .i64 (wrap64 (Int.tdiv (Int.tmod a0 4004001) 2001)), .int .i64 (Int.tmod a0 2001)] 33 (0,0)) ((a14_ BK508.out)) hb);replace HB:=am_ (below_step ((a13_ GE507.out GE508.out)) hb);(try clear hb);(try clear hb2);(try clear hk);(try clear hi);have hcz34_0:w33.cell? ⟨gb507,0,none⟩=some (.int .i64 0):=(blk_cell BK507.out 0).trans rfl;have hcz34_1:w33.cell? ⟨gb507,1,none⟩=some (.int .i64 0):=(blk_cell BK507.out 1).trans rfl;have hcz34_2:w33.cell? ⟨gb507,2,none⟩=some (.int .i64 0):=(blk_cell BK507.out 2).trans rfl;have hfz34_0:=blk_frozen BK507.out 0;have hfz34_1:=blk_frozen BK507.out 1;have hfz34_2:=blk_frozen BK507.out 2))
   refine bodyPost_ret (results_ct rfl _ _ gb507 33 #[.int .i64 0, .int .i64 0, .int .i64 0] (0,0) _ rfl ((a22_ BK507.out)) Tryd.underlying33 rfl (by kernel_rfl)) rfl ?_
   exact⟨a8_,(a13_ GE507.out GE508.out)⟩

/-! ### spec_l1Cur_of: function 59 -/
def spec_l1Cur_of.f (s0_0:List Int) (s0_1:Int) (s0_2:Int) (l1:List ByteArray):Option (ByteArray×Int×Int):=(spec_l1Cur_pick.f s0_0 s0_1 s0_2 (l1.length:Int)).bind fun bt511=>(if 0≤bt511.1 then(if bt511.1<(l1.length:Int) then(some (rdOf ByteArray.empty l1 bt511.1,bt511.2.1,bt511.2.2)) else(none)) else(none))
set_option maxHeartbeats 8000000 in
set_option maxRecDepth 100000 in
theorem spec_l1Cur_of.calls (g:Nat) (s0_0:List Int) (s0_1:Int) (s0_2:Int) (A1:Option Addr) (c1:Nat) (l1:List ByteArray) (r1:ByteArray) (r2:Int) (r3:Int) (w0 w:World) (hI:IsS55 w0 w g s0_0 s0_1 s0_2) (hB:Below w0.heap.size w0 w) (hr1:Kd.C Kd.string w A1 l1.length l1) (hc1:l1.length≤c1) (hf1:∀ad,A1=some ad→0<l1.length→ad.block≠g) (h:spec_l1Cur_of.f s0_0 s0_1 s0_2 l1=some (r1,r2,r3)) :
 Calls Tryd.prog 59 #[.pointer (some ⟨g,0,none⟩), .slice A1 l1.length c1] w fun e w'=>e = .returned (.string r1)∧IsS55 w0 w' g s0_0 r2 r3∧Below w0.heap.size w0 w'∧KeepBut w w' g none:=by
 have HR1:=am_ hr1
 have HC1:=am_ hc1
 clear hr1 hc1
 have HI0:=am_ hI
 have HK:=am_ (KeepBut.refl w g none)
 have HL:=am_ hB.size
 clear hI
 have HW0:=am_ hB.size
 have HB:=am_ hB
 clear hB
 have H:((spec_l1Cur_pick.f s0_0 s0_1 s0_2 (l1.length:Int)).bind fun bt511=>(if 0≤bt511.1 then(if bt511.1<(l1.length:Int) then(some (rdOf ByteArray.empty l1 bt511.1,bt511.2.1,bt511.2.2)) else(none)) else(none)))=some (r1,r2,r3):=h
 clear h
 obtain⟨⟨t511,t512,t513⟩,A3,H⟩:=bo_ H
 try dsimp only at H
 by_cases c4:0≤t511
 ·rw[if_pos c4]at H
  have c4b0:decide (0≤t511)=true:=decide_eq_true c4
  clear c4
  by_cases c5:t511<(l1.length:Int)
  ·rw[if_pos c5]at H
   have c5b0:decide (t511<(l1.length:Int))=true:=decide_eq_true c5
   clear c5
   simp only[Option.some.injEq,Prod.mk.injEq]at H
   obtain⟨rfl,rfl,rfl⟩:=H
   go_enter Tryd.func59,Tryd.ntmps59
   go_wp2_with (first|((with_reducible refine gate_callee (f:=54) rfl ?_);refine goesL_ (some 9) rfl rfl Tryd.func54 (by kernel_rfl) rfl #[.pointer (some ⟨g,0,none⟩), .int .i64 (l1.length:Int)] rfl gd_ ?_;(with_reducible refine(spec_l1Cur_pick.calls g s0_0 s0_1 s0_2 (l1.length:Int) t511 t512 t513 w0 _ ?side1 ?side2 A3.out).mono ?_);(case side1=>exact(a2_ HI0.out));(case side2=>exact(a4_ HI0.out));rintro e w6 ⟨rfl,hi,hb,hk⟩;refine⟨_,rfl,?_⟩;replace HK:=am_ (KeepBut.trans (a6_) hk (.inl rfl));replace HB:=am_ (hb);replace HI0:=am_ (hi);(try clear hb);(try clear hb2);(try clear hk);(try clear hi);have p514:0≤(t511:Int):=of_decide_eq_true (a10_);have q514:t511<(l1.length:Int):=of_decide_eq_true (a10_);obtain⟨ad514,e514,hx514_0⟩:=Kd.at_string HR1.out t511 p514 q514;cases e514;replace hx514_0:=keep_cell HK.out hx514_0 (by first|(rw[add_block];exact hf1 _ rfl (by omega))|exact hf1 _ rfl (by omega)|exact hf1 ad514 rfl (by omega));replace p514:=eq_true p514;replace q514:=eq_true q514))
   go_ret
   exact⟨a8_,(a2_ HI0.out),(a4_ HI0.out),a6_⟩
  ·rw[if_neg c5]at H
   exact absurd H (by simp)
 ·rw[if_neg c4]at H
  exact absurd H (by simp)

/-! ### spec_l1Num: function 84 -/
def spec_l1Num.f:Nat→Int→Option (ByteArray)
 | 0,_=>none
 | k+1,a0=>if a0<10 then(some (strOfNums (([(wrap64 (48+a0)) % 256]:List Int)))) else((spec_l1Num.f k (wrap64 (Int.tdiv a0 10))).bind fun t518=>((some (([(wrap64 (48+(Int.tmod a0 10))) % 256]:List Int):List Int)).bind fun y519=>(if t518.size+(strOfNums y519).size≤9223372036854775807 then(some (t518 ++ (strOfNums y519))) else(none))))
theorem spec_l1Num.mono_l:∀k,(∀y0,LeO (spec_l1Num.f k y0) (spec_l1Num.f (k+1) y0))
 | 0=>fun _ r h=>by simp[spec_l1Num.f]at h
 | k+1=>by
  have ih0:=spec_l1Num.mono_l k
  intros
  unfold spec_l1Num.f
  rotate_left
  all_goals repeat' first|(with_reducible first|exact ih0 _|exact LeO.refl _|exact LeO.none _|refine LeO.ite ?_ ?_|refine LeO.bind ?_ (fun _=>?_))|exact ih0 _|exact LeO.none _|refine LeO.ite ?_ ?_|refine LeO.bind ?_ (fun _=>?_)
theorem spec_l1Num.mono:∀a0 k,LeO (spec_l1Num.f k a0) (spec_l1Num.f (k+1) a0):=by
 intro a0 k
 have ih0:=spec_l1Num.mono_l k
 exact ih0 a0
def spec_l1Num.T3:Bool×List (List Nat×List Nat):=(true, [([], []),([0], [0]),([1], [1]),([], []),([3], [3]),([4], [4]),([5], [5]),([6], [6]),([7], [7]),([2,8], [2,8]),([9,2,0,1,2,3,4,5,6,7,8,9], [9])])
def spec_l1Num.B3:List Nat:=[0,1,3,0,8,24,56,120,248,511,1023]
theorem spec_l1Num.tab3:rtab .any (opsOf Tryd.f84 3)=spec_l1Num.T3:=by kernel_rfl
theorem spec_l1Num.bits3:waitsOk spec_l1Num.T3.2 spec_l1Num.B3=true:=by kernel_rfl
set_option maxHeartbeats 8000000 in
set_option maxRecDepth 100000 in
theorem spec_l1Num.calls (k:Nat):∀(a0:Int) (r:ByteArray) (w:World) (h:spec_l1Num.f k a0=some r),
 Calls Tryd.prog 84 #[.int .i64 a0] w fun e w'=>e = .returned (.string r)∧Below w.heap.size w w':=by
 induction k using Nat.strongRecOn with
 | _ k ih=>
 intro a0 r w h
 cases k with
 | zero=>exact absurd h (by simp[spec_l1Num.f])
 | succ k=>
 simp only[spec_l1Num.f]at h
 have HB:=am_ (Below.refl w.heap.size w)
 have H:(if a0<10 then(some (strOfNums (([(wrap64 (48+a0)) % 256]:List Int)))) else((spec_l1Num.f k (wrap64 (Int.tdiv a0 10))).bind fun t518=>((some (([(wrap64 (48+(Int.tmod a0 10))) % 256]:List Int):List Int)).bind fun y519=>(if t518.size+(strOfNums y519).size≤9223372036854775807 then(some (t518 ++ (strOfNums y519))) else(none)))))=some r:=h
 clear h
 by_cases c2:a0<10
 ·rw[if_pos c2]at H
  have c2b0:decide (a0<10)=true:=decide_eq_true c2
  clear c2
  obtain⟨y515,hy515⟩:∃y_:List Int,y_=(([(wrap64 (48+a0)) % 256]:List Int)):=⟨_,rfl⟩
  replace H:(some (strOfNums y515))=some r:=by first|(rw[hy515];with_reducible exact H)|(have H2_:=(Option.bind_some _ _).symm.trans H;rw[hy515];with_reducible exact H2_)|(have H2_:=(Option.bind_some _ _).symm.trans H;with_reducible exact H2_) | with_reducible exact H|(rw[hy515];exact H)|exact H
  have Ny515:=am_ hy515
  clear hy515
  obtain rfl:=Option.some.inj H
  go_enter Tryd.func84,Tryd.ntmps84
  go_wp2_with (first|((with_reducible refine gate_dst (N:=8) rfl ?_);refine Kd.R_lit (Kd.int .u8) _ 5 ?hg (N:=8) ?hd (xs:=([(wrap64 (48+a0)) % 256]:List Int)) (inner:=[.int .u8 ((wrap64 (48+a0)) % 256)]) (ok:=fun _=>True) (okp:=fun _=>True) ?hr ?hp (fun _ hk=>hk) trivial (Below.refl _ _) (Nat.le_refl _) (by simp) ?_;(case hd=>rfl);(case hg=>rfl);(case hr=>exact hr_);(case hp=>exact(Reps.one (show Kd.M (Kd.int .u8) _ _ _ ((wrap64 (48+a0)) % 256) [.int .u8 ((wrap64 (48+a0)) % 256)] from rfl) (Reps.none _ _)));intro v516 w3 ho4 hb hg_ hnew_;clear hg_ hnew_;(first|rw[← Ny515.out]at ho4|(simp only[Int.reduceToNat]at ho4;rw[← Ny515.out]at ho4));have HO517:=am_ (Kd.R_lower ho4 (below_size (a0_)));replace HB:=am_ (below_step (a0_) hb);clear hb ho4;have hcv5:=own_string (P:=Tryd.prog) Tryd.underlying22 Tryd.underlying5 Tryd.underlying9 (Kd.own_of_R HO517.out)))
  go_ret
  exact⟨a8_,a0_⟩
 ·rw[if_neg c2]at H
  have c2b0:decide (a0<10)=false:=decide_eq_false c2
  clear c2
  obtain⟨t518,A6,H⟩:=bo_ H
  try dsimp only at H
  obtain⟨y519,hy519⟩:∃y_:List Int,y_=(([(wrap64 (48+(Int.tmod a0 10))) % 256]:List Int)):=⟨_,rfl⟩
  replace H:(if t518.size+(strOfNums y519).size≤9223372036854775807 then(some (t518 ++ (strOfNums y519))) else(none))=some r:=by first|(rw[hy519];with_reducible exact H)|(have H2_:=(Option.bind_some _ _).symm.trans H;rw[hy519];with_reducible exact H2_)|(have H2_:=(Option.bind_some _ _).symm.trans H;with_reducible exact H2_) | with_reducible exact H|(rw[hy519];exact H)|exact H
  have Ny519:=am_ hy519
  clear hy519
  by_cases c7:t518.size+(strOfNums y519).size≤9223372036854775807
  ·rw[if_pos c7]at H
   have c7b0:=eq_true c7
   have c7b1:decide (t518.size+(strOfNums y519).size≤9223372036854775807)=true:=decide_eq_true c7
   try have c7b2:(9223372036854775807<t518.size+(strOfNums y519).size)=False:=eq_false (Nat.not_lt.2 c7)
   obtain rfl:=Option.some.inj H
   go_enter Tryd.func84,Tryd.ntmps84
   try go_wp2
   replace HB:=am_ (below_drew1 HB.out)
   refine start_ (n:=11) (S:=fun w'=>True) (ds:=[]) #[false,false,false,false,false,false,false,false,false,false,false] (by kernel_rfl) rfl rfl trivial (fun hHeld=>?_);refine with_tabW spec_l1Num.tab3 spec_l1Num.bits3 (fun HT_ HW_=>?_)
   generalize w.drew=w8 at HB hHeld ⊢
   refine pure_ (i:=0) (N:=some 10) (v:=?_) (a':=?_) #[true,false,false,false,false,false,false,false,false,false,false] rfl rfl (any_of HT_.out (by kernel_rfl)) (fun _ _ _ h=>h) (Or.inl ⟨by rfl,?_⟩) ?_ ?_
   rotate_left
   ·intro w'
    go_simp
    with_reducible rfl
   rotate_left
   ·simp only[Act.put,pu_]
    rfl
   refine pure_ (i:=1) (N:=some 11) (v:=?_) (a':=?_) #[true,true,false,false,false,false,false,false,false,false,false] rfl rfl (any_of HT_.out (by kernel_rfl)) (fun _ _ _ h=>h) (Or.inl ⟨by rfl,?_⟩) ?_ ?_
   rotate_left
   ·intro w'
    go_simp
    with_reducible rfl
   rotate_left
   ·simp only[Act.put,pu_]
    rfl
   refine pure_ (i:=3) (N:=some 13) (v:=?_) (a':=?_) #[true,true,false,true,false,false,false,false,false,false,false] rfl rfl (any_of HT_.out (by kernel_rfl)) (fun _ _ _ h=>h) (Or.inl ⟨by rfl,?_⟩) ?_ ?_
   rotate_left
   ·intro w'
    go_simp
    with_reducible rfl
   rotate_left
   ·simp only[Act.put,pu_]
    rfl
   refine pure_ (i:=4) (N:=some 14) (v:=?_) (a':=?_) #[true,true,false,true,true,false,false,false,false,false,false] rfl rfl (any_of HT_.out (by kernel_rfl)) (fun _ _ _ h=>h) (Or.inl ⟨by rfl,?_⟩) ?_ ?_
   rotate_left
   ·intro w'
    go_simp
    with_reducible rfl
   rotate_left
   ·simp only[Act.put,pu_]
    rfl
   refine pure_ (i:=5) (N:=some 15) (v:=?_) (a':=?_) #[true,true,false,true,true,true,false,false,false,false,false] rfl rfl (any_of HT_.out (by kernel_rfl)) (fun _ _ _ h=>h) (Or.inl ⟨by rfl,?_⟩) ?_ ?_
   rotate_left
   ·intro w'
    go_simp
    with_reducible rfl
   rotate_left
   ·simp only[Act.put,pu_]
    rfl
   refine pure_ (i:=6) (N:=some 16) (v:=?_) (a':=?_) #[true,true,false,true,true,true,true,false,false,false,false] rfl rfl (any_of HT_.out (by kernel_rfl)) (fun _ _ _ h=>h) (Or.inl ⟨by rfl,?_⟩) ?_ ?_
   rotate_left
   ·intro w'
    go_simp
    with_reducible rfl
   rotate_left
   ·simp only[Act.put,pu_]
    rfl
   refine join_ (σ:=Value) 2 #[true,true,true,true,true,true,true,true,true,false,false] (fun s_=> [(12, .string t518),(17,s_),(18, .string (strOfNums y519))]) (fun s_ w'=>(Kd.R (Kd.int .u8) 5 w' w.heap.size (fun _=>True) s_ y519)∧(Below w.heap.size w w')) ?_ ?_
   rotate_left
   ·intro hCont
    refine two_ (i:=2) (j:=7) (Ni:=some 12) (Nj:=some 17) #[true,true,true,true,true,true,true,false,false,false,false] #[true,true,false,true,true,true,true,true,false,false,false] rfl rfl rfl rfl (two_of HT_.out (by kernel_rfl)) (by decide) (by decide) (fun K hK=>?_) (fun K hK=>?_)
    ·skip
     refine goes_ Tryd.func84 (by kernel_rfl) rfl #[.int .i64 (wrap64 (Int.tdiv a0 10))] (by rfl) rfl rfl gd_ ?_
     with_reducible refine(ih k (by omega) (wrap64 (Int.tdiv a0 10)) t518 _ A6.out).mono ?_
     rintro e w9 ⟨rfl,hb⟩
     refine⟨_,rfl,?_⟩
     replace HB:=am_ (below_step (a0_) hb)
     (try clear hb)
     (try clear hb2)
     (try clear hk)
     (try clear hi)
     refine hK.out _ _ trivial (fun hHeld=>?_)
     clear hK K
     refine norm_ (a':=?_) ?_ ?_
     rotate_left
     ·show Act.put _ (some 12) _=_
      simp only[Act.put,pu_]
      rfl
     refine one_ (i:=7) (N:=some 17) #[true,true,true,true,true,true,true,true,false,false,false] rfl rfl (one_of HT_.out (by kernel_rfl)) (by decide) (fun K hK=>?_)
     refine Kd.R_lit_step (Kd.int .u8) _ 5 ?hg (N:=17) ?hd (xs:=([(wrap64 (48+(Int.tmod a0 10))) % 256]:List Int)) (inner:=[.int .u8 ((wrap64 (48+(Int.tmod a0 10))) % 256)]) (ok:=fun _=>True) (okp:=fun _=>True) ?hr ?hp (fun _ hk=>hk) trivial (Below.refl _ _) (Nat.le_refl _) (by simp) ?_;(case hd=>rfl);(case hg=>rfl);(case hr=>exact hr_);(case hp=>exact(Reps.one (show Kd.M (Kd.int .u8) _ _ _ ((wrap64 (48+(Int.tmod a0 10))) % 256) [.int .u8 ((wrap64 (48+(Int.tmod a0 10))) % 256)] from rfl) (Reps.none _ _)))
     intro v520 w10 ho11 hb hg_ hnew_
     clear hg_ hnew_
     (first|rw[← Ny519.out]at ho11|(simp only[Int.reduceToNat]at ho11;rw[← Ny519.out]at ho11))
     have HO521:=am_ (Kd.R_lower ho11 (below_size (a0_)))
     replace HB:=am_ (below_step (a0_) hb)
     clear hb ho11
     refine hK.out _ _ trivial (fun hHeld=>?_)
     clear hK K
     refine norm_ (a':=?_) ?_ ?_
     rotate_left
     ·show Act.put _ (some 17) _=_
      simp only[Act.put,pu_]
      rfl
     refine one_ (i:=8) (N:=some 18) #[true,true,true,true,true,true,true,true,true,false,false] rfl rfl (one_of HT_.out (by kernel_rfl)) (by decide) (fun K hK=>?_)
     have hcv12:=own_string (P:=Tryd.prog) Tryd.underlying22 Tryd.underlying5 Tryd.underlying9 (Kd.own_of_R HO521.out)
     refine value_ (w1:=?_) (v:=?_) (by rfl) rfl ?_ ?_
     rotate_left 2
     ·go_simp
      constructor
      ·rfl
      ·rfl
     clear hcv12
     refine hK.out _ _ trivial (fun hHeld=>?_)
     clear hK K
     refine norm_ (a':=?_) ?_ ?_
     rotate_left
     ·show Act.put _ (some 18) _=_
      simp only[Act.put,pu_]
      rfl
     exact norm_ (by simp only[putAll,Act.put,List.setIfInBounds_toArray,List.set_cons_zero,List.set_cons_succ]) (hCont (v520) _ ⟨((a1_ HO521.out)),(a0_)⟩)
    ·skip
     refine Kd.R_lit_step (Kd.int .u8) _ 5 ?hg (N:=17) ?hd (xs:=([(wrap64 (48+(Int.tmod a0 10))) % 256]:List Int)) (inner:=[.int .u8 ((wrap64 (48+(Int.tmod a0 10))) % 256)]) (ok:=fun _=>True) (okp:=fun _=>True) ?hr ?hp (fun _ hk=>hk) trivial (Below.refl _ _) (Nat.le_refl _) (by simp) ?_;(case hd=>rfl);(case hg=>rfl);(case hr=>exact hr_);(case hp=>exact(Reps.one (show Kd.M (Kd.int .u8) _ _ _ ((wrap64 (48+(Int.tmod a0 10))) % 256) [.int .u8 ((wrap64 (48+(Int.tmod a0 10))) % 256)] from rfl) (Reps.none _ _)))
     intro v520 w9 ho10 hb hg_ hnew_
     clear hg_ hnew_
     (first|rw[← Ny519.out]at ho10|(simp only[Int.reduceToNat]at ho10;rw[← Ny519.out]at ho10))
     have HO521:=am_ (Kd.R_lower ho10 (below_size (a0_)))
     replace HB:=am_ (below_step (a0_) hb)
     clear hb ho10
     refine hK.out _ _ trivial (fun hHeld=>?_)
     clear hK K
     refine norm_ (a':=?_) ?_ ?_
     rotate_left
     ·show Act.put _ (some 17) _=_
      simp only[Act.put,pu_]
      rfl
     refine two_ (i:=2) (j:=8) (Ni:=some 12) (Nj:=some 18) #[true,true,true,true,true,true,true,true,false,false,false] #[true,true,false,true,true,true,true,true,true,false,false] rfl rfl rfl rfl (two_of HT_.out (by kernel_rfl)) (by decide) (by decide) (fun K hK=>?_) (fun K hK=>?_)
     ·skip
      refine goes_ Tryd.func84 (by kernel_rfl) rfl #[.int .i64 (wrap64 (Int.tdiv a0 10))] (by rfl) rfl rfl gd_ ?_
      with_reducible refine(ih k (by omega) (wrap64 (Int.tdiv a0 10)) t518 _ A6.out).mono ?_
      rintro e w11 ⟨rfl,hb⟩
      refine⟨_,rfl,?_⟩
      replace HO521:=am_ (Kd.R_below ((a1_ HO521.out)) hb)
      replace HB:=am_ (below_step (a0_) hb)
      (try clear hb)
      (try clear hb2)
      (try clear hk)
      (try clear hi)
      refine hK.out _ _ trivial (fun hHeld=>?_)
      clear hK K
      refine norm_ (a':=?_) ?_ ?_
      rotate_left
      ·show Act.put _ (some 12) _=_
       simp only[Act.put,pu_]
       rfl
      refine one_ (i:=8) (N:=some 18) #[true,true,true,true,true,true,true,true,true,false,false] rfl rfl (one_of HT_.out (by kernel_rfl)) (by decide) (fun K hK=>?_)
      have hcv12:=own_string (P:=Tryd.prog) Tryd.underlying22 Tryd.underlying5 Tryd.underlying9 (Kd.own_of_R HO521.out)
      refine value_ (w1:=?_) (v:=?_) (by rfl) rfl ?_ ?_
      rotate_left 2
      ·go_simp
       constructor
       ·rfl
       ·rfl
      clear hcv12
      refine hK.out _ _ trivial (fun hHeld=>?_)
      clear hK K
      refine norm_ (a':=?_) ?_ ?_
      rotate_left
      ·show Act.put _ (some 18) _=_
       simp only[Act.put,pu_]
       rfl
      exact norm_ (by simp only[putAll,Act.put,List.setIfInBounds_toArray,List.set_cons_zero,List.set_cons_succ]) (hCont (v520) _ ⟨((a1_ HO521.out)),(a0_)⟩)
     ·skip
      have hcv11:=own_string (P:=Tryd.prog) Tryd.underlying22 Tryd.underlying5 Tryd.underlying9 (Kd.own_of_R HO521.out)
      refine value_ (w1:=?_) (v:=?_) (by rfl) rfl ?_ ?_
      rotate_left 2
      ·go_simp
       constructor
       ·rfl
       ·rfl
      clear hcv11
      refine hK.out _ _ trivial (fun hHeld=>?_)
      clear hK K
      refine norm_ (a':=?_) ?_ ?_
      rotate_left
      ·show Act.put _ (some 18) _=_
       simp only[Act.put,pu_]
       rfl
      refine one_ (i:=2) (N:=some 12) #[true,true,true,true,true,true,true,true,true,false,false] rfl rfl (one_of HT_.out (by kernel_rfl)) (by decide) (fun K hK=>?_)
      refine goes_ Tryd.func84 (by kernel_rfl) rfl #[.int .i64 (wrap64 (Int.tdiv a0 10))] (by rfl) rfl rfl gd_ ?_
      with_reducible refine(ih k (by omega) (wrap64 (Int.tdiv a0 10)) t518 _ A6.out).mono ?_
      rintro e w12 ⟨rfl,hb⟩
      refine⟨_,rfl,?_⟩
      replace HO521:=am_ (Kd.R_below ((a1_ HO521.out)) hb)
      replace HB:=am_ (below_step (a0_) hb)
      (try clear hb)
      (try clear hb2)
      (try clear hk)
      (try clear hi)
      refine hK.out _ _ trivial (fun hHeld=>?_)
      clear hK K
      refine norm_ (a':=?_) ?_ ?_
      rotate_left
      ·show Act.put _ (some 12) _=_
       simp only[Act.put,pu_]
       rfl
      exact norm_ (by simp only[putAll,Act.put,List.setIfInBounds_toArray,List.set_cons_zero,List.set_cons_succ]) (hCont (v520) _ ⟨((a1_ HO521.out)),(a0_)⟩)
   rintro v520 w13 ⟨h0_,h1_⟩
   have n0_:Aside0 (Kd.R (Kd.int .u8) 5 w13 w.heap.size (fun _=>True) v520 y519):=⟨h0_⟩
   have n1_:Aside0 (Below w.heap.size w w13):=⟨h1_⟩
   clear HB h0_ h1_
   have HO521:=n0_
   have HB:=n1_
   clear n0_ n1_
   have hHeld:=trivial
   refine norm_ (a':=?_) ?_ ?_
   rotate_left
   ·simp only[putAll,Act.put,List.setIfInBounds_toArray,List.set_cons_zero,List.set_cons_succ]
    rfl
   refine pure_ (i:=9) (N:=some 19) (v:=?_) (a':=?_) #[true,true,true,true,true,true,true,true,true,true,false] rfl rfl (any_of HT_.out (by kernel_rfl)) (fun _ _ _ h=>h) (Or.inl ⟨by rfl,?_⟩) ?_ ?_
   rotate_left
   ·intro w'
    go_simp
    with_reducible rfl
   rotate_left
   ·simp only[Act.put,pu_]
    rfl
   refine pure_ (i:=10) (N:=some 2) (v:=?_) (a':=?_) #[true,true,true,true,true,true,true,true,true,true,true] rfl rfl (any_of HT_.out (by kernel_rfl)) (fun _ _ _ h=>h) (Or.inl ⟨by rfl,?_⟩) ?_ ?_
   rotate_left
   ·intro w'
    go_simp
    with_reducible rfl
   rotate_left
   ·simp only[Act.put,pu_]
    rfl
   refine done_ (done_of HT_.out (by kernel_rfl)) ?_
   try go_wp2
   go_ret
   exact⟨a8_,a0_⟩
  ·rw[if_neg c7]at H
   exact absurd H (by simp)

/-! ### spec_ckText: function 60 -/
def spec_ckText.l0:Nat→ByteArray→Option (ByteArray)
 | 0,_=>none
 | k+1,x3=>if(x3.size:Int)<7 then(if 1+x3.size≤9223372036854775807 then(spec_ckText.l0 k ((⟨#[48]⟩:ByteArray) ++ x3)) else(none)) else(some x3)
def spec_ckText.f (k:Nat) (a0:Int):Option (ByteArray):=(spec_l1Num.f k a0).bind fun t522=>(spec_ckText.l0 k t522)
theorem spec_ckText.mono_l:∀k,(∀y0,LeO (spec_ckText.l0 k y0) (spec_ckText.l0 (k+1) y0))
 | 0=>fun _ r h=>by simp[spec_ckText.l0]at h
 | k+1=>by
  have ih0:=spec_ckText.mono_l k
  intros
  unfold spec_ckText.l0
  rotate_left
  all_goals repeat' first|(with_reducible first|exact ih0 _|exact spec_l1Num.mono _ _|exact LeO.refl _|exact LeO.none _|refine LeO.ite ?_ ?_|refine LeO.bind ?_ (fun _=>?_))|exact ih0 _|exact spec_l1Num.mono _ _|exact LeO.none _|refine LeO.ite ?_ ?_|refine LeO.bind ?_ (fun _=>?_)
theorem spec_ckText.mono:∀a0 k,LeO (spec_ckText.f k a0) (spec_ckText.f (k+1) a0):=by
 intro a0 k
 have ih0:=spec_ckText.mono_l k
 unfold spec_ckText.f
 repeat' first
  |(with_reducible exact ih0 _)
  |(with_reducible exact spec_l1Num.mono _ _)
  |(with_reducible exact LeO.refl _)
  |(with_reducible exact LeO.none _)
  |(with_reducible refine LeO.ite ?_ ?_)
  |(with_reducible refine LeO.bind ?_ (fun _=>?_))
  |exact ih0 _
  |exact spec_l1Num.mono _ _
  |exact LeO.none _
   | refine LeO.ite ?_ ?_
   | refine LeO.bind ?_ (fun _=>?_)
set_option maxHeartbeats 8000000 in
set_option maxRecDepth 100000 in
theorem spec_ckText.calls (k:Nat) (a0:Int) (r:ByteArray) (w:World) (h:spec_ckText.f k a0=some r) :
 Calls Tryd.prog 60 #[.int .i64 a0] w fun e w'=>e = .returned (.string r)∧Below w.heap.size w w':=by
 have HB:=am_ (Below.refl w.heap.size w)
 have H:((spec_l1Num.f k a0).bind fun t522=>(spec_ckText.l0 k t522))=some r:=h
 clear h
 obtain⟨t522,A2,H⟩:=bo_ H
 try dsimp only at H
 have H':=am_ H
 clear H
 go_enter Tryd.func60,Tryd.ntmps60
 go_wp2_with (first|((with_reducible refine gate_callee (f:=84) rfl ?_);refine goesL_ (some 5) rfl rfl Tryd.func84 (by kernel_rfl) rfl #[.int .i64 a0] rfl gd_ ?_;(with_reducible refine(spec_l1Num.calls k a0 t522 _ A2.out).mono ?_);rintro e w3 ⟨rfl,hb⟩;refine⟨_,rfl,?_⟩;replace HB:=am_ (below_step (a0_) hb);(try clear hb);(try clear hb2);(try clear hk);(try clear hi)))
 (try simp only[Act.put,List.setIfInBounds_toArray,List.set_cons_zero,List.set_cons_succ])
 go_loopg [3] k (fun kq v3 w'=>∃(x3_1:ByteArray),v3 = .string x3_1∧Aside0 (spec_ckText.l0 kq x3_1=some r)∧Aside0 (kq≤k)∧Aside0 (Below w.heap.size w w'))
 case atStart=>exact⟨(t522),(by first | rfl|(simp;done)|(simp[*];done)),H',⟨Nat.le_refl _⟩,⟨a0_⟩⟩
 case round=>
  clear H'
  try clear p2
  obtain⟨x3_1,rfl,HA,HK1,HB⟩:=hrel
  cases gk with
  | zero=>exact absurd HA.out (by simp[spec_ckText.l0])
  | succ k1=>
   have H:=HA.out
   clear HA
   simp only[spec_ckText.l0]at H
   by_cases c4:(x3_1.size:Int)<7
   ·rw[if_pos c4]at H
    have c4b0:decide ((x3_1.size:Int)<7)=true:=decide_eq_true c4
    have c4b1:decide (x3_1.size<7)=true:=decide_eq_true (by omega)
    clear c4
    by_cases c5:1+x3_1.size≤9223372036854775807
    ·rw[if_pos c5]at H
     have c5b0:=eq_true c5
     have c5b1:decide (1+x3_1.size≤9223372036854775807)=true:=decide_eq_true c5
     try have c5b2:(9223372036854775807<1+x3_1.size)=False:=eq_false (Nat.not_lt.2 c5)
     have H':=am_ H
     clear H
     go_wp2
     go_roundg k1
     case measure=>have:=HK1.out;omega
     case rel=>exact⟨((⟨#[48]⟩:ByteArray) ++ x3_1),(by first | rfl|(simp;done)|(simp[*];done)),H',⟨by have:=HK1.out;omega⟩,⟨a0_⟩⟩
    ·rw[if_neg c5]at H
     exact absurd H (by simp)
   ·rw[if_neg c4]at H
    have c4b0:decide ((x3_1.size:Int)<7)=false:=decide_eq_false c4
    have c4b1:decide (x3_1.size<7)=false:=decide_eq_false (by omega)
    clear c4
    obtain rfl:=Option.some.inj H
    go_wp2
    go_ret
    exact⟨a8_,a0_⟩

end Go.Proofs.YtpbffmjjhmllbaaDoor.QFnChecksums
