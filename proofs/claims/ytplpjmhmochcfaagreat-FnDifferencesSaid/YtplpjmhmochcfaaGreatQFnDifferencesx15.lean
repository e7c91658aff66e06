/- Written by a program of this session (the kit's printer, with leaf contracts proved by hand put in): what each Go function computes, and that the call computes it. No condition but those that each theorem names. -/
import Derived.Test.YtplpjmhmochcfaaGreatQFnDifferencesx0
import Derived.Test.YtplpjmhmochcfaaGreatQFnDifferencesx2
import Derived.Test.YtplpjmhmochcfaaGreatQFnDifferencesx3
import Derived.Test.YtplpjmhmochcfaaGreatQFnDifferencesx5
import Derived.Test.YtplpjmhmochcfaaGreatQFnDifferencesx6
import Derived.Test.YtplpjmhmochcfaaGreatQFnDifferencesx7
import Derived.Test.YtplpjmhmochcfaaGreatQFnDifferencesx9
import Derived.Test.YtplpjmhmochcfaaGreatQFnDifferencesx10
namespace Go.Proofs.YtplpjmhmochcfaaGreat.QFnDifferences
open Go.RowKit Go.Proofs.YtplpjmhmochcfaaGreatW.PrintWords Go.Proofs.YtplpjmhmochcfaaGreatW.PrintLast Go.Proofs.YtplpjmhmochcfaaGreatW.PrintMore
attribute [local go_sem] max2_int min2_int max_two min_two max_three min_three max_four min_four   -- for this text's walks alone
set_option linter.unusedVariables false
set_option linter.unusedSimpArgs false

/-! ### spec_NearestSheet: function 21 -/
mutual
def spec_NearestSheet.j0:Nat→List (S40)→List (List (S40))→Bool→Option (Int×Int×Bool)
 | 0,_,_,_=>none
 | k+1,x0,x1,x20=>if x20=true then(some (0,0,false)) else(spec_NearestSheet.l0 k x0 x1 x1 (x1.length:Int) 0)
def spec_NearestSheet.l0:Nat→List (S40)→List (List (S40))→List (List (S40))→Int→Int→Option (Int×Int×Bool)
 | 0,_,_,_,_,_=>none
 | k+1,x0,x1,x21,x22,x23=>if x23<x22 then(if 0≤x23 then(if x23<(x21.length:Int) then((spec_shGood.f k (rd_L3 x21 x23)).bind fun t607=>(if t607=true then(spec_NearestSheet.l0 k x0 x1 x21 x22 (wrap64 (x23+1))) else(some (0,0,false)))) else(none)) else(none)) else(spec_NearestSheet.l1 k x0 x1 0 x1 (x1.length:Int) 0)
def spec_NearestSheet.l1:Nat→List (S40)→List (List (S40))→Int→List (List (S40))→Int→Int→Option (Int×Int×Bool)
 | 0,_,_,_,_,_,_=>none
 | k+1,x0,x1,x9,x31,x32,x33=>if x33<x32 then(if 0≤x33 then(if x33<(x31.length:Int) then((spec_mgDistance.f k x0 (rd_L3 x31 x33)).bind fun t611=>(if 0≤x9 then(if x9<(x1.length:Int) then((spec_mgDistance.f k x0 (rd_L3 x1 x9)).bind fun t613=>(if t611<t613 then(spec_NearestSheet.l1 k x0 x1 x33 x31 x32 (wrap64 (x33+1))) else(spec_NearestSheet.l1 k x0 x1 x9 x31 x32 (wrap64 (x33+1))))) else(none)) else(none))) else(none)) else(none)) else(if 0≤x9 then(if x9<(x1.length:Int) then((spec_mgDistance.f k x0 (rd_L3 x1 x9)).bind fun t609=>(some (x9,t609,true))) else(none)) else(none))
end
def spec_NearestSheet.f (k:Nat) (l0:List (S40)) (l1:List (List (S40))):Option (Int×Int×Bool):=(spec_shGood.f k l0).bind fun t604=>(if t604=true then((spec_l1In.f (l1.length:Int) 1 8).bind fun t605=>(spec_NearestSheet.j0 k l0 l1 (!t605))) else(spec_NearestSheet.j0 k l0 l1 true))
theorem spec_NearestSheet.mono_l:∀k,(∀y0 y1 y2,LeO (spec_NearestSheet.j0 k y0 y1 y2) (spec_NearestSheet.j0 (k+1) y0 y1 y2))∧(∀y0 y1 y2 y3 y4,LeO (spec_NearestSheet.l0 k y0 y1 y2 y3 y4) (spec_NearestSheet.l0 (k+1) y0 y1 y2 y3 y4))∧(∀y0 y1 y2 y3 y4 y5,LeO (spec_NearestSheet.l1 k y0 y1 y2 y3 y4 y5) (spec_NearestSheet.l1 (k+1) y0 y1 y2 y3 y4 y5))
 | 0=>⟨fun _ _ _ r h=>by simp[spec_NearestSheet.j0]at h,fun _ _ _ _ _ r h=>by simp[spec_NearestSheet.l0]at h,fun _ _ _ _ _ _ r h=>by simp[spec_NearestSheet.l1]at h⟩
 | k+1=>by
  obtain⟨ih0,ih1,ih2⟩:=spec_NearestSheet.mono_l k
  refine⟨?_,?_,?_⟩
  intros
  unfold spec_NearestSheet.j0
  rotate_left
  intros
  unfold spec_NearestSheet.l0
  rotate_left
  intros
  unfold spec_NearestSheet.l1
  rotate_left
  all_goals repeat' first|(with_reducible first|exact ih0 _ _ _|exact ih1 _ _ _ _ _|exact ih2 _ _ _ _ _ _|exact spec_mgDistance.mono _ _ _|exact spec_shGood.mono _ _|exact LeO.refl _|exact LeO.none _|refine LeO.ite ?_ ?_|refine LeO.bind ?_ (fun _=>?_))|exact ih0 _ _ _|exact ih1 _ _ _ _ _|exact ih2 _ _ _ _ _ _|exact spec_mgDistance.mono _ _ _|exact spec_shGood.mono _ _|exact LeO.none _|refine LeO.ite ?_ ?_|refine LeO.bind ?_ (fun _=>?_)
theorem spec_NearestSheet.mono:∀a0 a1 k,LeO (spec_NearestSheet.f k a0 a1) (spec_NearestSheet.f (k+1) a0 a1):=by
 intro a0 a1 k
 obtain⟨ih0,ih1,ih2⟩:=spec_NearestSheet.mono_l k
 unfold spec_NearestSheet.f
 repeat' first
  |(with_reducible exact ih0 _ _ _)
  |(with_reducible exact ih1 _ _ _ _ _)
  |(with_reducible exact ih2 _ _ _ _ _ _)
  |(with_reducible exact spec_mgDistance.mono _ _ _)
  |(with_reducible exact spec_shGood.mono _ _)
  |(with_reducible exact LeO.refl _)
  |(with_reducible exact LeO.none _)
  |(with_reducible refine LeO.ite ?_ ?_)
  |(with_reducible refine LeO.bind ?_ (fun _=>?_))
  |exact ih0 _ _ _
  |exact ih1 _ _ _ _ _
  |exact ih2 _ _ _ _ _ _
  |exact spec_mgDistance.mono _ _ _
  |exact spec_shGood.mono _ _
  |exact LeO.none _
   | refine LeO.ite ?_ ?_
   | refine LeO.bind ?_ (fun _=>?_)
def spec_NearestSheet.T13:Bool×List (List Nat×List Nat):=(true, [([], []),([], []),([0,1], [0,1]),([], []),([], []),([], []),([4,5], [4,5]),([6], [6]),([3,7,2], [3,7]),([2,8], [2,8])])
def spec_NearestSheet.B13:List Nat:=[0,0,3,0,0,0,48,112,255,511]
theorem spec_NearestSheet.tab13:rtab .any (opsOf Tryz.f21 13)=spec_NearestSheet.T13:=by kernel_rfl
theorem spec_NearestSheet.bits13:waitsOk spec_NearestSheet.T13.2 spec_NearestSheet.B13=true:=by kernel_rfl
set_option maxHeartbeats 8000000 in
set_option maxRecDepth 100000 in
theorem spec_NearestSheet.calls (k:Nat) (A0:Option Addr) (c0:Nat) (l0:List (S40)) (A1:Option Addr) (c1:Nat) (l1:List (List (S40))) (r1:Int) (r2:Int) (r3:Bool) (w:World) (hr0:Kd.C k40 w A0 l0.length l0) (hc0:l0.length≤c0) (hr1:Kd.C (Kd.slice 40 k40) w A1 l1.length l1) (hc1:l1.length≤c1) (h:spec_NearestSheet.f k l0 l1=some (r1,r2,r3)) :
 Calls Tryz.prog 21 #[.slice A0 l0.length c0, .slice A1 l1.length c1] w fun e w'=>e = .returned (.tuple #[.int .i64 r1, .int .i64 r2, .bool r3])∧Below w.heap.size w w':=by
 have HR0:=am_ hr0
 have HC0:=am_ hc0
 clear hr0 hc0
 have HR1:=am_ hr1
 have HC1:=am_ hc1
 clear hr1 hc1
 have HB:=am_ (Below.refl w.heap.size w)
 have H:((spec_shGood.f k l0).bind fun t604=>(if t604=true then((spec_l1In.f (l1.length:Int) 1 8).bind fun t605=>(spec_NearestSheet.j0 k l0 l1 (!t605))) else(spec_NearestSheet.j0 k l0 l1 true)))=some (r1,r2,r3):=h
 clear h
 have HC3:=am_ H
 clear H
 go_enter Tryz.func21,Tryz.ntmps21
 go_upto_region 1 with (fail)
 go_cut [20] (fun v20 wc=>∃(kq:Nat) (x20_2:Bool),v20 = .bool x20_2∧Aside0 (spec_NearestSheet.j0 kq l0 l1 x20_2=some (r1,r2,r3))∧Aside0 (kq≤k)∧Aside0 (Below w.heap.size w wc))
 case first=>
  have H:=HC3.out
  clear HC3
  obtain⟨t604,A4,H⟩:=bo_ H
  try dsimp only at H
  by_cases c5:t604=true
  ·subst c5
   replace H:((spec_l1In.f (l1.length:Int) 1 8).bind fun t605=>(spec_NearestSheet.j0 k l0 l1 (!t605)))=some (r1,r2,r3):=by rw[if_pos rfl]at H;exact H
   obtain⟨t605,A6,H⟩:=bo_ H
   try dsimp only at H
   have H':=am_ H
   clear H
   go_wp2_with (first|((with_reducible refine gate_callee (f:=58) rfl ?_);refine goesL_ (some 13) rfl rfl Tryz.func58 (by kernel_rfl) rfl #[.slice A0 l0.length c0] rfl gd_ ?_;(with_reducible refine(spec_shGood.calls k _ _ l0 true _ ?side1 ?side2 A4.out).mono ?_);(case side1=>exact(a6_ HR0.out));(case side2=>exact HC0.out);rintro e w7 ⟨rfl,hb⟩;refine⟨_,rfl,?_⟩;replace HB:=am_ (below_step (a1_) hb);(try clear hb);(try clear hb2);(try clear hk);(try clear hi))|(go_at_call 59;(with_reducible refine(spec_l1In.calls (l1.length:Int) 1 8 t605 _ A6.out).mono ?_);rintro e w' ⟨rfl,⟨nd,rfl⟩⟩))
   go_meet
   case rel=>exact⟨_,(!t605),(by first | rfl|(simp;done)|(simp[*];done)),H',⟨by first | omega|exact Nat.le_refl _⟩,⟨a1_⟩⟩
  ·replace c5:=Bool.eq_false_iff.mpr c5
   subst c5
   replace H:(spec_NearestSheet.j0 k l0 l1 true)=some (r1,r2,r3):=by rw[if_neg (show ¬(false=true) by decide)]at H;exact H
   have H':=am_ H
   clear H
   go_wp2_with (first|((with_reducible refine gate_callee (f:=58) rfl ?_);refine goesL_ (some 13) rfl rfl Tryz.func58 (by kernel_rfl) rfl #[.slice A0 l0.length c0] rfl gd_ ?_;(with_reducible refine(spec_shGood.calls k _ _ l0 false _ ?side1 ?side2 A4.out).mono ?_);(case side1=>exact(a6_ HR0.out));(case side2=>exact HC0.out);rintro e w8 ⟨rfl,hb⟩;refine⟨_,rfl,?_⟩;replace HB:=am_ (below_step (a1_) hb);(try clear hb);(try clear hb2);(try clear hk);(try clear hi)))
   go_meet
   case rel=>exact⟨_,(true),(by first | rfl|(simp;done)|(simp[*];done)),H',⟨by first | omega|exact Nat.le_refl _⟩,⟨a1_⟩⟩
 case rest=>
  clear HC3
  try clear c1
  try clear c2
  try clear p2
  try clear c5
  obtain⟨kq,x20_2,rfl,HA,HJ2,HB⟩:=hcut
  cases kq with
  | zero=>exact absurd HA.out (by simp[spec_NearestSheet.j0])
  | succ kj2=>
   have H:=HA.out
   clear HA
   simp only[spec_NearestSheet.j0]at H
   by_cases c9:x20_2=true
   ·subst c9
    replace H:(some (0,0,false))=some (r1,r2,r3):=by rw[if_pos rfl]at H;exact H
    simp only[Option.some.injEq,Prod.mk.injEq]at H
    obtain⟨rfl,rfl,rfl⟩:=H
    go_wp2
    go_ret3
    exact⟨a10_,a1_⟩
   ·replace c9:=Bool.eq_false_iff.mpr c9
    subst c9
    replace H:(spec_NearestSheet.l0 kj2 l0 l1 l1 (l1.length:Int) 0)=some (r1,r2,r3):=by rw[if_neg (show ¬(false=true) by decide)]at H;exact H
    have H':=am_ H
    clear H
    go_wp2
    (try simp only[Act.put,List.setIfInBounds_toArray,List.set_cons_zero,List.set_cons_succ])
    go_loopg [23] kj2 (fun kq v23 w'=>∃(x23_2:Int),v23 = .int .i64 x23_2∧Aside0 (spec_NearestSheet.l0 kq l0 l1 l1 (l1.length:Int) x23_2=some (r1,r2,r3))∧Aside0 (kq≤kj2)∧Aside0 (Below w.heap.size w w'))
    case atStart=>exact⟨(0),(by first | rfl|(simp;done)|(simp[*];done)),H',⟨Nat.le_refl _⟩,⟨a1_⟩⟩
    case round=>
     clear H'
     try clear c1
     try clear c2
     try clear p2
     try clear c5
     try clear c9
     try clear p2
     obtain⟨x23_2,rfl,HA,HK2,HB⟩:=hrel
     cases gk with
     | zero=>exact absurd HA.out (by simp[spec_NearestSheet.l0])
     | succ k2=>
      have H:=HA.out
      clear HA
      simp only[spec_NearestSheet.l0]at H
      by_cases c10:x23_2<(l1.length:Int)
      ·rw[if_pos c10]at H
       have c10b0:decide (x23_2<(l1.length:Int))=true:=decide_eq_true c10
       clear c10
       by_cases c11:0≤x23_2
       ·rw[if_pos c11]at H
        have c11b0:decide (0≤x23_2)=true:=decide_eq_true c11
        clear c11
        by_cases c12:x23_2<(l1.length:Int)
        ·rw[if_pos c12]at H
         have c12b0:decide (x23_2<(l1.length:Int))=true:=decide_eq_true c12
         clear c12
         obtain⟨t607,A13,H⟩:=bo_ H
         try dsimp only at H
         by_cases c14:t607=true
         ·subst c14
          replace H:(spec_NearestSheet.l0 k2 l0 l1 l1 (l1.length:Int) (wrap64 (x23_2+1)))=some (r1,r2,r3):=by rw[if_pos rfl]at H;exact H
          have H':=am_ H
          clear H
          have p606:0≤(x23_2:Int):=of_decide_eq_true (a12_)
          have q606:x23_2<(l1.length:Int):=of_decide_eq_true (a12_)
          obtain⟨ad606,A606_0,c606_0,e606,hx606_0,hl606_0,hi606_0⟩:=at_L3 HR1.out x23_2 p606 q606
          cases e606
          replace hx606_0:=(HB.out.cell (World.block_lt_of_cell? w _ hx606_0)).trans hx606_0
          have HR606_0:=am_ hi606_0
          have HC606_0:=am_ hl606_0
          clear hi606_0 hl606_0
          replace p606:=eq_true p606
          replace q606:=eq_true q606
          go_wp2_with (first|((with_reducible refine gate_callee (f:=58) rfl ?_);refine goesL_ (some 28) rfl rfl Tryz.func58 (by kernel_rfl) rfl #[.slice A606_0 (rd_L3 l1 x23_2).length c606_0] rfl gd_ ?_;(with_reducible refine(spec_shGood.calls k2 _ _ (rd_L3 l1 x23_2) true _ ?side1 ?side2 A13.out).mono ?_);(case side1=>exact(a6_ HR606_0.out));(case side2=>exact HC606_0.out);rintro e w15 ⟨rfl,hb⟩;refine⟨_,rfl,?_⟩;replace HB:=am_ (below_step (a1_) hb);(try clear hb);(try clear hb2);(try clear hk);(try clear hi)))
          go_roundg k2
          case measure=>have:=HJ2.out;have:=HK2.out;omega
          case rel=>exact⟨(wrap64 (x23_2+1)),(by first | rfl|(simp;done)|(simp[*];done)),H',⟨by have:=HJ2.out;have:=HK2.out;omega⟩,⟨a1_⟩⟩
         ·replace c14:=Bool.eq_false_iff.mpr c14
          subst c14
          replace H:(some (0,0,false))=some (r1,r2,r3):=by rw[if_neg (show ¬(false=true) by decide)]at H;exact H
          simp only[Option.some.injEq,Prod.mk.injEq]at H
          obtain⟨rfl,rfl,rfl⟩:=H
          have p606:0≤(x23_2:Int):=of_decide_eq_true (a12_)
          have q606:x23_2<(l1.length:Int):=of_decide_eq_true (a12_)
          obtain⟨ad606,A606_0,c606_0,e606,hx606_0,hl606_0,hi606_0⟩:=at_L3 HR1.out x23_2 p606 q606
          cases e606
          replace hx606_0:=(HB.out.cell (World.block_lt_of_cell? w _ hx606_0)).trans hx606_0
          have HR606_0:=am_ hi606_0
          have HC606_0:=am_ hl606_0
          clear hi606_0 hl606_0
          replace p606:=eq_true p606
          replace q606:=eq_true q606
          go_wp2_with (first|((with_reducible refine gate_callee (f:=58) rfl ?_);refine goesL_ (some 28) rfl rfl Tryz.func58 (by kernel_rfl) rfl #[.slice A606_0 (rd_L3 l1 x23_2).length c606_0] rfl gd_ ?_;(with_reducible refine(spec_shGood.calls k2 _ _ (rd_L3 l1 x23_2) false _ ?side1 ?side2 A13.out).mono ?_);(case side1=>exact(a6_ HR606_0.out));(case side2=>exact HC606_0.out);rintro e w16 ⟨rfl,hb⟩;refine⟨_,rfl,?_⟩;replace HB:=am_ (below_step (a1_) hb);(try clear hb);(try clear hb2);(try clear hk);(try clear hi)))
          go_ret3
          exact⟨a10_,a1_⟩
        ·rw[if_neg c12]at H
         exact absurd H (by simp)
       ·rw[if_neg c11]at H
        exact absurd H (by simp)
      ·rw[if_neg c10]at H
       have c10b0:decide (x23_2<(l1.length:Int))=false:=decide_eq_false c10
       clear c10
       have H':=am_ H
       clear H
       go_wp2
       (try simp only[Act.put,List.setIfInBounds_toArray,List.set_cons_zero,List.set_cons_succ])
       go_loopg [9,33] k2 (fun kq v9 v33 w'=>∃(x9_3:Int) (x33_3:Int),v9 = .int .i64 x9_3∧v33 = .int .i64 x33_3∧Aside0 (spec_NearestSheet.l1 kq l0 l1 x9_3 l1 (l1.length:Int) x33_3=some (r1,r2,r3))∧Aside0 (kq≤k2)∧Aside0 (Below w.heap.size w w'))
       case atStart=>exact⟨(0),(0),(by first | rfl|(simp;done)|(simp[*];done)),(by first | rfl|(simp;done)|(simp[*];done)),H',⟨Nat.le_refl _⟩,⟨a1_⟩⟩
       case round=>
        clear H'
        try clear c1
        try clear c2
        try clear p2
        try clear c5
        try clear c6
        try clear p6
        try clear q6
        try clear hx6
        try clear c9
        try clear c10
        try clear c10b0
        try clear c11
        try clear c11b0
        try clear c12
        try clear c12b0
        try clear c14
        try clear hx606_0
        try clear p2
        try clear p606
        try clear q606
        obtain⟨x9_3,x33_3,rfl,rfl,HA,HK3,HB⟩:=hrel
        cases gk with
        | zero=>exact absurd HA.out (by simp[spec_NearestSheet.l1])
        | succ k3=>
         have H:=HA.out
         clear HA
         simp only[spec_NearestSheet.l1]at H
         by_cases c17:x33_3<(l1.length:Int)
         ·rw[if_pos c17]at H
          have c17b0:decide (x33_3<(l1.length:Int))=true:=decide_eq_true c17
          clear c17
          by_cases c18:0≤x33_3
          ·rw[if_pos c18]at H
           have c18b0:decide (0≤x33_3)=true:=decide_eq_true c18
           clear c18
           by_cases c19:x33_3<(l1.length:Int)
           ·rw[if_pos c19]at H
            have c19b0:decide (x33_3<(l1.length:Int))=true:=decide_eq_true c19
            clear c19
            obtain⟨t611,A20,H⟩:=bo_ H
            try dsimp only at H
            by_cases c21:0≤x9_3
            ·rw[if_pos c21]at H
             have c21b0:decide (0≤x9_3)=true:=decide_eq_true c21
             clear c21
             by_cases c22:x9_3<(l1.length:Int)
             ·rw[if_pos c22]at H
              have c22b0:decide (x9_3<(l1.length:Int))=true:=decide_eq_true c22
              clear c22
              obtain⟨t613,A23,H⟩:=bo_ H
              try dsimp only at H
              by_cases c24:t611<t613
              ·rw[if_pos c24]at H
               have c24b0:decide (t611<t613)=true:=decide_eq_true c24
               clear c24
               have H':=am_ H
               clear H
               have p610:0≤(x33_3:Int):=of_decide_eq_true (a12_)
               have q610:x33_3<(l1.length:Int):=of_decide_eq_true (a12_)
               obtain⟨ad610,A610_0,c610_0,e610,hx610_0,hl610_0,hi610_0⟩:=at_L3 HR1.out x33_3 p610 q610
               cases e610
               replace hx610_0:=(HB.out.cell (World.block_lt_of_cell? w _ hx610_0)).trans hx610_0
               have HR610_0:=am_ hi610_0
               have HC610_0:=am_ hl610_0
               clear hi610_0 hl610_0
               replace p610:=eq_true p610
               replace q610:=eq_true q610
               try go_wp2
               replace HB:=am_ (below_drew1 HB.out)
               have p612:0≤(x9_3:Int):=of_decide_eq_true (a12_)
               have q612:x9_3<(l1.length:Int):=of_decide_eq_true (a12_)
               obtain⟨ad612,A612_0,c612_0,e612,hx612_0,hl612_0,hi612_0⟩:=at_L3 HR1.out x9_3 p612 q612
               have hw612_0:=hx612_0
               obtain rfl:ad610=ad612:=(by injection e612)
               replace hx612_0:=(HB.out.cell (World.block_lt_of_cell? w _ hx612_0)).trans hx612_0
               have HR612_0:=am_ hi612_0
               have HC612_0:=am_ hl612_0
               clear hi612_0 hl612_0
               replace p612:=eq_true p612
               replace q612:=eq_true q612
               refine start_ (n:=10) (S:=fun w'=>w'.cell? (ad610.add (x9_3).toNat)=some (.slice A612_0 (rd_L3 l1 x9_3).length c612_0)) (ds:=[]) #[false,false,false,false,false,false,false,false,false,false] (by kernel_rfl) rfl rfl (((HB.out.cell (World.block_lt_of_cell? w _ hw612_0)).trans hw612_0)) (fun hHeld=>?_);refine with_tabW spec_NearestSheet.tab13 spec_NearestSheet.bits13 (fun HT_ HW_=>?_)
               generalize wr.drew=w25 at HB HR612_0 hx612_0 hHeld ⊢
               refine pure_ (i:=0) (N:=some 38) (v:=?_) (a':=?_) #[true,false,false,false,false,false,false,false,false,false] rfl rfl (any_of HT_.out (by kernel_rfl)) (fun _ _ _ h=>h) (Or.inl ⟨by rfl,?_⟩) ?_ ?_
               rotate_left
               ·intro w'
                go_simp
                with_reducible rfl
               rotate_left
               ·simp only[Act.put,pu_]
                rfl
               refine pure_ (i:=1) (N:=some 39) (v:=?_) (a':=?_) #[true,true,false,false,false,false,false,false,false,false] rfl rfl (any_of HT_.out (by kernel_rfl)) (fun _ _ _ h=>h) (Or.inl ⟨by rfl,?_⟩) ?_ ?_
               rotate_left
               ·intro w'
                go_simp
                with_reducible rfl
               rotate_left
               ·simp only[Act.put,pu_]
                rfl
               refine pure_ (i:=3) (N:=some 41) (v:=?_) (a':=?_) #[true,true,false,true,false,false,false,false,false,false] rfl rfl (any_of HT_.out (by kernel_rfl)) (fun _ _ _ h=>h) (Or.inl ⟨by rfl,?_⟩) ?_ ?_
               rotate_left
               ·intro w'
                go_simp
                with_reducible rfl
               rotate_left
               ·simp only[Act.put,pu_]
                rfl
               refine pure_ (i:=4) (N:=some 42) (v:=?_) (a':=?_) #[true,true,false,true,true,false,false,false,false,false] rfl rfl (any_of HT_.out (by kernel_rfl)) (fun _ _ _ h=>h) (Or.inl ⟨by rfl,?_⟩) ?_ ?_
               rotate_left
               ·intro w'
                go_simp
                with_reducible rfl
               rotate_left
               ·simp only[Act.put,pu_]
                rfl
               refine pure_ (i:=5) (N:=some 43) (v:=?_) (a':=?_) #[true,true,false,true,true,true,false,false,false,false] rfl rfl (any_of HT_.out (by kernel_rfl)) (fun _ _ _ h=>h) (Or.inl ⟨by rfl,?_⟩) ?_ ?_
               rotate_left
               ·intro w'
                go_simp
                with_reducible rfl
               rotate_left
               ·simp only[Act.put,pu_]
                rfl
               refine pure_ (i:=6) (N:=some 44) (v:=?_) (a':=?_) #[true,true,false,true,true,true,true,false,false,false] rfl rfl (any_of HT_.out (by kernel_rfl)) (fun _ _ _ h=>h) (Or.inl ⟨by rfl,?_⟩) ?_ ?_
               rotate_left
               ·intro w'
                go_simp
                with_reducible rfl
               rotate_left
               ·simp only[Act.put,pu_]
                rfl
               refine take_ (i:=7) (N:=some 45) (v:=?_) (a':=?_) #[true,true,false,true,true,true,true,true,false,false] rfl rfl (take_ofW HT_.out HW_.out (by kernel_rfl)) (fun _ _ _ h=>h) (Or.inl ⟨by rfl,?_⟩) hHeld ?_ ?_
               rotate_left
               ·intro w' s0
                go_simp
                with_reducible rfl
               rotate_left
               ·simp only[Act.put,pu_]
                rfl
               refine one_ (i:=2) (N:=some 40) #[true,true,true,true,true,true,true,true,false,false] rfl rfl (one_of HT_.out (by kernel_rfl)) (by decide) (fun K hK=>?_)
               refine goes_ Tryz.func50 (by kernel_rfl) rfl #[.slice A0 l0.length c0, .slice A610_0 (rd_L3 l1 x33_3).length c610_0] (by rfl) rfl rfl gd_ ?_
               with_reducible refine(spec_mgDistance.calls k3 _ _ l0 _ _ (rd_L3 l1 x33_3) t611 _ ?side1 ?side2 ?side3 ?side4 A20.out).mono ?_
               (case side1=>exact(a6_ HR0.out))
               (case side2=>exact HC0.out)
               (case side3=>exact(a6_ HR610_0.out))
               (case side4=>exact HC610_0.out)
               rintro e w26 ⟨rfl,hb⟩
               refine⟨_,rfl,?_⟩
               replace HB:=am_ (below_step (a1_) hb)
               (try clear hb)
               (try clear hb2)
               (try clear hk)
               (try clear hi)
               refine hK.out _ _ (((HB.out.cell (World.block_lt_of_cell? w _ hw612_0)).trans hw612_0)) (fun hHeld=>?_)
               clear hK K
               refine norm_ (a':=?_) ?_ ?_
               rotate_left
               ·show Act.put _ (some 40) _=_
                simp only[Act.put,pu_]
                rfl
               refine one_ (i:=8) (N:=some 46) #[true,true,true,true,true,true,true,true,true,false] rfl rfl (one_of HT_.out (by kernel_rfl)) (by decide) (fun K hK=>?_)
               refine goes_ Tryz.func50 (by kernel_rfl) rfl #[.slice A0 l0.length c0, .slice A612_0 (rd_L3 l1 x9_3).length c612_0] (by rfl) rfl rfl gd_ ?_
               with_reducible refine(spec_mgDistance.calls k3 _ _ l0 _ _ (rd_L3 l1 x9_3) t613 _ ?side1 ?side2 ?side3 ?side4 A23.out).mono ?_
               (case side1=>exact(a6_ HR0.out))
               (case side2=>exact HC0.out)
               (case side3=>exact(a6_ HR612_0.out))
               (case side4=>exact HC612_0.out)
               rintro e w27 ⟨rfl,hb⟩
               refine⟨_,rfl,?_⟩
               replace HB:=am_ (below_step (a1_) hb)
               (try clear hb)
               (try clear hb2)
               (try clear hk)
               (try clear hi)
               refine hK.out _ _ (((HB.out.cell (World.block_lt_of_cell? w _ hw612_0)).trans hw612_0)) (fun hHeld=>?_)
               clear hK K
               refine norm_ (a':=?_) ?_ ?_
               rotate_left
               ·show Act.put _ (some 46) _=_
                simp only[Act.put,pu_]
                rfl
               refine pure_ (i:=9) (N:=some 47) (v:=?_) (a':=?_) #[true,true,true,true,true,true,true,true,true,true] rfl rfl (any_of HT_.out (by kernel_rfl)) (fun _ _ _ h=>h) (Or.inl ⟨by rfl,?_⟩) ?_ ?_
               rotate_left
               ·intro w'
                go_simp
                with_reducible rfl
               rotate_left
               ·simp only[Act.put,pu_]
                rfl
               refine done_ (done_of HT_.out (by kernel_rfl)) ?_
               try go_wp2
               go_roundg k3
               case measure=>have:=HJ2.out;have:=HK2.out;have:=HK3.out;omega
               case rel=>exact⟨(x33_3),(wrap64 (x33_3+1)),(by first | rfl|(simp;done)|(simp[*];done)),(by first | rfl|(simp;done)|(simp[*];done)),H',⟨by have:=HJ2.out;have:=HK2.out;have:=HK3.out;omega⟩,⟨a1_⟩⟩
              ·rw[if_neg c24]at H
               have c24b0:decide (t611<t613)=false:=decide_eq_false c24
               clear c24
               have H':=am_ H
               clear H
               have p610:0≤(x33_3:Int):=of_decide_eq_true (a12_)
               have q610:x33_3<(l1.length:Int):=of_decide_eq_true (a12_)
               obtain⟨ad610,A610_0,c610_0,e610,hx610_0,hl610_0,hi610_0⟩:=at_L3 HR1.out x33_3 p610 q610
               cases e610
               replace hx610_0:=(HB.out.cell (World.block_lt_of_cell? w _ hx610_0)).trans hx610_0
               have HR610_0:=am_ hi610_0
               have HC610_0:=am_ hl610_0
               clear hi610_0 hl610_0
               replace p610:=eq_true p610
               replace q610:=eq_true q610
               try go_wp2
               replace HB:=am_ (below_drew1 HB.out)
               have p612:0≤(x9_3:Int):=of_decide_eq_true (a12_)
               have q612:x9_3<(l1.length:Int):=of_decide_eq_true (a12_)
               obtain⟨ad612,A612_0,c612_0,e612,hx612_0,hl612_0,hi612_0⟩:=at_L3 HR1.out x9_3 p612 q612
               have hw612_0:=hx612_0
               obtain rfl:ad610=ad612:=(by injection e612)
               replace hx612_0:=(HB.out.cell (World.block_lt_of_cell? w _ hx612_0)).trans hx612_0
               have HR612_0:=am_ hi612_0
               have HC612_0:=am_ hl612_0
               clear hi612_0 hl612_0
               replace p612:=eq_true p612
               replace q612:=eq_true q612
               refine start_ (n:=10) (S:=fun w'=>w'.cell? (ad610.add (x9_3).toNat)=some (.slice A612_0 (rd_L3 l1 x9_3).length c612_0)) (ds:=[]) #[false,false,false,false,false,false,false,false,false,false] (by kernel_rfl) rfl rfl (((HB.out.cell (World.block_lt_of_cell? w _ hw612_0)).trans hw612_0)) (fun hHeld=>?_);refine with_tabW spec_NearestSheet.tab13 spec_NearestSheet.bits13 (fun HT_ HW_=>?_)
               generalize wr.drew=w28 at HB HR612_0 hx612_0 hHeld ⊢
               refine pure_ (i:=0) (N:=some 38) (v:=?_) (a':=?_) #[true,false,false,false,false,false,false,false,false,false] rfl rfl (any_of HT_.out (by kernel_rfl)) (fun _ _ _ h=>h) (Or.inl ⟨by rfl,?_⟩) ?_ ?_
               rotate_left
               ·intro w'
                go_simp
                with_reducible rfl
               rotate_left
               ·simp only[Act.put,pu_]
                rfl
               refine pure_ (i:=1) (N:=some 39) (v:=?_) (a':=?_) #[true,true,false,false,false,false,false,false,false,false] rfl rfl (any_of HT_.out (by kernel_rfl)) (fun _ _ _ h=>h) (Or.inl ⟨by rfl,?_⟩) ?_ ?_
               rotate_left
               ·intro w'
                go_simp
                with_reducible rfl
               rotate_left
               ·simp only[Act.put,pu_]
                rfl
               refine pure_ (i:=3) (N:=some 41) (v:=?_) (a':=?_) #[true,true,false,true,false,false,false,false,false,false] rfl rfl (any_of HT_.out (by kernel_rfl)) (fun _ _ _ h=>h) (Or.inl ⟨by rfl,?_⟩) ?_ ?_
               rotate_left
               ·intro w'
                go_simp
                with_reducible rfl
               rotate_left
               ·simp only[Act.put,pu_]
                rfl
               refine pure_ (i:=4) (N:=some 42) (v:=?_) (a':=?_) #[true,true,false,true,true,false,false,false,false,false] rfl rfl (any_of HT_.out (by kernel_rfl)) (fun _ _ _ h=>h) (Or.inl ⟨by rfl,?_⟩) ?_ ?_
               rotate_left
               ·intro w'
                go_simp
                with_reducible rfl
               rotate_left
               ·simp only[Act.put,pu_]
                rfl
               refine pure_ (i:=5) (N:=some 43) (v:=?_) (a':=?_) #[true,true,false,true,true,true,false,false,false,false] rfl rfl (any_of HT_.out (by kernel_rfl)) (fun _ _ _ h=>h) (Or.inl ⟨by rfl,?_⟩) ?_ ?_
               rotate_left
               ·intro w'
                go_simp
                with_reducible rfl
               rotate_left
               ·simp only[Act.put,pu_]
                rfl
               refine pure_ (i:=6) (N:=some 44) (v:=?_) (a':=?_) #[true,true,false,true,true,true,true,false,false,false] rfl rfl (any_of HT_.out (by kernel_rfl)) (fun _ _ _ h=>h) (Or.inl ⟨by rfl,?_⟩) ?_ ?_
               rotate_left
               ·intro w'
                go_simp
                with_reducible rfl
               rotate_left
               ·simp only[Act.put,pu_]
                rfl
               refine take_ (i:=7) (N:=some 45) (v:=?_) (a':=?_) #[true,true,false,true,true,true,true,true,false,false] rfl rfl (take_ofW HT_.out HW_.out (by kernel_rfl)) (fun _ _ _ h=>h) (Or.inl ⟨by rfl,?_⟩) hHeld ?_ ?_
               rotate_left
               ·intro w' s0
                go_simp
                with_reducible rfl
               rotate_left
               ·simp only[Act.put,pu_]
                rfl
               refine one_ (i:=2) (N:=some 40) #[true,true,true,true,true,true,true,true,false,false] rfl rfl (one_of HT_.out (by kernel_rfl)) (by decide) (fun K hK=>?_)
               refine goes_ Tryz.func50 (by kernel_rfl) rfl #[.slice A0 l0.length c0, .slice A610_0 (rd_L3 l1 x33_3).length c610_0] (by rfl) rfl rfl gd_ ?_
               with_reducible refine(spec_mgDistance.calls k3 _ _ l0 _ _ (rd_L3 l1 x33_3) t611 _ ?side1 ?side2 ?side3 ?side4 A20.out).mono ?_
               (case side1=>exact(a6_ HR0.out))
               (case side2=>exact HC0.out)
               (case side3=>exact(a6_ HR610_0.out))
               (case side4=>exact HC610_0.out)
               rintro e w29 ⟨rfl,hb⟩
               refine⟨_,rfl,?_⟩
               replace HB:=am_ (below_step (a1_) hb)
               (try clear hb)
               (try clear hb2)
               (try clear hk)
               (try clear hi)
               refine hK.out _ _ (((HB.out.cell (World.block_lt_of_cell? w _ hw612_0)).trans hw612_0)) (fun hHeld=>?_)
               clear hK K
               refine norm_ (a':=?_) ?_ ?_
               rotate_left
               ·show Act.put _ (some 40) _=_
                simp only[Act.put,pu_]
                rfl
               refine one_ (i:=8) (N:=some 46) #[true,true,true,true,true,true,true,true,true,false] rfl rfl (one_of HT_.out (by kernel_rfl)) (by decide) (fun K hK=>?_)
               refine goes_ Tryz.func50 (by kernel_rfl) rfl #[.slice A0 l0.length c0, .slice A612_0 (rd_L3 l1 x9_3).length c612_0] (by rfl) rfl rfl gd_ ?_
               with_reducible refine(spec_mgDistance.calls k3 _ _ l0 _ _ (rd_L3 l1 x9_3) t613 _ ?side1 ?side2 ?side3 ?side4 A23.out).mono ?_
               (case side1=>exact(a6_ HR0.out))
               (case side2=>exact HC0.out)
               (case side3=>exact(a6_ HR612_0.out))
               (case side4=>exact HC612_0.out)
               rintro e w30 ⟨rfl,hb⟩
               refine⟨_,rfl,?_⟩
               replace HB:=am_ (below_step (a1_) hb)
               (try clear hb)
               (try clear hb2)
               (try clear hk)
               (try clear hi)
               refine hK.out _ _ (((HB.out.cell (World.block_lt_of_cell? w _ hw612_0)).trans hw612_0)) (fun hHeld=>?_)
               clear hK K
               refine norm_ (a':=?_) ?_ ?_
               rotate_left
               ·show Act.put _ (some 46) _=_
                simp only[Act.put,pu_]
                rfl
               refine pure_ (i:=9) (N:=some 47) (v:=?_) (a':=?_) #[true,true,true,true,true,true,true,true,true,true] rfl rfl (any_of HT_.out (by kernel_rfl)) (fun _ _ _ h=>h) (Or.inl ⟨by rfl,?_⟩) ?_ ?_
               rotate_left
               ·intro w'
                go_simp
                with_reducible rfl
               rotate_left
               ·simp only[Act.put,pu_]
                rfl
               refine done_ (done_of HT_.out (by kernel_rfl)) ?_
               try go_wp2
               go_roundg k3
               case measure=>have:=HJ2.out;have:=HK2.out;have:=HK3.out;omega
               case rel=>exact⟨(x9_3),(wrap64 (x33_3+1)),(by first | rfl|(simp;done)|(simp[*];done)),(by first | rfl|(simp;done)|(simp[*];done)),H',⟨by have:=HJ2.out;have:=HK2.out;have:=HK3.out;omega⟩,⟨a1_⟩⟩
             ·rw[if_neg c22]at H
              exact absurd H (by simp)
            ·rw[if_neg c21]at H
             exact absurd H (by simp)
           ·rw[if_neg c19]at H
            exact absurd H (by simp)
          ·rw[if_neg c18]at H
           exact absurd H (by simp)
         ·rw[if_neg c17]at H
          have c17b0:decide (x33_3<(l1.length:Int))=false:=decide_eq_false c17
          clear c17
          by_cases c31:0≤x9_3
          ·rw[if_pos c31]at H
           have c31b0:decide (0≤x9_3)=true:=decide_eq_true c31
           clear c31
           by_cases c32:x9_3<(l1.length:Int)
           ·rw[if_pos c32]at H
            have c32b0:decide (x9_3<(l1.length:Int))=true:=decide_eq_true c32
            clear c32
            obtain⟨t609,A33,H⟩:=bo_ H
            try dsimp only at H
            simp only[Option.some.injEq,Prod.mk.injEq]at H
            obtain⟨rfl,rfl,rfl⟩:=H
            have p608:0≤(x9_3:Int):=of_decide_eq_true (a12_)
            have q608:x9_3<(l1.length:Int):=of_decide_eq_true (a12_)
            obtain⟨ad608,A608_0,c608_0,e608,hx608_0,hl608_0,hi608_0⟩:=at_L3 HR1.out x9_3 p608 q608
            cases e608
            replace hx608_0:=(HB.out.cell (World.block_lt_of_cell? w _ hx608_0)).trans hx608_0
            have HR608_0:=am_ hi608_0
            have HC608_0:=am_ hl608_0
            clear hi608_0 hl608_0
            replace p608:=eq_true p608
            replace q608:=eq_true q608
            go_wp2_with (first|((with_reducible refine gate_callee (f:=50) rfl ?_);refine goesL_ (some 56) rfl rfl Tryz.func50 (by kernel_rfl) rfl #[.slice A0 l0.length c0, .slice A608_0 (rd_L3 l1 x9_3).length c608_0] rfl gd_ ?_;(with_reducible refine(spec_mgDistance.calls k3 _ _ l0 _ _ (rd_L3 l1 x9_3) t609 _ ?side1 ?side2 ?side3 ?side4 A33.out).mono ?_);(case side1=>exact(a6_ HR0.out));(case side2=>exact HC0.out);(case side3=>exact(a6_ HR608_0.out));(case side4=>exact HC608_0.out);rintro e w34 ⟨rfl,hb⟩;refine⟨_,rfl,?_⟩;replace HB:=am_ (below_step (a1_) hb);(try clear hb);(try clear hb2);(try clear hk);(try clear hi)))
            go_ret3
            exact⟨a10_,a1_⟩
           ·rw[if_neg c32]at H
            exact absurd H (by simp)
          ·rw[if_neg c31]at H
           exact absurd H (by simp)

/-! ### spec_DrawApplyDifference: function 22 -/
def spec_DrawApplyDifference.f (k:Nat) (l0:List Int):Option ((List (S40))×(List (S40))×(List (S40))):=(spec_l1Cur_anySheet.f k l0 0 0).bind fun bt615=>((spec_l1Cur_changed.f k l0 bt615.2.1 bt615.2.2 bt615.1).bind fun bt620=>((spec_mgLess.f k bt615.1 bt620.1).bind fun t625=>((spec_mgLess.f k bt620.1 bt615.1).bind fun t628=>((spec_l1Cur_pick.f l0 bt620.2.1 bt620.2.2 8).bind fun bt631=>(if bt631.1=0 then((spec_l1Cur_sheet.f k l0 bt631.2.1 bt631.2.2).bind fun bt634=>(some (bt615.1,bt634.1,t628))) else(if bt631.1=1 then((spec_l1Cur_sheet.f k l0 bt631.2.1 bt631.2.2).bind fun bt639=>(some (bt615.1,t625,bt639.1))) else(if bt631.1=2 then((spec_l1Cur_anyHole.f l0 bt631.2.1 bt631.2.2).bind fun bt644=>(if t628.length<5864062014805 then(some (bt615.1,t625,(t628 ++ [(⟨bt644.1,bt644.2.1,bt644.2.2.1⟩:S40)]))) else(none))) else(some (bt615.1,t625,t628)))))))))
theorem spec_DrawApplyDifference.mono:∀a0 k,LeO (spec_DrawApplyDifference.f k a0) (spec_DrawApplyDifference.f (k+1) a0):=by
 intro a0 k
 unfold spec_DrawApplyDifference.f
 repeat' first
  |(with_reducible exact spec_l1Cur_anySheet.mono _ _ _ _)
  |(with_reducible exact spec_l1Cur_changed.mono _ _ _ _ _)
  |(with_reducible exact spec_l1Cur_sheet.mono _ _ _ _)
  |(with_reducible exact spec_mgLess.mono _ _ _)
  |(with_reducible exact LeO.refl _)
  |(with_reducible exact LeO.none _)
  |(with_reducible refine LeO.ite ?_ ?_)
  |(with_reducible refine LeO.bind ?_ (fun _=>?_))
  |exact spec_l1Cur_anySheet.mono _ _ _ _
  |exact spec_l1Cur_changed.mono _ _ _ _ _
  |exact spec_l1Cur_sheet.mono _ _ _ _
  |exact spec_mgLess.mono _ _ _
  |exact LeO.none _
   | refine LeO.ite ?_ ?_
   | refine LeO.bind ?_ (fun _=>?_)
set_option maxHeartbeats 8000000 in
set_option maxRecDepth 100000 in
theorem spec_DrawApplyDifference.calls (k:Nat) (A0:Option Addr) (c0:Nat) (l0:List Int) (r1:List (S40)) (r2:List (S40)) (r3:List (S40)) (w:World) (hr0:Kd.C (Kd.int .u8) w A0 l0.length l0) (hc0:l0.length≤c0) (h:spec_DrawApplyDifference.f k l0=some (r1,r2,r3)) :
 Calls Tryz.prog 22 #[.slice A0 l0.length c0] w fun e w'=>∃v0_ v1_ v2_:Value,e = .returned (.tuple #[v0_,v1_,v2_])∧Kd.R k40 40 w' w.heap.size (fun k_=>some k_≠(v1_:Value).ownBlock∧some k_≠(v2_:Value).ownBlock) v0_ r1∧Kd.R k40 40 w' w.heap.size (fun k_=>some k_≠(v0_:Value).ownBlock∧some k_≠(v2_:Value).ownBlock) v1_ r2∧Kd.R k40 40 w' w.heap.size (fun k_=>some k_≠(v0_:Value).ownBlock∧some k_≠(v1_:Value).ownBlock) v2_ r3∧Below w.heap.size w w':=by
 have hu69:=Tryz.underlying69
 have HR0:=am_ hr0
 have HC0:=am_ hc0
 clear hr0 hc0
 have HB:=am_ (Below.refl w.heap.size w)
 have H:((spec_l1Cur_anySheet.f k l0 0 0).bind fun bt615=>((spec_l1Cur_changed.f k l0 bt615.2.1 bt615.2.2 bt615.1).bind fun bt620=>((spec_mgLess.f k bt615.1 bt620.1).bind fun t625=>((spec_mgLess.f k bt620.1 bt615.1).bind fun t628=>((spec_l1Cur_pick.f l0 bt620.2.1 bt620.2.2 8).bind fun bt631=>(if bt631.1=0 then((spec_l1Cur_sheet.f k l0 bt631.2.1 bt631.2.2).bind fun bt634=>(some (bt615.1,bt634.1,t628))) else(if bt631.1=1 then((spec_l1Cur_sheet.f k l0 bt631.2.1 bt631.2.2).bind fun bt639=>(some (bt615.1,t625,bt639.1))) else(if bt631.1=2 then((spec_l1Cur_anyHole.f l0 bt631.2.1 bt631.2.2).bind fun bt644=>(if t628.length<5864062014805 then(some (bt615.1,t625,(t628 ++ [(⟨bt644.1,bt644.2.1,bt644.2.2.1⟩:S40)]))) else(none))) else(some (bt615.1,t625,t628))))))))))=some (r1,r2,r3):=h
 clear h
 obtain⟨⟨t615,t618,t619⟩,A2,H⟩:=bo_ H
 try dsimp only at H
 obtain⟨⟨t620,t623,t624⟩,A3,H⟩:=bo_ H
 try dsimp only at H
 obtain⟨t625,A4,H⟩:=bo_ H
 try dsimp only at H
 obtain⟨t628,A5,H⟩:=bo_ H
 try dsimp only at H
 obtain⟨⟨t631,t632,t633⟩,A6,H⟩:=bo_ H
 try dsimp only at H
 by_cases c7:t631=0
 ·rw[if_pos c7]at H
  have c7b0:(t631 == 0)=true:=beq_iff_eq.mpr c7
  have c7b1:(t631 != 0)=false:=bne_eq_false_iff_eq.mpr c7
  clear c7
  obtain⟨⟨t634,t637,t638⟩,A8,H⟩:=bo_ H
  try dsimp only at H
  simp only[Option.some.injEq,Prod.mk.injEq]at H
  obtain⟨rfl,rfl,rfl⟩:=H
  go_enter Tryz.func22,Tryz.ntmps22
  go_wp2_with (first|((with_reducible refine gate_dst (N:=12) rfl ?_);refine box_event ?hg (N:=12) ?hd (cs:= #[.slice A0 l0.length c0, .int .i64 0, .int .u64 0]) (t:=69) ?hr ?_;(case hd=>rfl);(case hg=>rfl);(case hr=>exact hr_);intro g614 hg w9 hbox hb;have HI614:=am_ ((⟨_,_,hbox,by rw[hg];exact(below_size (a1_)),HR0.out⟩:IsS69 w w9 g614 l0 0 0));replace HB:=am_ (below_step (a1_) hb);clear hb hbox hg)|((with_reducible refine gate_callee (f:=42) rfl ?_);refine goesL_ (some 14) rfl rfl Tryz.func42 (by kernel_rfl) rfl #[.pointer (some ⟨g614,0,none⟩)] rfl gd_ ?_;(with_reducible refine(spec_l1Cur_anySheet.calls k g614 l0 0 0 t615 t618 t619 w _ ?side1 ?side2 A2.out).mono ?_);(case side1=>exact(a2_ HI614.out));(case side2=>exact(a3_ HI614.out));rintro e w10 ⟨v616,rfl,ho0,hi,hb,hk⟩;refine⟨_,rfl,?_⟩;have HO617:=am_ (Kd.R_lower ho0 (below_size ((a3_ HI614.out))));replace HB:=am_ (hb);replace HI614:=am_ (hi);(try clear hb);(try clear hb2);(try clear hk);(try clear hi);(try clear ho0);obtain⟨Ao11,co11,eo11⟩:=Kd.R_slice HO617.out;subst eo11)|((with_reducible refine gate_callee (f:=44) rfl ?_);refine goesL_ (some 17) rfl rfl Tryz.func44 (by kernel_rfl) rfl #[.pointer (some ⟨g614,0,none⟩), .slice Ao11 t615.length co11] rfl gd_ ?_;(with_reducible refine(spec_l1Cur_changed.calls k g614 l0 t618 t619 _ _ t615 t620 t623 t624 w _ ?side1 ?side2 ?side3 ?side4 A3.out).mono ?_);(case side1=>exact(a2_ HI614.out));(case side2=>exact(a3_ HI614.out));(case side3=>exact Kd.C_foot_own (IsS69.apart (show IsS69 w _ g614 l0 t618 t619 from(a2_ HI614.out)) ((a0_ HO617.out)) (by decide)) (fun _ h_=>h_.2));(case side4=>exact(Kd.R_reads' HO617.out).2.1);rintro e w12 ⟨v621,rfl,ho0,hi,hb,hk⟩;refine⟨_,rfl,?_⟩;have HO622:=am_ (Kd.R_lower (Kd.R_new' ho0 (Kd.R_lt ((a0_ HO617.out)))) (below_size ((a3_ HI614.out))));replace HO617:=am_ (Kd.R_mono (Kd.R_told (Kd.R_oldK (IsS69.apart (show IsS69 w _ g614 l0 t618 t619 from(a2_ HI614.out)) ((a0_ HO617.out)) (by decide)) hk) (Kd.R_base ho0)) (fun _ h_=>h_.1));replace HB:=am_ (hb);replace HI614:=am_ (hi);(try clear hb);(try clear hb2);(try clear hk);(try clear hi);(try clear ho0);obtain⟨Ao13,co13,eo13⟩:=Kd.R_slice HO622.out;subst eo13)|((with_reducible refine gate_callee (f:=48) rfl ?_);refine goesL_ (some 20) rfl rfl Tryz.func48 (by kernel_rfl) rfl #[.slice Ao11 t615.length co11, .slice Ao13 t620.length co13] rfl gd_ ?_;(with_reducible refine(spec_mgLess.calls k _ _ t615 _ _ t620 t625 _ ?side1 ?side2 ?side3 ?side4 A4.out).mono ?_);(case side1=>exact(a8_ HO617.out));(case side2=>exact(Kd.R_reads' HO617.out).2.1);(case side3=>exact(a8_ HO622.out));(case side4=>exact(Kd.R_reads' HO622.out).2.1);rintro e w14 ⟨v626,rfl,ho0,hb⟩;refine⟨_,rfl,?_⟩;have HO627:=am_ (Kd.R_lower (Kd.R_new' (Kd.R_new' ho0 (Kd.R_lt ((a0_ HO617.out)))) (Kd.R_lt ((a0_ HO622.out)))) (below_size ((a3_ HI614.out))));replace HO617:=am_ (Kd.R_elder' ((a0_ HO617.out)) (Kd.R_base ho0) hb);replace HO622:=am_ (Kd.R_elder' ((a0_ HO622.out)) (Kd.R_base ho0) hb);replace HB:=am_ (below_step ((a3_ HI614.out)) hb);replace HI614:=am_ (IsS69.below ((a2_ HI614.out)) hb);(try clear hb);(try clear hb2);(try clear hk);(try clear hi);(try clear ho0))|((with_reducible refine gate_callee (f:=48) rfl ?_);refine goesL_ (some 23) rfl rfl Tryz.func48 (by kernel_rfl) rfl #[.slice Ao13 t620.length co13, .slice Ao11 t615.length co11] rfl gd_ ?_;(with_reducible refine(spec_mgLess.calls k _ _ t620 _ _ t615 t628 _ ?side1 ?side2 ?side3 ?side4 A5.out).mono ?_);(case side1=>exact(a8_ HO622.out));(case side2=>exact(Kd.R_reads' HO622.out).2.1);(case side3=>exact(a8_ HO617.out));(case side4=>exact(Kd.R_reads' HO617.out).2.1);rintro e w15 ⟨v629,rfl,ho0,hb⟩;refine⟨_,rfl,?_⟩;have HO630:=am_ (Kd.R_lower (Kd.R_new' (Kd.R_new' (Kd.R_new' ho0 (Kd.R_lt ((a0_ HO617.out)))) (Kd.R_lt ((a0_ HO622.out)))) (Kd.R_lt ((a0_ HO627.out)))) (below_size ((a3_ HI614.out))));replace HO617:=am_ (Kd.R_elder' ((a0_ HO617.out)) (Kd.R_base ho0) hb);replace HO622:=am_ (Kd.R_elder' ((a0_ HO622.out)) (Kd.R_base ho0) hb);replace HO627:=am_ (Kd.R_elder' ((a0_ HO627.out)) (Kd.R_base ho0) hb);replace HB:=am_ (below_step ((a3_ HI614.out)) hb);replace HI614:=am_ (IsS69.below ((a2_ HI614.out)) hb);(try clear hb);(try clear hb2);(try clear hk);(try clear hi);(try clear ho0))|((with_reducible refine gate_callee (f:=55) rfl ?_);refine goesL_ (some 25) rfl rfl Tryz.func55 (by kernel_rfl) rfl #[.pointer (some ⟨g614,0,none⟩), .int .i64 8] rfl gd_ ?_;(with_reducible refine(spec_l1Cur_pick.calls g614 l0 t623 t624 8 t631 t632 t633 w _ ?side1 ?side2 A6.out).mono ?_);(case side1=>exact(a2_ HI614.out));(case side2=>exact(a3_ HI614.out));rintro e w16 ⟨rfl,hi,hb,hk⟩;refine⟨_,rfl,?_⟩;replace HO617:=am_ (Kd.R_mono (Kd.R_keep (IsS69.apart (show IsS69 w _ g614 l0 t623 t624 from(a2_ HI614.out)) ((a0_ HO617.out)) (by decide)) hk (fun _ h=>h.2)) (fun _ h=>h.1));replace HO622:=am_ (Kd.R_mono (Kd.R_keep (IsS69.apart (show IsS69 w _ g614 l0 t623 t624 from(a2_ HI614.out)) ((a0_ HO622.out)) (by decide)) hk (fun _ h=>h.2)) (fun _ h=>h.1));replace HO627:=am_ (Kd.R_mono (Kd.R_keep (IsS69.apart (show IsS69 w _ g614 l0 t623 t624 from(a2_ HI614.out)) ((a0_ HO627.out)) (by decide)) hk (fun _ h=>h.2)) (fun _ h=>h.1));replace HO630:=am_ (Kd.R_mono (Kd.R_keep (IsS69.apart (show IsS69 w _ g614 l0 t623 t624 from(a2_ HI614.out)) ((a0_ HO630.out)) (by decide)) hk (fun _ h=>h.2)) (fun _ h=>h.1));replace HB:=am_ (hb);replace HI614:=am_ (hi);(try clear hb);(try clear hb2);(try clear hk);(try clear hi))|((with_reducible refine gate_callee (f:=60) rfl ?_);refine goesL_ (some 29) rfl rfl Tryz.func60 (by kernel_rfl) rfl #[.pointer (some ⟨g614,0,none⟩)] rfl gd_ ?_;(with_reducible refine(spec_l1Cur_sheet.calls k g614 l0 t632 t633 t634 t637 t638 w _ ?side1 ?side2 A8.out).mono ?_);(case side1=>exact(a2_ HI614.out));(case side2=>exact(a3_ HI614.out));rintro e w17 ⟨v635,rfl,ho0,hi,hb,hk⟩;refine⟨_,rfl,?_⟩;have HO636:=am_ (Kd.R_lower (Kd.R_new' (Kd.R_new' (Kd.R_new' (Kd.R_new' ho0 (Kd.R_lt ((a0_ HO617.out)))) (Kd.R_lt ((a0_ HO622.out)))) (Kd.R_lt ((a0_ HO627.out)))) (Kd.R_lt ((a0_ HO630.out)))) (below_size ((a3_ HI614.out))));replace HO617:=am_ (Kd.R_mono (Kd.R_told (Kd.R_oldK (IsS69.apart (show IsS69 w _ g614 l0 t632 t633 from(a2_ HI614.out)) ((a0_ HO617.out)) (by decide)) hk) (Kd.R_base ho0)) (fun _ h_=>h_.1));replace HO622:=am_ (Kd.R_mono (Kd.R_told (Kd.R_oldK (IsS69.apart (show IsS69 w _ g614 l0 t632 t633 from(a2_ HI614.out)) ((a0_ HO622.out)) (by decide)) hk) (Kd.R_base ho0)) (fun _ h_=>h_.1));replace HO627:=am_ (Kd.R_mono (Kd.R_told (Kd.R_oldK (IsS69.apart (show IsS69 w _ g614 l0 t632 t633 from(a2_ HI614.out)) ((a0_ HO627.out)) (by decide)) hk) (Kd.R_base ho0)) (fun _ h_=>h_.1));replace HO630:=am_ (Kd.R_mono (Kd.R_told (Kd.R_oldK (IsS69.apart (show IsS69 w _ g614 l0 t632 t633 from(a2_ HI614.out)) ((a0_ HO630.out)) (by decide)) hk) (Kd.R_base ho0)) (fun _ h_=>h_.1));replace HB:=am_ (hb);replace HI614:=am_ (hi);(try clear hb);(try clear hb2);(try clear hk);(try clear hi);(try clear ho0)))
  go_ret3
  exact⟨_,_,_,a10_,(a49_ HO617.out),(a46_ HO636.out),(a46_ HO630.out),(a3_ HI614.out)⟩
 ·rw[if_neg c7]at H
  have c7b0:(t631 == 0)=false:=beq_eq_false_iff_ne.mpr c7
  have c7b1:(t631 != 0)=true:=bne_iff_ne.mpr c7
  by_cases c18:t631=1
  ·rw[if_pos c18]at H
   have c18b0:(t631 == 1)=true:=beq_iff_eq.mpr c18
   have c18b1:(t631 != 1)=false:=bne_eq_false_iff_eq.mpr c18
   clear c18
   obtain⟨⟨t639,t642,t643⟩,A19,H⟩:=bo_ H
   try dsimp only at H
   simp only[Option.some.injEq,Prod.mk.injEq]at H
   obtain⟨rfl,rfl,rfl⟩:=H
   go_enter Tryz.func22,Tryz.ntmps22
   go_wp2_with (first|((with_reducible refine gate_dst (N:=12) rfl ?_);refine box_event ?hg (N:=12) ?hd (cs:= #[.slice A0 l0.length c0, .int .i64 0, .int .u64 0]) (t:=69) ?hr ?_;(case hd=>rfl);(case hg=>rfl);(case hr=>exact hr_);intro g614 hg w20 hbox hb;have HI614:=am_ ((⟨_,_,hbox,by rw[hg];exact(below_size (a1_)),HR0.out⟩:IsS69 w w20 g614 l0 0 0));replace HB:=am_ (below_step (a1_) hb);clear hb hbox hg)|((with_reducible refine gate_callee (f:=42) rfl ?_);refine goesL_ (some 14) rfl rfl Tryz.func42 (by kernel_rfl) rfl #[.pointer (some ⟨g614,0,none⟩)] rfl gd_ ?_;(with_reducible refine(spec_l1Cur_anySheet.calls k g614 l0 0 0 t615 t618 t619 w _ ?side1 ?side2 A2.out).mono ?_);(case side1=>exact(a2_ HI614.out));(case side2=>exact(a3_ HI614.out));rintro e w21 ⟨v616,rfl,ho0,hi,hb,hk⟩;refine⟨_,rfl,?_⟩;have HO617:=am_ (Kd.R_lower ho0 (below_size ((a3_ HI614.out))));replace HB:=am_ (hb);replace HI614:=am_ (hi);(try clear hb);(try clear hb2);(try clear hk);(try clear hi);(try clear ho0);obtain⟨Ao22,co22,eo22⟩:=Kd.R_slice HO617.out;subst eo22)|((with_reducible refine gate_callee (f:=44) rfl ?_);refine goesL_ (some 17) rfl rfl Tryz.func44 (by kernel_rfl) rfl #[.pointer (some ⟨g614,0,none⟩), .slice Ao22 t615.length co22] rfl gd_ ?_;(with_reducible refine(spec_l1Cur_changed.calls k g614 l0 t618 t619 _ _ t615 t620 t623 t624 w _ ?side1 ?side2 ?side3 ?side4 A3.out).mono ?_);(case side1=>exact(a2_ HI614.out));(case side2=>exact(a3_ HI614.out));(case side3=>exact Kd.C_foot_own (IsS69.apart (show IsS69 w _ g614 l0 t618 t619 from(a2_ HI614.out)) ((a0_ HO617.out)) (by decide)) (fun _ h_=>h_.2));(case side4=>exact(Kd.R_reads' HO617.out).2.1);rintro e w23 ⟨v621,rfl,ho0,hi,hb,hk⟩;refine⟨_,rfl,?_⟩;have HO622:=am_ (Kd.R_lower (Kd.R_new' ho0 (Kd.R_lt ((a0_ HO617.out)))) (below_size ((a3_ HI614.out))));replace HO617:=am_ (Kd.R_mono (Kd.R_told (Kd.R_oldK (IsS69.apart (show IsS69 w _ g614 l0 t618 t619 from(a2_ HI614.out)) ((a0_ HO617.out)) (by decide)) hk) (Kd.R_base ho0)) (fun _ h_=>h_.1));replace HB:=am_ (hb);replace HI614:=am_ (hi);(try clear hb);(try clear hb2);(try clear hk);(try clear hi);(try clear ho0);obtain⟨Ao24,co24,eo24⟩:=Kd.R_slice HO622.out;subst eo24)|((with_reducible refine gate_callee (f:=48) rfl ?_);refine goesL_ (some 20) rfl rfl Tryz.func48 (by kernel_rfl) rfl #[.slice Ao22 t615.length co22, .slice Ao24 t620.length co24] rfl gd_ ?_;(with_reducible refine(spec_mgLess.calls k _ _ t615 _ _ t620 t625 _ ?side1 ?side2 ?side3 ?side4 A4.out).mono ?_);(case side1=>exact(a8_ HO617.out));(case side2=>exact(Kd.R_reads' HO617.out).2.1);(case side3=>exact(a8_ HO622.out));(case side4=>exact(Kd.R_reads' HO622.out).2.1);rintro e w25 ⟨v626,rfl,ho0,hb⟩;refine⟨_,rfl,?_⟩;have HO627:=am_ (Kd.R_lower (Kd.R_new' (Kd.R_new' ho0 (Kd.R_lt ((a0_ HO617.out)))) (Kd.R_lt ((a0_ HO622.out)))) (below_size ((a3_ HI614.out))));replace HO617:=am_ (Kd.R_elder' ((a0_ HO617.out)) (Kd.R_base ho0) hb);replace HO622:=am_ (Kd.R_elder' ((a0_ HO622.out)) (Kd.R_base ho0) hb);replace HB:=am_ (below_step ((a3_ HI614.out)) hb);replace HI614:=am_ (IsS69.below ((a2_ HI614.out)) hb);(try clear hb);(try clear hb2);(try clear hk);(try clear hi);(try clear ho0))|((with_reducible refine gate_callee (f:=48) rfl ?_);refine goesL_ (some 23) rfl rfl Tryz.func48 (by kernel_rfl) rfl #[.slice Ao24 t620.length co24, .slice Ao22 t615.length co22] rfl gd_ ?_;(with_reducible refine(spec_mgLess.calls k _ _ t620 _ _ t615 t628 _ ?side1 ?side2 ?side3 ?side4 A5.out).mono ?_);(case side1=>exact(a8_ HO622.out));(case side2=>exact(Kd.R_reads' HO622.out).2.1);(case side3=>exact(a8_ HO617.out));(case side4=>exact(Kd.R_reads' HO617.out).2.1);rintro e w26 ⟨v629,rfl,ho0,hb⟩;refine⟨_,rfl,?_⟩;have HO630:=am_ (Kd.R_lower (Kd.R_new' (Kd.R_new' (Kd.R_new' ho0 (Kd.R_lt ((a0_ HO617.out)))) (Kd.R_lt ((a0_ HO622.out)))) (Kd.R_lt ((a0_ HO627.out)))) (below_size ((a3_ HI614.out))));replace HO617:=am_ (Kd.R_elder' ((a0_ HO617.out)) (Kd.R_base ho0) hb);replace HO622:=am_ (Kd.R_elder' ((a0_ HO622.out)) (Kd.R_base ho0) hb);replace HO627:=am_ (Kd.R_elder' ((a0_ HO627.out)) (Kd.R_base ho0) hb);replace HB:=am_ (below_step ((a3_ HI614.out)) hb);replace HI614:=am_ (IsS69.below ((a2_ HI614.out)) hb);(try clear hb);(try clear hb2);(try clear hk);(try clear hi);(try clear ho0))|((with_reducible refine gate_callee (f:=55) rfl ?_);refine goesL_ (some 25) rfl rfl Tryz.func55 (by kernel_rfl) rfl #[.pointer (some ⟨g614,0,none⟩), .int .i64 8] rfl gd_ ?_;(with_reducible refine(spec_l1Cur_pick.calls g614 l0 t623 t624 8 t631 t632 t633 w _ ?side1 ?side2 A6.out).mono ?_);(case side1=>exact(a2_ HI614.out));(case side2=>exact(a3_ HI614.out));rintro e w27 ⟨rfl,hi,hb,hk⟩;refine⟨_,rfl,?_⟩;replace HO617:=am_ (Kd.R_mono (Kd.R_keep (IsS69.apart (show IsS69 w _ g614 l0 t623 t624 from(a2_ HI614.out)) ((a0_ HO617.out)) (by decide)) hk (fun _ h=>h.2)) (fun _ h=>h.1));replace HO622:=am_ (Kd.R_mono (Kd.R_keep (IsS69.apart (show IsS69 w _ g614 l0 t623 t624 from(a2_ HI614.out)) ((a0_ HO622.out)) (by decide)) hk (fun _ h=>h.2)) (fun _ h=>h.1));replace HO627:=am_ (Kd.R_mono (Kd.R_keep (IsS69.apart (show IsS69 w _ g614 l0 t623 t624 from(a2_ HI614.out)) ((a0_ HO627.out)) (by decide)) hk (fun _ h=>h.2)) (fun _ h=>h.1));replace HO630:=am_ (Kd.R_mono (Kd.R_keep (IsS69.apart (show IsS69 w _ g614 l0 t623 t624 from(a2_ HI614.out)) ((a0_ HO630.out)) (by decide)) hk (fun _ h=>h.2)) (fun _ h=>h.1));replace HB:=am_ (hb);replace HI614:=am_ (hi);(try clear hb);(try clear hb2);(try clear hk);(try clear hi))|((with_reducible refine gate_callee (f:=60) rfl ?_);refine goesL_ (some 33) rfl rfl Tryz.func60 (by kernel_rfl) rfl #[.pointer (some ⟨g614,0,none⟩)] rfl gd_ ?_;(with_reducible refine(spec_l1Cur_sheet.calls k g614 l0 t632 t633 t639 t642 t643 w _ ?side1 ?side2 A19.out).mono ?_);(case side1=>exact(a2_ HI614.out));(case side2=>exact(a3_ HI614.out));rintro e w28 ⟨v640,rfl,ho0,hi,hb,hk⟩;refine⟨_,rfl,?_⟩;have HO641:=am_ (Kd.R_lower (Kd.R_new' (Kd.R_new' (Kd.R_new' (Kd.R_new' ho0 (Kd.R_lt ((a0_ HO617.out)))) (Kd.R_lt ((a0_ HO622.out)))) (Kd.R_lt ((a0_ HO627.out)))) (Kd.R_lt ((a0_ HO630.out)))) (below_size ((a3_ HI614.out))));replace HO617:=am_ (Kd.R_mono (Kd.R_told (Kd.R_oldK (IsS69.apart (show IsS69 w _ g614 l0 t632 t633 from(a2_ HI614.out)) ((a0_ HO617.out)) (by decide)) hk) (Kd.R_base ho0)) (fun _ h_=>h_.1));replace HO622:=am_ (Kd.R_mono (Kd.R_told (Kd.R_oldK (IsS69.apart (show IsS69 w _ g614 l0 t632 t633 from(a2_ HI614.out)) ((a0_ HO622.out)) (by decide)) hk) (Kd.R_base ho0)) (fun _ h_=>h_.1));replace HO627:=am_ (Kd.R_mono (Kd.R_told (Kd.R_oldK (IsS69.apart (show IsS69 w _ g614 l0 t632 t633 from(a2_ HI614.out)) ((a0_ HO627.out)) (by decide)) hk) (Kd.R_base ho0)) (fun _ h_=>h_.1));replace HO630:=am_ (Kd.R_mono (Kd.R_told (Kd.R_oldK (IsS69.apart (show IsS69 w _ g614 l0 t632 t633 from(a2_ HI614.out)) ((a0_ HO630.out)) (by decide)) hk) (Kd.R_base ho0)) (fun _ h_=>h_.1));replace HB:=am_ (hb);replace HI614:=am_ (hi);(try clear hb);(try clear hb2);(try clear hk);(try clear hi);(try clear ho0)))
   go_ret3
   exact⟨_,_,_,a10_,(a47_ HO617.out),(a46_ HO627.out),by(with_reducible repeat (first|apply Kd.R_alloc|apply Kd.R_drewN|apply Kd.R_drew));exact Kd.R_mono HO641.out (fun _ hk=>⟨hk.1.1.1.2,hk.1.2⟩),(a3_ HI614.out)⟩
  ·rw[if_neg c18]at H
   have c18b0:(t631 == 1)=false:=beq_eq_false_iff_ne.mpr c18
   have c18b1:(t631 != 1)=true:=bne_iff_ne.mpr c18
   by_cases c29:t631=2
   ·rw[if_pos c29]at H
    have c29b0:(t631 == 2)=true:=beq_iff_eq.mpr c29
    have c29b1:(t631 != 2)=false:=bne_eq_false_iff_eq.mpr c29
    clear c29
    obtain⟨⟨t644,t645,t646,t647,t648⟩,A30,H⟩:=bo_ H
    try dsimp only at H
    by_cases c31:t628.length<5864062014805
    ·rw[if_pos c31]at H
     have LMc31:=am_ c31
     clear c31
     obtain⟨y649,hy649⟩:∃y_:List (S40),y_=(t628 ++ [(⟨t644,t645,t646⟩:S40)]):=⟨_,rfl⟩
     replace H:(some (t615,t625,y649))=some (r1,r2,r3):=by first|(rw[hy649];with_reducible exact H)|(have H2_:=(Option.bind_some _ _).symm.trans H;rw[hy649];with_reducible exact H2_)|(have H2_:=(Option.bind_some _ _).symm.trans H;with_reducible exact H2_) | with_reducible exact H|(rw[hy649];exact H)|exact H
     have Ny649:=am_ hy649
     clear hy649
     simp only[Option.some.injEq,Prod.mk.injEq]at H
     obtain⟨rfl,rfl,rfl⟩:=H
     go_enter Tryz.func22,Tryz.ntmps22
     go_wp2_with (first|((with_reducible refine gate_dst (N:=12) rfl ?_);refine box_event ?hg (N:=12) ?hd (cs:= #[.slice A0 l0.length c0, .int .i64 0, .int .u64 0]) (t:=69) ?hr ?_;(case hd=>rfl);(case hg=>rfl);(case hr=>exact hr_);intro g614 hg w32 hbox hb;have HI614:=am_ ((⟨_,_,hbox,by rw[hg];exact(below_size (a1_)),HR0.out⟩:IsS69 w w32 g614 l0 0 0));replace HB:=am_ (below_step (a1_) hb);clear hb hbox hg)|((with_reducible refine gate_callee (f:=42) rfl ?_);refine goesL_ (some 14) rfl rfl Tryz.func42 (by kernel_rfl) rfl #[.pointer (some ⟨g614,0,none⟩)] rfl gd_ ?_;(with_reducible refine(spec_l1Cur_anySheet.calls k g614 l0 0 0 t615 t618 t619 w _ ?side1 ?side2 A2.out).mono ?_);(case side1=>exact(a2_ HI614.out));(case side2=>exact(a3_ HI614.out));rintro e w33 ⟨v616,rfl,ho0,hi,hb,hk⟩;refine⟨_,rfl,?_⟩;have HO617:=am_ (Kd.R_lower ho0 (below_size ((a3_ HI614.out))));replace HB:=am_ (hb);replace HI614:=am_ (hi);(try clear hb);(try clear hb2);(try clear hk);(try clear hi);(try clear ho0);obtain⟨Ao34,co34,eo34⟩:=Kd.R_slice HO617.out;subst eo34)|((with_reducible refine gate_callee (f:=44) rfl ?_);refine goesL_ (some 17) rfl rfl Tryz.func44 (by kernel_rfl) rfl #[.pointer (some ⟨g614,0,none⟩), .slice Ao34 t615.length co34] rfl gd_ ?_;(with_reducible refine(spec_l1Cur_changed.calls k g614 l0 t618 t619 _ _ t615 t620 t623 t624 w _ ?side1 ?side2 ?side3 ?side4 A3.out).mono ?_);(case side1=>exact(a2_ HI614.out));(case side2=>exact(a3_ HI614.out));(case side3=>exact Kd.C_foot_own (IsS69.apart (show IsS69 w _ g614 l0 t618 t619 from(a2_ HI614.out)) ((a0_ HO617.out)) (by decide)) (fun _ h_=>h_.2));(case side4=>exact(Kd.R_reads' HO617.out).2.1);rintro e w35 ⟨v621,rfl,ho0,hi,hb,hk⟩;refine⟨_,rfl,?_⟩;have HO622:=am_ (Kd.R_lower (Kd.R_new' ho0 (Kd.R_lt ((a0_ HO617.out)))) (below_size ((a3_ HI614.out))));replace HO617:=am_ (Kd.R_mono (Kd.R_told (Kd.R_oldK (IsS69.apart (show IsS69 w _ g614 l0 t618 t619 from(a2_ HI614.out)) ((a0_ HO617.out)) (by decide)) hk) (Kd.R_base ho0)) (fun _ h_=>h_.1));replace HB:=am_ (hb);replace HI614:=am_ (hi);(try clear hb);(try clear hb2);(try clear hk);(try clear hi);(try clear ho0);obtain⟨Ao36,co36,eo36⟩:=Kd.R_slice HO622.out;subst eo36)|((with_reducible refine gate_callee (f:=48) rfl ?_);refine goesL_ (some 20) rfl rfl Tryz.func48 (by kernel_rfl) rfl #[.slice Ao34 t615.length co34, .slice Ao36 t620.length co36] rfl gd_ ?_;(with_reducible refine(spec_mgLess.calls k _ _ t615 _ _ t620 t625 _ ?side1 ?side2 ?side3 ?side4 A4.out).mono ?_);(case side1=>exact(a8_ HO617.out));(case side2=>exact(Kd.R_reads' HO617.out).2.1);(case side3=>exact(a8_ HO622.out));(case side4=>exact(Kd.R_reads' HO622.out).2.1);rintro e w37 ⟨v626,rfl,ho0,hb⟩;refine⟨_,rfl,?_⟩;have HO627:=am_ (Kd.R_lower (Kd.R_new' (Kd.R_new' ho0 (Kd.R_lt ((a0_ HO617.out)))) (Kd.R_lt ((a0_ HO622.out)))) (below_size ((a3_ HI614.out))));replace HO617:=am_ (Kd.R_elder' ((a0_ HO617.out)) (Kd.R_base ho0) hb);replace HO622:=am_ (Kd.R_elder' ((a0_ HO622.out)) (Kd.R_base ho0) hb);replace HB:=am_ (below_step ((a3_ HI614.out)) hb);replace HI614:=am_ (IsS69.below ((a2_ HI614.out)) hb);(try clear hb);(try clear hb2);(try clear hk);(try clear hi);(try clear ho0))|((with_reducible refine gate_callee (f:=48) rfl ?_);refine goesL_ (some 23) rfl rfl Tryz.func48 (by kernel_rfl) rfl #[.slice Ao36 t620.length co36, .slice Ao34 t615.length co34] rfl gd_ ?_;(with_reducible refine(spec_mgLess.calls k _ _ t620 _ _ t615 t628 _ ?side1 ?side2 ?side3 ?side4 A5.out).mono ?_);(case side1=>exact(a8_ HO622.out));(case side2=>exact(Kd.R_reads' HO622.out).2.1);(case side3=>exact(a8_ HO617.out));(case side4=>exact(Kd.R_reads' HO617.out).2.1);rintro e w38 ⟨v629,rfl,ho0,hb⟩;refine⟨_,rfl,?_⟩;have HO630:=am_ (Kd.R_lower (Kd.R_new' (Kd.R_new' (Kd.R_new' ho0 (Kd.R_lt ((a0_ HO617.out)))) (Kd.R_lt ((a0_ HO622.out)))) (Kd.R_lt ((a0_ HO627.out)))) (below_size ((a3_ HI614.out))));replace HO617:=am_ (Kd.R_elder' ((a0_ HO617.out)) (Kd.R_base ho0) hb);replace HO622:=am_ (Kd.R_elder' ((a0_ HO622.out)) (Kd.R_base ho0) hb);replace HO627:=am_ (Kd.R_elder' ((a0_ HO627.out)) (Kd.R_base ho0) hb);replace HB:=am_ (below_step ((a3_ HI614.out)) hb);replace HI614:=am_ (IsS69.below ((a2_ HI614.out)) hb);(try clear hb);(try clear hb2);(try clear hk);(try clear hi);(try clear ho0))|((with_reducible refine gate_callee (f:=55) rfl ?_);refine goesL_ (some 25) rfl rfl Tryz.func55 (by kernel_rfl) rfl #[.pointer (some ⟨g614,0,none⟩), .int .i64 8] rfl gd_ ?_;(with_reducible refine(spec_l1Cur_pick.calls g614 l0 t623 t624 8 t631 t632 t633 w _ ?side1 ?side2 A6.out).mono ?_);(case side1=>exact(a2_ HI614.out));(case side2=>exact(a3_ HI614.out));rintro e w39 ⟨rfl,hi,hb,hk⟩;refine⟨_,rfl,?_⟩;replace HO617:=am_ (Kd.R_mono (Kd.R_keep (IsS69.apart (show IsS69 w _ g614 l0 t623 t624 from(a2_ HI614.out)) ((a0_ HO617.out)) (by decide)) hk (fun _ h=>h.2)) (fun _ h=>h.1));replace HO622:=am_ (Kd.R_mono (Kd.R_keep (IsS69.apart (show IsS69 w _ g614 l0 t623 t624 from(a2_ HI614.out)) ((a0_ HO622.out)) (by decide)) hk (fun _ h=>h.2)) (fun _ h=>h.1));replace HO627:=am_ (Kd.R_mono (Kd.R_keep (IsS69.apart (show IsS69 w _ g614 l0 t623 t624 from(a2_ HI614.out)) ((a0_ HO627.out)) (by decide)) hk (fun _ h=>h.2)) (fun _ h=>h.1));replace HO630:=am_ (Kd.R_mono (Kd.R_keep (IsS69.apart (show IsS69 w _ g614 l0 t623 t624 from(a2_ HI614.out)) ((a0_ HO630.out)) (by decide)) hk (fun _ h=>h.2)) (fun _ h=>h.1));replace HB:=am_ (hb);replace HI614:=am_ (hi);(try clear hb);(try clear hb2);(try clear hk);(try clear hi))|((with_reducible refine gate_callee (f:=61) rfl ?_);refine goesL_ (some 38) rfl rfl Tryz.func61 (by kernel_rfl) rfl #[.pointer (some ⟨g614,0,none⟩)] rfl gd_ ?_;(with_reducible refine(spec_l1Cur_anyHole.calls g614 l0 t632 t633 t644 t645 t646 t647 t648 w _ ?side1 ?side2 A30.out).mono ?_);(case side1=>exact(a2_ HI614.out));(case side2=>exact(a3_ HI614.out));rintro e w40 ⟨rfl,hi,hb,hk⟩;refine⟨_,rfl,?_⟩;replace HO617:=am_ (Kd.R_mono (Kd.R_keep (IsS69.apart (show IsS69 w _ g614 l0 t632 t633 from(a2_ HI614.out)) ((a0_ HO617.out)) (by decide)) hk (fun _ h=>h.2)) (fun _ h=>h.1));replace HO622:=am_ (Kd.R_mono (Kd.R_keep (IsS69.apart (show IsS69 w _ g614 l0 t632 t633 from(a2_ HI614.out)) ((a0_ HO622.out)) (by decide)) hk (fun _ h=>h.2)) (fun _ h=>h.1));replace HO627:=am_ (Kd.R_mono (Kd.R_keep (IsS69.apart (show IsS69 w _ g614 l0 t632 t633 from(a2_ HI614.out)) ((a0_ HO627.out)) (by decide)) hk (fun _ h=>h.2)) (fun _ h=>h.1));replace HO630:=am_ (Kd.R_mono (Kd.R_keep (IsS69.apart (show IsS69 w _ g614 l0 t632 t633 from(a2_ HI614.out)) ((a0_ HO630.out)) (by decide)) hk (fun _ h=>h.2)) (fun _ h=>h.1));replace HB:=am_ (hb);replace HI614:=am_ (hi);(try clear hb);(try clear hb2);(try clear hk);(try clear hi))|((with_reducible refine gate_builtin (b:= .append) (xs:= #[.tmp 36, .tmp 39]) rfl ?_);at_builtin;refine Kd.R_append k40 (w0:=w) w.heap.size rfl (.tmp 36) (.tmp 39) 24 40 (.agg #[(.int .i64 0),(.int .i64 0),(.int .i64 0)]) 24 rfl Tryz.underlying24 info40 rfl (by decide) (by omega) v629 t628 (⟨t644,t645,t646⟩:S40) [.int .i64 t644, .int .i64 t645, .int .i64 t646] (fun k_=>some k_≠(.slice Ao34 t615.length co34:Value).ownBlock∧some k_≠(.slice Ao36 t620.length co36:Value).ownBlock∧some k_≠(v626:Value).ownBlock) (fun _=>False) rfl rfl ?aP (fun _ hk=>hk.elim) ?aF ?aO ?aB ?aS ?aL ?_;(case aP=>exact k40_mkM _ _ _ (⟨t644,t645,t646⟩:S40));(case aB=>exact((a3_ HI614.out)));(case aF=>exact(fun k_ hk=>⟨Kd.fresh' (Kd.R_lt ((a0_ HO617.out))) k_ hk,Kd.fresh' (Kd.R_lt ((a0_ HO622.out))) k_ hk,Kd.fresh' (Kd.R_lt ((a0_ HO627.out))) k_ hk⟩));(case aO=>exact((a44_ HO630.out)));(case aS=>exact(below_size ((a3_ HI614.out))));(case aL=>have:=LMc31.out;omega);intro v650 w41 ho hb hg hat;rw[← Ny649.out]at ho;have n0_:=am_ (IsS69.grown ((a2_ HI614.out)) hg (IsS69.own_ne HI614.out HO630.out (by decide)));have n1_:=am_ (Kd.R_after (ok:=(fun k_=>some k_≠(.slice Ao36 t620.length co36:Value).ownBlock∧some k_≠(v626:Value).ownBlock)) ((a42_ HO617.out)) hg hat);have n2_:=am_ (Kd.R_after (ok:=(fun k_=>some k_≠(.slice Ao34 t615.length co34:Value).ownBlock∧some k_≠(v626:Value).ownBlock)) ((a42_ HO622.out)) hg hat);have n3_:=am_ (Kd.R_after (ok:=(fun k_=>some k_≠(.slice Ao34 t615.length co34:Value).ownBlock∧some k_≠(.slice Ao36 t620.length co36:Value).ownBlock)) ((a42_ HO627.out)) hg hat);have n4_:=am_ (hb);have n5_:=am_ (ho);clear HI614 HO617 HO622 HO627 HB HO630;have HI614:=n0_;have HO617:=n1_;have HO622:=n2_;have HO627:=n3_;have HB:=n4_;have HO651:=n5_;clear n0_ n1_ n2_ n3_ n4_ n5_ ho hb hg hat))
     go_ret3
     exact⟨_,_,_,a10_,(a39_ HO617.out),(a50_ HO627.out),by(with_reducible repeat (first|apply Kd.R_alloc|apply Kd.R_drewN|apply Kd.R_drew));exact Kd.R_mono HO651.out (fun _ hk=>⟨hk.1,hk.2.2⟩),(a3_ HI614.out)⟩
    ·rw[if_neg c31]at H
     exact absurd H (by simp)
   ·rw[if_neg c29]at H
    have c29b0:(t631 == 2)=false:=beq_eq_false_iff_ne.mpr c29
    have c29b1:(t631 != 2)=true:=bne_iff_ne.mpr c29
    simp only[Option.some.injEq,Prod.mk.injEq]at H
    obtain⟨rfl,rfl,rfl⟩:=H
    go_enter Tryz.func22,Tryz.ntmps22
    go_wp2_with (first|((with_reducible refine gate_dst (N:=12) rfl ?_);refine box_event ?hg (N:=12) ?hd (cs:= #[.slice A0 l0.length c0, .int .i64 0, .int .u64 0]) (t:=69) ?hr ?_;(case hd=>rfl);(case hg=>rfl);(case hr=>exact hr_);intro g614 hg w42 hbox hb;have HI614:=am_ ((⟨_,_,hbox,by rw[hg];exact(below_size (a1_)),HR0.out⟩:IsS69 w w42 g614 l0 0 0));replace HB:=am_ (below_step (a1_) hb);clear hb hbox hg)|((with_reducible refine gate_callee (f:=42) rfl ?_);refine goesL_ (some 14) rfl rfl Tryz.func42 (by kernel_rfl) rfl #[.pointer (some ⟨g614,0,none⟩)] rfl gd_ ?_;(with_reducible refine(spec_l1Cur_anySheet.calls k g614 l0 0 0 t615 t618 t619 w _ ?side1 ?side2 A2.out).mono ?_);(case side1=>exact(a2_ HI614.out));(case side2=>exact(a3_ HI614.out));rintro e w43 ⟨v616,rfl,ho0,hi,hb,hk⟩;refine⟨_,rfl,?_⟩;have HO617:=am_ (Kd.R_lower ho0 (below_size ((a3_ HI614.out))));replace HB:=am_ (hb);replace HI614:=am_ (hi);(try clear hb);(try clear hb2);(try clear hk);(try clear hi);(try clear ho0);obtain⟨Ao44,co44,eo44⟩:=Kd.R_slice HO617.out;subst eo44)|((with_reducible refine gate_callee (f:=44) rfl ?_);refine goesL_ (some 17) rfl rfl Tryz.func44 (by kernel_rfl) rfl #[.pointer (some ⟨g614,0,none⟩), .slice Ao44 t615.length co44] rfl gd_ ?_;(with_reducible refine(spec_l1Cur_changed.calls k g614 l0 t618 t619 _ _ t615 t620 t623 t624 w _ ?side1 ?side2 ?side3 ?side4 A3.out).mono ?_);(case side1=>exact(a2_ HI614.out));(case side2=>exact(a3_ HI614.out));(case side3=>exact Kd.C_foot_own (IsS69.apart (show IsS69 w _ g614 l0 t618 t619 from(a2_ HI614.out)) ((a0_ HO617.out)) (by decide)) (fun _ h_=>h_.2));(case side4=>exact(Kd.R_reads' HO617.out).2.1);rintro e w45 ⟨v621,rfl,ho0,hi,hb,hk⟩;refine⟨_,rfl,?_⟩;have HO622:=am_ (Kd.R_lower (Kd.R_new' ho0 (Kd.R_lt ((a0_ HO617.out)))) (below_size ((a3_ HI614.out))));replace HO617:=am_ (Kd.R_mono (Kd.R_told (Kd.R_oldK (IsS69.apart (show IsS69 w _ g614 l0 t618 t619 from(a2_ HI614.out)) ((a0_ HO617.out)) (by decide)) hk) (Kd.R_base ho0)) (fun _ h_=>h_.1));replace HB:=am_ (hb);replace HI614:=am_ (hi);(try clear hb);(try clear hb2);(try clear hk);(try clear hi);(try clear ho0);obtain⟨Ao46,co46,eo46⟩:=Kd.R_slice HO622.out;subst eo46)|((with_reducible refine gate_callee (f:=48) rfl ?_);refine goesL_ (some 20) rfl rfl Tryz.func48 (by kernel_rfl) rfl #[.slice Ao44 t615.length co44, .slice Ao46 t620.length co46] rfl gd_ ?_;(with_reducible refine(spec_mgLess.calls k _ _ t615 _ _ t620 t625 _ ?side1 ?side2 ?side3 ?side4 A4.out).mono ?_);(case side1=>exact(a8_ HO617.out));(case side2=>exact(Kd.R_reads' HO617.out).2.1);(case side3=>exact(a8_ HO622.out));(case side4=>exact(Kd.R_reads' HO622.out).2.1);rintro e w47 ⟨v626,rfl,ho0,hb⟩;refine⟨_,rfl,?_⟩;have HO627:=am_ (Kd.R_lower (Kd.R_new' (Kd.R_new' ho0 (Kd.R_lt ((a0_ HO617.out)))) (Kd.R_lt ((a0_ HO622.out)))) (below_size ((a3_ HI614.out))));replace HO617:=am_ (Kd.R_elder' ((a0_ HO617.out)) (Kd.R_base ho0) hb);replace HO622:=am_ (Kd.R_elder' ((a0_ HO622.out)) (Kd.R_base ho0) hb);replace HB:=am_ (below_step ((a3_ HI614.out)) hb);replace HI614:=am_ (IsS69.below ((a2_ HI614.out)) hb);(try clear hb);(try clear hb2);(try clear hk);(try clear hi);(try clear ho0))|((with_reducible refine gate_callee (f:=48) rfl ?_);refine goesL_ (some 23) rfl rfl Tryz.func48 (by kernel_rfl) rfl #[.slice Ao46 t620.length co46, .slice Ao44 t615.length co44] rfl gd_ ?_;(with_reducible refine(spec_mgLess.calls k _ _ t620 _ _ t615 t628 _ ?side1 ?side2 ?side3 ?side4 A5.out).mono ?_);(case side1=>exact(a8_ HO622.out));(case side2=>exact(Kd.R_reads' HO622.out).2.1);(case side3=>exact(a8_ HO617.out));(case side4=>exact(Kd.R_reads' HO617.out).2.1);rintro e w48 ⟨v629,rfl,ho0,hb⟩;refine⟨_,rfl,?_⟩;have HO630:=am_ (Kd.R_lower (Kd.R_new' (Kd.R_new' (Kd.R_new' ho0 (Kd.R_lt ((a0_ HO617.out)))) (Kd.R_lt ((a0_ HO622.out)))) (Kd.R_lt ((a0_ HO627.out)))) (below_size ((a3_ HI614.out))));replace HO617:=am_ (Kd.R_elder' ((a0_ HO617.out)) (Kd.R_base ho0) hb);replace HO622:=am_ (Kd.R_elder' ((a0_ HO622.out)) (Kd.R_base ho0) hb);replace HO627:=am_ (Kd.R_elder' ((a0_ HO627.out)) (Kd.R_base ho0) hb);replace HB:=am_ (below_step ((a3_ HI614.out)) hb);replace HI614:=am_ (IsS69.below ((a2_ HI614.out)) hb);(try clear hb);(try clear hb2);(try clear hk);(try clear hi);(try clear ho0))|((with_reducible refine gate_callee (f:=55) rfl ?_);refine goesL_ (some 25) rfl rfl Tryz.func55 (by kernel_rfl) rfl #[.pointer (some ⟨g614,0,none⟩), .int .i64 8] rfl gd_ ?_;(with_reducible refine(spec_l1Cur_pick.calls g614 l0 t623 t624 8 t631 t632 t633 w _ ?side1 ?side2 A6.out).mono ?_);(case side1=>exact(a2_ HI614.out));(case side2=>exact(a3_ HI614.out));rintro e w49 ⟨rfl,hi,hb,hk⟩;refine⟨_,rfl,?_⟩;replace HO617:=am_ (Kd.R_mono (Kd.R_keep (IsS69.apart (show IsS69 w _ g614 l0 t623 t624 from(a2_ HI614.out)) ((a0_ HO617.out)) (by decide)) hk (fun _ h=>h.2)) (fun _ h=>h.1));replace HO622:=am_ (Kd.R_mono (Kd.R_keep (IsS69.apart (show IsS69 w _ g614 l0 t623 t624 from(a2_ HI614.out)) ((a0_ HO622.out)) (by decide)) hk (fun _ h=>h.2)) (fun _ h=>h.1));replace HO627:=am_ (Kd.R_mono (Kd.R_keep (IsS69.apart (show IsS69 w _ g614 l0 t623 t624 from(a2_ HI614.out)) ((a0_ HO627.out)) (by decide)) hk (fun _ h=>h.2)) (fun _ h=>h.1));replace HO630:=am_ (Kd.R_mono (Kd.R_keep (IsS69.apart (show IsS69 w _ g614 l0 t623 t624 from(a2_ HI614.out)) ((a0_ HO630.out)) (by decide)) hk (fun _ h=>h.2)) (fun _ h=>h.1));replace HB:=am_ (hb);replace HI614:=am_ (hi);(try clear hb);(try clear hb2);(try clear hk);(try clear hi)))
    go_ret3
    exact⟨_,_,_,a10_,(a39_ HO617.out),(a47_ HO627.out),(a47_ HO630.out),(a3_ HI614.out)⟩

end Go.Proofs.YtplpjmhmochcfaaGreat.QFnDifferences
