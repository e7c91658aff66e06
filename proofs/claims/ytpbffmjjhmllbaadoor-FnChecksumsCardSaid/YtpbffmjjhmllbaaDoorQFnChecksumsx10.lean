/- Written by a program of this session (the kit's printer, with leaf contracts proved by hand put in): what each Go function computes, and that the call computes it. No condition but those that each theorem names. -/
import Derived.Test.YtpbffmjjhmllbaaDoorQFnChecksumsx0
import Derived.Test.YtpbffmjjhmllbaaDoorQFnChecksumsx9
namespace Go.Proofs.YtpbffmjjhmllbaaDoor.QFnChecksums
open Go.RowKit Go.Proofs.YtpbffmjjhmllbaaDoorW.PrintWords Go.Proofs.YtpbffmjjhmllbaaDoorW.PrintLast Go.Proofs.YtpbffmjjhmllbaaDoorW.PrintMore
attribute [local go_sem] max2_int min2_int max_two min_two max_three min_three max_four min_four   -- for this text's walks alone
set_option linter.unusedVariables false
set_option linter.unusedSimpArgs false

/-! ### impl_decimal: function 50 -/
mutual
def impl_decimal.j0:Nat→ByteArray→Bool→Option (Int×Bool)
 | 0,_,_=>none
 | k+1,x0,x22=>if x22=true then(some (0,false)) else(impl_decimal.l0 k x0 0 0)
def impl_decimal.l0:Nat→ByteArray→Int→Int→Option (Int×Bool)
 | 0,_,_,_=>none
 | k+1,x0,x4,x5=>if x5<(x0.size:Int) then(if 0≤x5 then(if(bt x0 x5)<48 then(some (0,false)) else(if(bt x0 x5)>57 then(some (0,false)) else(impl_decimal.l0 k x0 (wrap64 ((wrap64 (10*x4))+(((bt x0 x5)-48) % 256))) (wrap64 (x5+1))))) else(none)) else(some (x4,true))
end
def impl_decimal.f (k:Nat) (a0:ByteArray):Option (Int×Bool):=if a0.toList=([]:List UInt8) then(impl_decimal.j0 k a0 true) else(if(a0.size:Int)>9 then(impl_decimal.j0 k a0 true) else(if 0<(a0.size:Int) then(if(bt a0 0)=48 then(impl_decimal.j0 k a0 (decide ((a0.size:Int)>1))) else(impl_decimal.j0 k a0 false)) else(none)))
theorem impl_decimal.mono_l:∀k,(∀y0 y1,LeO (impl_decimal.j0 k y0 y1) (impl_decimal.j0 (k+1) y0 y1))∧(∀y0 y1 y2,LeO (impl_decimal.l0 k y0 y1 y2) (impl_decimal.l0 (k+1) y0 y1 y2))
 | 0=>⟨fun _ _ r h=>by simp[impl_decimal.j0]at h,fun _ _ _ r h=>by simp[impl_decimal.l0]at h⟩
 | k+1=>by
  obtain⟨ih0,ih1⟩:=impl_decimal.mono_l k
  refine⟨?_,?_⟩
  intros
  unfold impl_decimal.j0
  rotate_left
  intros
  unfold impl_decimal.l0
  rotate_left
  all_goals repeat' first|(with_reducible first|exact ih0 _ _|exact ih1 _ _ _|exact LeO.refl _|exact LeO.none _|refine LeO.ite ?_ ?_|refine LeO.bind ?_ (fun _=>?_))|exact ih0 _ _|exact ih1 _ _ _|exact LeO.none _|refine LeO.ite ?_ ?_|refine LeO.bind ?_ (fun _=>?_)
theorem impl_decimal.mono:∀a0 k,LeO (impl_decimal.f k a0) (impl_decimal.f (k+1) a0):=by
 intro a0 k
 obtain⟨ih0,ih1⟩:=impl_decimal.mono_l k
 unfold impl_decimal.f
 repeat' first
  |(with_reducible exact ih0 _ _)
  |(with_reducible exact ih1 _ _ _)
  |(with_reducible exact LeO.refl _)
  |(with_reducible exact LeO.none _)
  |(with_reducible refine LeO.ite ?_ ?_)
  |(with_reducible refine LeO.bind ?_ (fun _=>?_))
  |exact ih0 _ _
  |exact ih1 _ _ _
  |exact LeO.none _
   | refine LeO.ite ?_ ?_
   | refine LeO.bind ?_ (fun _=>?_)
set_option maxHeartbeats 8000000 in
set_option maxRecDepth 100000 in
theorem impl_decimal.calls (k:Nat) (a0:ByteArray) (r1:Int) (r2:Bool) (w:World) (h:impl_decimal.f k a0=some (r1,r2)) :
 Calls Tryd.prog 50 #[.string a0] w fun e w'=>e = .returned (.tuple #[.int .i64 r1, .bool r2])∧Drawn0 w w':=by
 have H:(if a0.toList=([]:List UInt8) then(impl_decimal.j0 k a0 true) else(if(a0.size:Int)>9 then(impl_decimal.j0 k a0 true) else(if 0<(a0.size:Int) then(if(bt a0 0)=48 then(impl_decimal.j0 k a0 (decide ((a0.size:Int)>1))) else(impl_decimal.j0 k a0 false)) else(none))))=some (r1,r2):=h
 clear h
 have HC2:=am_ H
 clear H
 go_enter Tryd.func50,Tryd.ntmps50
 go_upto_region 1 with (fail)
 go_cut [22] (fun v22 wc=>∃(kq:Nat) (x22_1:Bool),v22 = .bool x22_1∧Aside0 (impl_decimal.j0 kq a0 x22_1=some (r1,r2))∧Aside0 (kq≤k)∧Drawn0 w wc)
 case first=>
  have H:=HC2.out
  clear HC2
  by_cases c3:a0.toList=([]:List UInt8)
  ·rw[if_pos c3]at H
   have c3b0:(a0.toList == ([]:List UInt8))=true:=beq_iff_eq.mpr c3
   have c3b1:(a0.toList != ([]:List UInt8))=false:=bne_eq_false_iff_eq.mpr c3
   clear c3
   (first|rw[c3b0]|(simp only[i64_w,i32_w];rw[c3b0]) | skip)
   have H':=am_ H
   clear H
   go_wp2
   go_meet
   case rel=>exact⟨_,(true),(by first | rfl|(simp;done)|(simp[*];done)),H',⟨by first | omega|exact Nat.le_refl _⟩,a24_⟩
  ·rw[if_neg c3]at H
   have c3b0:(a0.toList == ([]:List UInt8))=false:=beq_eq_false_iff_ne.mpr c3
   have c3b1:(a0.toList != ([]:List UInt8))=true:=bne_iff_ne.mpr c3
   (first|rw[c3b0]|(simp only[i64_w,i32_w];rw[c3b0]) | skip)
   by_cases c4:(a0.size:Int)>9
   ·rw[if_pos c4]at H
    have c4b0:decide (9<(a0.size:Int))=true:=decide_eq_true c4
    have c4b1:decide (9<a0.size)=true:=decide_eq_true (by omega)
    clear c4
    have H':=am_ H
    clear H
    go_wp2
    go_meet
    case rel=>exact⟨_,(true),(by first | rfl|(simp;done)|(simp[*];done)),H',⟨by first | omega|exact Nat.le_refl _⟩,a24_⟩
   ·rw[if_neg c4]at H
    have c4b0:decide (9<(a0.size:Int))=false:=decide_eq_false c4
    have c4b1:decide (9<a0.size)=false:=decide_eq_false (by omega)
    clear c4
    by_cases c5:0<(a0.size:Int)
    ·rw[if_pos c5]at H
     have c5b0:decide (0<(a0.size:Int))=true:=decide_eq_true c5
     have c5b1:decide (0<a0.size)=true:=decide_eq_true (by omega)
     clear c5
     by_cases c7:(bt a0 0)=48
     ·rw[if_pos c7]at H
      have c7b0:((bt a0 0) == 48)=true:=beq_iff_eq.mpr c7
      have c7b1:((bt a0 0) != 48)=false:=bne_eq_false_iff_eq.mpr c7
      clear c7
      have H':=am_ H
      clear H
      have p6:0≤(0:Int):=(by omega)
      have q6:0<a0.size:=(by have:(0:Int)<(a0.size:Int):=of_decide_eq_true (a10_);omega)
      have hx6:∀h:0<a0.size,((a0[0]'h).toNat:Int)=bt a0 0:=bt_at a0 0
      clear p6
      have qi6:(0<(a0.size:Int))=True:=eq_true (of_decide_eq_true (a10_))
      replace q6:=eq_true q6
      go_wp2
      go_meet
      case rel=>exact⟨_,(decide ((a0.size:Int)>1)),(by first | rfl|(simp;done)|(simp[*];done)),H',⟨by first | omega|exact Nat.le_refl _⟩,a24_⟩
     ·rw[if_neg c7]at H
      have c7b0:((bt a0 0) == 48)=false:=beq_eq_false_iff_ne.mpr c7
      have c7b1:((bt a0 0) != 48)=true:=bne_iff_ne.mpr c7
      have H':=am_ H
      clear H
      have p6:0≤(0:Int):=(by omega)
      have q6:0<a0.size:=(by have:(0:Int)<(a0.size:Int):=of_decide_eq_true (a10_);omega)
      have hx6:∀h:0<a0.size,((a0[0]'h).toNat:Int)=bt a0 0:=bt_at a0 0
      clear p6
      have qi6:(0<(a0.size:Int))=True:=eq_true (of_decide_eq_true (a10_))
      replace q6:=eq_true q6
      go_wp2
      go_meet
      case rel=>exact⟨_,(false),(by first | rfl|(simp;done)|(simp[*];done)),H',⟨by first | omega|exact Nat.le_refl _⟩,a24_⟩
    ·rw[if_neg c5]at H
     exact absurd H (by simp)
 case rest=>
  clear HC2
  try clear p2
  try clear c3
  try clear c3b0
  try clear c3b1
  try clear c4
  try clear c4b0
  try clear c4b1
  try clear c5
  try clear c5b0
  try clear c5b1
  try clear p6
  try clear q6
  try clear hx6
  try clear qi6
  try clear c7
  try clear c7b0
  try clear c7b1
  try clear p6
  try clear q6
  obtain⟨kq,x22_1,rfl,HA,HJ1,⟨mc1,rfl⟩⟩:=hcut
  cases kq with
  | zero=>exact absurd HA.out (by simp[impl_decimal.j0])
  | succ kj1=>
   have H:=HA.out
   clear HA
   simp only[impl_decimal.j0]at H
   by_cases c8:x22_1=true
   ·subst c8
    replace H:(some (0,false))=some (r1,r2):=by rw[if_pos rfl]at H;exact H
    simp only[Option.some.injEq,Prod.mk.injEq]at H
    obtain⟨rfl,rfl⟩:=H
    go_wp2
    go_ret2
    exact⟨by first | rfl|(simp;done)|(simp[*];done),a24_⟩
   ·replace c8:=Bool.eq_false_iff.mpr c8
    subst c8
    replace H:(impl_decimal.l0 kj1 a0 0 0)=some (r1,r2):=by rw[if_neg (show ¬(false=true) by decide)]at H;exact H
    have H':=am_ H
    clear H
    go_wp2
    (try simp only[Act.put,List.setIfInBounds_toArray,List.set_cons_zero,List.set_cons_succ])
    go_loopg [4,5] kj1 (fun kq v4 v5 w'=>∃(x4_2:Int) (x5_2:Int),v4 = .int .i64 x4_2∧v5 = .int .i64 x5_2∧Aside0 (impl_decimal.l0 kq a0 x4_2 x5_2=some (r1,r2))∧Aside0 (kq≤kj1)∧Drawn0 w w')
    case atStart=>exact⟨(0),(0),(by first | rfl|(simp;done)|(simp[*];done)),(by first | rfl|(simp;done)|(simp[*];done)),H',⟨Nat.le_refl _⟩,a24_⟩
    case round=>
     clear H'
     try clear c1
     try clear p2
     try clear c3
     try clear c3b0
     try clear c3b1
     try clear c4
     try clear c4b0
     try clear c4b1
     try clear c5
     try clear c5b0
     try clear c5b1
     try clear p6
     try clear q6
     try clear hx6
     try clear qi6
     try clear c7
     try clear c7b0
     try clear c7b1
     try clear c8
     try clear p2
     try clear p6
     try clear q6
     obtain⟨x4_2,x5_2,rfl,rfl,HA,HK2,⟨m2,rfl⟩⟩:=hrel
     cases gk with
     | zero=>exact absurd HA.out (by simp[impl_decimal.l0])
     | succ k2=>
      have H:=HA.out
      clear HA
      simp only[impl_decimal.l0]at H
      by_cases c9:x5_2<(a0.size:Int)
      ·rw[if_pos c9]at H
       have c9b0:decide (x5_2<(a0.size:Int))=true:=decide_eq_true c9
       clear c9
       by_cases c10:0≤x5_2
       ·rw[if_pos c10]at H
        have c10b0:decide (0≤x5_2)=true:=decide_eq_true c10
        clear c10
        by_cases c12:(bt a0 x5_2)<48
        ·rw[if_pos c12]at H
         have c12b0:decide ((bt a0 x5_2)<48)=true:=decide_eq_true c12
         clear c12
         simp only[Option.some.injEq,Prod.mk.injEq]at H
         obtain⟨rfl,rfl⟩:=H
         have p11:0≤(x5_2:Int):=of_decide_eq_true (a10_)
         have q11:x5_2<(a0.size:Int):=of_decide_eq_true (a10_)
         have hx11:=bt_at a0 x5_2
         replace p11:=eq_true p11
         replace q11:=eq_true q11
         go_wp2
         go_ret2
         exact⟨by first | rfl|(simp;done)|(simp[*];done),a24_⟩
        ·rw[if_neg c12]at H
         have c12b0:decide ((bt a0 x5_2)<48)=false:=decide_eq_false c12
         clear c12
         by_cases c14:(bt a0 x5_2)>57
         ·rw[if_pos c14]at H
          have c14b0:decide (57<(bt a0 x5_2))=true:=decide_eq_true c14
          clear c14
          simp only[Option.some.injEq,Prod.mk.injEq]at H
          obtain⟨rfl,rfl⟩:=H
          have p11:0≤(x5_2:Int):=of_decide_eq_true (a10_)
          have q11:x5_2<(a0.size:Int):=of_decide_eq_true (a10_)
          have hx11:=bt_at a0 x5_2
          replace p11:=eq_true p11
          replace q11:=eq_true q11
          have p13:0≤(x5_2:Int):=of_decide_eq_true (a10_)
          have q13:x5_2<(a0.size:Int):=of_decide_eq_true (a10_)
          have hx13:=bt_at a0 x5_2
          replace p13:=eq_true p13
          replace q13:=eq_true q13
          go_wp2
          go_ret2
          exact⟨by first | rfl|(simp;done)|(simp[*];done),a24_⟩
         ·rw[if_neg c14]at H
          have c14b0:decide (57<(bt a0 x5_2))=false:=decide_eq_false c14
          clear c14
          have H':=am_ H
          clear H
          have p11:0≤(x5_2:Int):=of_decide_eq_true (a10_)
          have q11:x5_2<(a0.size:Int):=of_decide_eq_true (a10_)
          have hx11:=bt_at a0 x5_2
          replace p11:=eq_true p11
          replace q11:=eq_true q11
          have p13:0≤(x5_2:Int):=of_decide_eq_true (a10_)
          have q13:x5_2<(a0.size:Int):=of_decide_eq_true (a10_)
          have hx13:=bt_at a0 x5_2
          replace p13:=eq_true p13
          replace q13:=eq_true q13
          have p15:0≤(x5_2:Int):=of_decide_eq_true (a10_)
          have q15:x5_2<(a0.size:Int):=of_decide_eq_true (a10_)
          have hx15:=bt_at a0 x5_2
          replace p15:=eq_true p15
          replace q15:=eq_true q15
          go_wp2
          go_roundg k2
          case measure=>have:=HJ1.out;have:=HK2.out;omega
          case rel=>exact⟨(wrap64 ((wrap64 (10*x4_2))+(((bt a0 x5_2)-48) % 256))),(wrap64 (x5_2+1)),(by first | rfl|(simp;done)|(simp[*];done)),(by first | rfl|(simp;done)|(simp[*];done)),H',⟨by have:=HJ1.out;have:=HK2.out;omega⟩,a24_⟩
       ·rw[if_neg c10]at H
        exact absurd H (by simp)
      ·rw[if_neg c9]at H
       have c9b0:decide (x5_2<(a0.size:Int))=false:=decide_eq_false c9
       clear c9
       simp only[Option.some.injEq,Prod.mk.injEq]at H
       obtain⟨rfl,rfl⟩:=H
       go_wp2
       go_ret2
       exact⟨by first | rfl|(simp;done)|(simp[*];done),a24_⟩

/-! ### impl_ReadChecksum: function 18 -/
def impl_ReadChecksum.f (k:Nat) (a0:ByteArray):Option (Int×Bool):=if 1+a0.size≤9223372036854775807 then((impl_decimal.f k ((⟨#[49]⟩:ByteArray) ++ a0)).bind fun bt374=>(if bt374.2=true then(if(a0.size:Int)=7 then((impl_isChecksum.f (wrap64 (bt374.1-10000000))).bind fun t376=>(if t376=true then(some (wrap64 (bt374.1-10000000),true)) else(some (0,false)))) else(some (0,false))) else(some (0,false)))) else(none)
theorem impl_ReadChecksum.mono:∀a0 k,LeO (impl_ReadChecksum.f k a0) (impl_ReadChecksum.f (k+1) a0):=by
 intro a0 k
 unfold impl_ReadChecksum.f
 repeat' first
  |(with_reducible exact impl_decimal.mono _ _)
  |(with_reducible exact LeO.refl _)
  |(with_reducible exact LeO.none _)
  |(with_reducible refine LeO.ite ?_ ?_)
  |(with_reducible refine LeO.bind ?_ (fun _=>?_))
  |exact impl_decimal.mono _ _
  |exact LeO.none _
   | refine LeO.ite ?_ ?_
   | refine LeO.bind ?_ (fun _=>?_)
set_option maxHeartbeats 8000000 in
set_option maxRecDepth 100000 in
theorem impl_ReadChecksum.calls (k:Nat) (a0:ByteArray) (r1:Int) (r2:Bool) (w:World) (h:impl_ReadChecksum.f k a0=some (r1,r2)) :
 Calls Tryd.prog 18 #[.string a0] w fun e w'=>e = .returned (.tuple #[.int .i64 r1, .bool r2])∧Drawn0 w w':=by
 have H:(if 1+a0.size≤9223372036854775807 then((impl_decimal.f k ((⟨#[49]⟩:ByteArray) ++ a0)).bind fun bt374=>(if bt374.2=true then(if(a0.size:Int)=7 then((impl_isChecksum.f (wrap64 (bt374.1-10000000))).bind fun t376=>(if t376=true then(some (wrap64 (bt374.1-10000000),true)) else(some (0,false)))) else(some (0,false))) else(some (0,false)))) else(none))=some (r1,r2):=h
 clear h
 by_cases c2:1+a0.size≤9223372036854775807
 ·rw[if_pos c2]at H
  have c2b0:=eq_true c2
  have c2b1:decide (1+a0.size≤9223372036854775807)=true:=decide_eq_true c2
  try have c2b2:(9223372036854775807<1+a0.size)=False:=eq_false (Nat.not_lt.2 c2)
  obtain⟨⟨t374,t375⟩,A3,H⟩:=bo_ H
  try dsimp only at H
  by_cases c4:t375=true
  ·subst c4
   replace H:(if(a0.size:Int)=7 then((impl_isChecksum.f (wrap64 (t374-10000000))).bind fun t376=>(if t376=true then(some (wrap64 (t374-10000000),true)) else(some (0,false)))) else(some (0,false)))=some (r1,r2):=by rw[if_pos rfl]at H;exact H
   by_cases c5:(a0.size:Int)=7
   ·rw[if_pos c5]at H
    have c5b0:((a0.size:Int) == 7)=true:=beq_iff_eq.mpr c5
    have c5b1:((a0.size:Int) != 7)=false:=bne_eq_false_iff_eq.mpr c5
    clear c5
    obtain⟨t376,A6,H⟩:=bo_ H
    try dsimp only at H
    by_cases c7:t376=true
    ·subst c7
     replace H:(some (wrap64 (t374-10000000),true))=some (r1,r2):=by rw[if_pos rfl]at H;exact H
     simp only[Option.some.injEq,Prod.mk.injEq]at H
     obtain⟨rfl,rfl⟩:=H
     go_enter Tryd.func18,Tryd.ntmps18
     go_wp2_with (first|((with_reducible refine gate_callee (f:=50) rfl ?_);refine goesL_ (some 9) rfl rfl Tryd.func50 (by kernel_rfl) rfl #[.string ((⟨#[49]⟩:ByteArray) ++ a0)] rfl gd_ ?_;(with_reducible refine(impl_decimal.calls k ((⟨#[49]⟩:ByteArray) ++ a0) t374 true _ A3.out).mono ?_);rintro e w' ⟨rfl,⟨nd,rfl⟩⟩;refine⟨_,rfl,?_⟩)|(go_at_call 41;(with_reducible refine(impl_isChecksum.calls (wrap64 (t374-10000000)) true _ A6.out).mono ?_);rintro e w' ⟨rfl,⟨nd,rfl⟩⟩))
     go_ret2
     exact⟨by first | rfl|(simp;done)|(simp[*];done),a24_⟩
    ·replace c7:=Bool.eq_false_iff.mpr c7
     subst c7
     replace H:(some (0,false))=some (r1,r2):=by rw[if_neg (show ¬(false=true) by decide)]at H;exact H
     simp only[Option.some.injEq,Prod.mk.injEq]at H
     obtain⟨rfl,rfl⟩:=H
     go_enter Tryd.func18,Tryd.ntmps18
     go_wp2_with (first|((with_reducible refine gate_callee (f:=50) rfl ?_);refine goesL_ (some 9) rfl rfl Tryd.func50 (by kernel_rfl) rfl #[.string ((⟨#[49]⟩:ByteArray) ++ a0)] rfl gd_ ?_;(with_reducible refine(impl_decimal.calls k ((⟨#[49]⟩:ByteArray) ++ a0) t374 true _ A3.out).mono ?_);rintro e w' ⟨rfl,⟨nd,rfl⟩⟩;refine⟨_,rfl,?_⟩)|(go_at_call 41;(with_reducible refine(impl_isChecksum.calls (wrap64 (t374-10000000)) false _ A6.out).mono ?_);rintro e w' ⟨rfl,⟨nd,rfl⟩⟩))
     go_ret2
     exact⟨by first | rfl|(simp;done)|(simp[*];done),a24_⟩
   ·rw[if_neg c5]at H
    have c5b0:((a0.size:Int) == 7)=false:=beq_eq_false_iff_ne.mpr c5
    have c5b1:((a0.size:Int) != 7)=true:=bne_iff_ne.mpr c5
    simp only[Option.some.injEq,Prod.mk.injEq]at H
    obtain⟨rfl,rfl⟩:=H
    go_enter Tryd.func18,Tryd.ntmps18
    go_wp2_with (first|((with_reducible refine gate_callee (f:=50) rfl ?_);refine goesL_ (some 9) rfl rfl Tryd.func50 (by kernel_rfl) rfl #[.string ((⟨#[49]⟩:ByteArray) ++ a0)] rfl gd_ ?_;(with_reducible refine(impl_decimal.calls k ((⟨#[49]⟩:ByteArray) ++ a0) t374 true _ A3.out).mono ?_);rintro e w' ⟨rfl,⟨nd,rfl⟩⟩;refine⟨_,rfl,?_⟩))
    go_ret2
    exact⟨by first | rfl|(simp;done)|(simp[*];done),a24_⟩
  ·replace c4:=Bool.eq_false_iff.mpr c4
   subst c4
   replace H:(some (0,false))=some (r1,r2):=by rw[if_neg (show ¬(false=true) by decide)]at H;exact H
   simp only[Option.some.injEq,Prod.mk.injEq]at H
   obtain⟨rfl,rfl⟩:=H
   go_enter Tryd.func18,Tryd.ntmps18
   go_wp2_with (first|((with_reducible refine gate_callee (f:=50) rfl ?_);refine goesL_ (some 9) rfl rfl Tryd.func50 (by kernel_rfl) rfl #[.string ((⟨#[49]⟩:ByteArray) ++ a0)] rfl gd_ ?_;(with_reducible refine(impl_decimal.calls k ((⟨#[49]⟩:ByteArray) ++ a0) t374 false _ A3.out).mono ?_);rintro e w' ⟨rfl,⟨nd,rfl⟩⟩;refine⟨_,rfl,?_⟩))
   go_ret2
   exact⟨by first | rfl|(simp;done)|(simp[*];done),a24_⟩
 ·rw[if_neg c2]at H
  exact absurd H (by simp)

/-! ### impl_areTrackChecksums: function 51 -/
def impl_areTrackChecksums.l0:Nat→List Int→List Int→Int→Int→Option (Bool)
 | 0,_,_,_,_=>none
 | k+1,x0,x5,x6,x7=>if x7<x6 then(if 0≤x7 then(if x7<(x5.length:Int) then((impl_isChecksum.f (rd x5 x7)).bind fun t378=>(if t378=true then(impl_areTrackChecksums.l0 k x0 x5 x6 (wrap64 (x7+1))) else(some false))) else(none)) else(none)) else(some ((x0.length:Int) == 20))
def impl_areTrackChecksums.f (k:Nat) (l0:List Int):Option (Bool):=impl_areTrackChecksums.l0 k l0 l0 (l0.length:Int) 0
theorem impl_areTrackChecksums.mono_l:∀k,(∀y0 y1 y2 y3,LeO (impl_areTrackChecksums.l0 k y0 y1 y2 y3) (impl_areTrackChecksums.l0 (k+1) y0 y1 y2 y3))
 | 0=>fun _ _ _ _ r h=>by simp[impl_areTrackChecksums.l0]at h
 | k+1=>by
  have ih0:=impl_areTrackChecksums.mono_l k
  intros
  unfold impl_areTrackChecksums.l0
  rotate_left
  all_goals repeat' first|(with_reducible first|exact ih0 _ _ _ _|exact LeO.refl _|exact LeO.none _|refine LeO.ite ?_ ?_|refine LeO.bind ?_ (fun _=>?_))|exact ih0 _ _ _ _|exact LeO.none _|refine LeO.ite ?_ ?_|refine LeO.bind ?_ (fun _=>?_)
theorem impl_areTrackChecksums.mono:∀a0 k,LeO (impl_areTrackChecksums.f k a0) (impl_areTrackChecksums.f (k+1) a0):=by
 intro a0 k
 have ih0:=impl_areTrackChecksums.mono_l k
 unfold impl_areTrackChecksums.f
 repeat' first
  |(with_reducible exact ih0 _ _ _ _)
  |(with_reducible exact LeO.refl _)
  |(with_reducible exact LeO.none _)
  |(with_reducible refine LeO.ite ?_ ?_)
  |(with_reducible refine LeO.bind ?_ (fun _=>?_))
  |exact ih0 _ _ _ _
  |exact LeO.none _
   | refine LeO.ite ?_ ?_
   | refine LeO.bind ?_ (fun _=>?_)
set_option maxHeartbeats 8000000 in
set_option maxRecDepth 100000 in
theorem impl_areTrackChecksums.calls (k:Nat) (A0:Option Addr) (c0:Nat) (l0:List Int) (r:Bool) (w:World) (hr0:Kd.C (Kd.int .i64) w A0 l0.length l0) (hc0:l0.length≤c0) (h:impl_areTrackChecksums.f k l0=some r) :
 Calls Tryd.prog 51 #[.slice A0 l0.length c0] w fun e w'=>e = .returned (.bool r)∧Drawn0 w w':=by
 have HR0:=am_ hr0
 have HC0:=am_ hc0
 clear hr0 hc0
 have H:(impl_areTrackChecksums.l0 k l0 l0 (l0.length:Int) 0)=some r:=h
 clear h
 have H':=am_ H
 clear H
 go_enter Tryd.func51,Tryd.ntmps51
 go_wp2
 (try simp only[Act.put,List.setIfInBounds_toArray,List.set_cons_zero,List.set_cons_succ])
 go_loopg [7] k (fun kq v7 w'=>∃(x7_1:Int),v7 = .int .i64 x7_1∧Aside0 (impl_areTrackChecksums.l0 kq l0 l0 (l0.length:Int) x7_1=some r)∧Aside0 (kq≤k)∧Drawn0 w w')
 case atStart=>exact⟨(0),(by first | rfl|(simp;done)|(simp[*];done)),H',⟨Nat.le_refl _⟩,a24_⟩
 case round=>
  clear H'
  obtain⟨x7_1,rfl,HA,HK1,⟨m1,rfl⟩⟩:=hrel
  cases gk with
  | zero=>exact absurd HA.out (by simp[impl_areTrackChecksums.l0])
  | succ k1=>
   have H:=HA.out
   clear HA
   simp only[impl_areTrackChecksums.l0]at H
   by_cases c2:x7_1<(l0.length:Int)
   ·rw[if_pos c2]at H
    have c2b0:decide (x7_1<(l0.length:Int))=true:=decide_eq_true c2
    clear c2
    by_cases c3:0≤x7_1
    ·rw[if_pos c3]at H
     have c3b0:decide (0≤x7_1)=true:=decide_eq_true c3
     clear c3
     by_cases c4:x7_1<(l0.length:Int)
     ·rw[if_pos c4]at H
      have c4b0:decide (x7_1<(l0.length:Int))=true:=decide_eq_true c4
      clear c4
      obtain⟨t378,A5,H⟩:=bo_ H
      try dsimp only at H
      by_cases c6:t378=true
      ·subst c6
       replace H:(impl_areTrackChecksums.l0 k1 l0 l0 (l0.length:Int) (wrap64 (x7_1+1)))=some r:=by rw[if_pos rfl]at H;exact H
       have H':=am_ H
       clear H
       have p377:0≤(x7_1:Int):=of_decide_eq_true (a10_)
       have q377:x7_1<(l0.length:Int):=of_decide_eq_true (a10_)
       obtain⟨ad377,e377,hx377_0⟩:=Kd.at_int HR0.out x7_1 p377 q377
       cases e377
       replace p377:=eq_true p377
       replace q377:=eq_true q377
       go_wp2_with (first|((with_reducible refine gate_callee (f:=41) rfl ?_);refine goesL_ (some 12) rfl rfl Tryd.func41 (by kernel_rfl) rfl #[.int .i64 (rd l0 x7_1)] rfl gd_ ?_;(with_reducible refine(impl_isChecksum.calls (rd l0 x7_1) true _ A5.out).mono ?_);rintro e w' ⟨rfl,⟨nd,rfl⟩⟩;refine⟨_,rfl,?_⟩))
       go_roundg k1
       case measure=>have:=HK1.out;omega
       case rel=>exact⟨(wrap64 (x7_1+1)),(by first | rfl|(simp;done)|(simp[*];done)),H',⟨by have:=HK1.out;omega⟩,a24_⟩
      ·replace c6:=Bool.eq_false_iff.mpr c6
       subst c6
       replace H:(some false)=some r:=by rw[if_neg (show ¬(false=true) by decide)]at H;exact H
       obtain rfl:=Option.some.inj H
       have p377:0≤(x7_1:Int):=of_decide_eq_true (a10_)
       have q377:x7_1<(l0.length:Int):=of_decide_eq_true (a10_)
       obtain⟨ad377,e377,hx377_0⟩:=Kd.at_int HR0.out x7_1 p377 q377
       cases e377
       replace p377:=eq_true p377
       replace q377:=eq_true q377
       go_wp2_with (first|((with_reducible refine gate_callee (f:=41) rfl ?_);refine goesL_ (some 12) rfl rfl Tryd.func41 (by kernel_rfl) rfl #[.int .i64 (rd l0 x7_1)] rfl gd_ ?_;(with_reducible refine(impl_isChecksum.calls (rd l0 x7_1) false _ A5.out).mono ?_);rintro e w' ⟨rfl,⟨nd,rfl⟩⟩;refine⟨_,rfl,?_⟩))
       go_ret
       exact⟨by first | rfl|(simp;done)|(simp[*];done),a24_⟩
     ·rw[if_neg c4]at H
      exact absurd H (by simp)
    ·rw[if_neg c3]at H
     exact absurd H (by simp)
   ·rw[if_neg c2]at H
    have c2b0:decide (x7_1<(l0.length:Int))=false:=decide_eq_false c2
    clear c2
    obtain rfl:=Option.some.inj H
    go_wp2
    go_ret
    exact⟨by first | rfl|(simp;done)|(simp[*];done),a24_⟩

/-! ### impl_DifferentTracks: function 19 -/
mutual
def impl_DifferentTracks.j0:Nat→List Int→List Int→Bool→Option (List Int×Bool)
 | 0,_,_,_=>none
 | k+1,x0,x1,x15=>if x15=true then(some (([]:List Int),false)) else(impl_DifferentTracks.l0 k x0 x1 (([]:List Int)) (x0.length:Int) 0)
def impl_DifferentTracks.l0:Nat→List Int→List Int→List Int→Int→Int→Option (List Int×Bool)
 | 0,_,_,_,_,_=>none
 | k+1,x0,x1,x6,x18,x19=>if x19<x18 then(if 0≤x19 then(if x19<(x0.length:Int) then(if x19<(x1.length:Int) then(if(rd x0 x19)=(rd x1 x19) then(impl_DifferentTracks.l0 k x0 x1 x6 x18 (wrap64 (x19+1))) else(if x6.length<17592186044416 then(impl_DifferentTracks.l0 k x0 x1 (x6 ++ [x19]) x18 (wrap64 (x19+1))) else(none))) else(none)) else(none)) else(none)) else(some (x6,true))
end
def impl_DifferentTracks.f (k:Nat) (l0:List Int) (l1:List Int):Option (List Int×Bool):=(impl_areTrackChecksums.f k l0).bind fun t379=>(if t379=true then((impl_areTrackChecksums.f k l1).bind fun t380=>(impl_DifferentTracks.j0 k l0 l1 (!t380))) else(impl_DifferentTracks.j0 k l0 l1 true))
theorem impl_DifferentTracks.mono_l:∀k,(∀y0 y1 y2,LeO (impl_DifferentTracks.j0 k y0 y1 y2) (impl_DifferentTracks.j0 (k+1) y0 y1 y2))∧(∀y0 y1 y2 y3 y4,LeO (impl_DifferentTracks.l0 k y0 y1 y2 y3 y4) (impl_DifferentTracks.l0 (k+1) y0 y1 y2 y3 y4))
 | 0=>⟨fun _ _ _ r h=>by simp[impl_DifferentTracks.j0]at h,fun _ _ _ _ _ r h=>by simp[impl_DifferentTracks.l0]at h⟩
 | k+1=>by
  obtain⟨ih0,ih1⟩:=impl_DifferentTracks.mono_l k
  refine⟨?_,?_⟩
  intros
  unfold impl_DifferentTracks.j0
  rotate_left
  intros
  unfold impl_DifferentTracks.l0
  rotate_left
  all_goals repeat' first|(with_reducible first|exact ih0 _ _ _|exact ih1 _ _ _ _ _|exact impl_areTrackChecksums.mono _ _|exact LeO.refl _|exact LeO.none _|refine LeO.ite ?_ ?_|refine LeO.bind ?_ (fun _=>?_))|exact ih0 _ _ _|exact ih1 _ _ _ _ _|exact impl_areTrackChecksums.mono _ _|exact LeO.none _|refine LeO.ite ?_ ?_|refine LeO.bind ?_ (fun _=>?_)
theorem impl_DifferentTracks.mono:∀a0 a1 k,LeO (impl_DifferentTracks.f k a0 a1) (impl_DifferentTracks.f (k+1) a0 a1):=by
 intro a0 a1 k
 obtain⟨ih0,ih1⟩:=impl_DifferentTracks.mono_l k
 unfold impl_DifferentTracks.f
 repeat' first
  |(with_reducible exact ih0 _ _ _)
  |(with_reducible exact ih1 _ _ _ _ _)
  |(with_reducible exact impl_areTrackChecksums.mono _ _)
  |(with_reducible exact LeO.refl _)
  |(with_reducible exact LeO.none _)
  |(with_reducible refine LeO.ite ?_ ?_)
  |(with_reducible refine LeO.bind ?_ (fun _=>?_))
  |exact ih0 _ _ _
  |exact ih1 _ _ _ _ _
  |exact impl_areTrackChecksums.mono _ _
  |exact LeO.none _
   | refine LeO.ite ?_ ?_
   | refine LeO.bind ?_ (fun _=>?_)
set_option maxHeartbeats 8000000 in
set_option maxRecDepth 100000 in
theorem impl_DifferentTracks.calls (k:Nat) (A0:Option Addr) (c0:Nat) (l0:List Int) (A1:Option Addr) (c1:Nat) (l1:List Int) (r1:List Int) (r2:Bool) (w:World) (hr0:Kd.C (Kd.int .i64) w A0 l0.length l0) (hc0:l0.length≤c0) (hr1:Kd.C (Kd.int .i64) w A1 l1.length l1) (hc1:l1.length≤c1) (h:impl_DifferentTracks.f k l0 l1=some (r1,r2)) :
 Calls Tryd.prog 19 #[.slice A0 l0.length c0, .slice A1 l1.length c1] w fun e w'=>∃v0_:Value,e = .returned (.tuple #[v0_, .bool r2])∧Kd.R (Kd.int .i64) 3 w' w.heap.size (fun _=>True) v0_ r1∧Below w.heap.size w w':=by
 have HR0:=am_ hr0
 have HC0:=am_ hc0
 clear hr0 hc0
 have HR1:=am_ hr1
 have HC1:=am_ hc1
 clear hr1 hc1
 have HB:=am_ (Below.refl w.heap.size w)
 have H:((impl_areTrackChecksums.f k l0).bind fun t379=>(if t379=true then((impl_areTrackChecksums.f k l1).bind fun t380=>(impl_DifferentTracks.j0 k l0 l1 (!t380))) else(impl_DifferentTracks.j0 k l0 l1 true)))=some (r1,r2):=h
 clear h
 have HC3:=am_ H
 clear H
 go_enter Tryd.func19,Tryd.ntmps19
 go_upto_region 1 with (fail)
 repeat (go_quiet (fail);go_upto_region 1 with (fail))
 go_cut [15] (fun v15 wc=>∃(kq:Nat) (x15_2:Bool),v15 = .bool x15_2∧Aside0 (impl_DifferentTracks.j0 kq l0 l1 x15_2=some (r1,r2))∧Aside0 (kq≤k)∧Aside0 (Below w.heap.size w wc))
 case first=>
  have H:=HC3.out
  clear HC3
  obtain⟨t379,A4,H⟩:=bo_ H
  try dsimp only at H
  by_cases c5:t379=true
  ·subst c5
   replace H:((impl_areTrackChecksums.f k l1).bind fun t380=>(impl_DifferentTracks.j0 k l0 l1 (!t380)))=some (r1,r2):=by rw[if_pos rfl]at H;exact H
   obtain⟨t380,A6,H⟩:=bo_ H
   try dsimp only at H
   have H':=am_ H
   clear H
   iterate 6 (go_wp2_with (first|(go_at_call 51;(with_reducible refine(impl_areTrackChecksums.calls k _ _ l0 true _ ?side1 ?side2 A4.out).mono ?_);(case side1=>exact(a21_ HR0.out));(case side2=>exact HC0.out);rintro e w' ⟨rfl,⟨nd,rfl⟩⟩;(try first|exact⟨rfl,_,World.drewN_drewN _ _ _⟩|exact⟨rfl,_,Eq.trans (World.drewN_drewN _ _ _) (congrArg (World.drewN _) (Nat.add_assoc _ _ _))⟩))|(go_at_call 51;(with_reducible refine(impl_areTrackChecksums.calls k _ _ l1 t380 _ ?side1 ?side2 A6.out).mono ?_);(case side1=>exact(a44_ HR1.out));(case side2=>exact HC1.out);rintro e w' ⟨rfl,⟨nd,rfl⟩⟩;(try first|exact⟨rfl,_,World.drewN_drewN _ _ _⟩|exact⟨rfl,_,Eq.trans (World.drewN_drewN _ _ _) (congrArg (World.drewN _) (Nat.add_assoc _ _ _))⟩)));try go_quiet (first|(go_at_call 51;(with_reducible refine(impl_areTrackChecksums.calls k _ _ l0 true _ ?side1 ?side2 A4.out).mono ?_);(case side1=>exact(a21_ HR0.out));(case side2=>exact HC0.out);rintro e w' ⟨rfl,⟨nd,rfl⟩⟩;(try first|exact⟨rfl,_,World.drewN_drewN _ _ _⟩|exact⟨rfl,_,Eq.trans (World.drewN_drewN _ _ _) (congrArg (World.drewN _) (Nat.add_assoc _ _ _))⟩))|(go_at_call 51;(with_reducible refine(impl_areTrackChecksums.calls k _ _ l1 t380 _ ?side1 ?side2 A6.out).mono ?_);(case side1=>exact(a44_ HR1.out));(case side2=>exact HC1.out);rintro e w' ⟨rfl,⟨nd,rfl⟩⟩;(try first|exact⟨rfl,_,World.drewN_drewN _ _ _⟩|exact⟨rfl,_,Eq.trans (World.drewN_drewN _ _ _) (congrArg (World.drewN _) (Nat.add_assoc _ _ _))⟩))))
   go_meet
   case rel=>exact⟨_,(!t380),(by first | rfl|(simp;done)|(simp[*];done)),H',⟨by first | omega|exact Nat.le_refl _⟩,⟨a0_⟩⟩
  ·replace c5:=Bool.eq_false_iff.mpr c5
   subst c5
   replace H:(impl_DifferentTracks.j0 k l0 l1 true)=some (r1,r2):=by rw[if_neg (show ¬(false=true) by decide)]at H;exact H
   have H':=am_ H
   clear H
   iterate 6 (go_wp2_with (first|(go_at_call 51;(with_reducible refine(impl_areTrackChecksums.calls k _ _ l0 false _ ?side1 ?side2 A4.out).mono ?_);(case side1=>exact(a21_ HR0.out));(case side2=>exact HC0.out);rintro e w' ⟨rfl,⟨nd,rfl⟩⟩;(try first|exact⟨rfl,_,World.drewN_drewN _ _ _⟩|exact⟨rfl,_,Eq.trans (World.drewN_drewN _ _ _) (congrArg (World.drewN _) (Nat.add_assoc _ _ _))⟩)));try go_quiet (first|(go_at_call 51;(with_reducible refine(impl_areTrackChecksums.calls k _ _ l0 false _ ?side1 ?side2 A4.out).mono ?_);(case side1=>exact(a21_ HR0.out));(case side2=>exact HC0.out);rintro e w' ⟨rfl,⟨nd,rfl⟩⟩;(try first|exact⟨rfl,_,World.drewN_drewN _ _ _⟩|exact⟨rfl,_,Eq.trans (World.drewN_drewN _ _ _) (congrArg (World.drewN _) (Nat.add_assoc _ _ _))⟩))))
   go_meet
   case rel=>exact⟨_,(true),(by first | rfl|(simp;done)|(simp[*];done)),H',⟨by first | omega|exact Nat.le_refl _⟩,⟨a0_⟩⟩
 case rest=>
  clear HC3
  try clear c1
  try clear p2
  try clear c5
  obtain⟨kq,x15_2,rfl,HA,HJ2,HB⟩:=hcut
  cases kq with
  | zero=>exact absurd HA.out (by simp[impl_DifferentTracks.j0])
  | succ kj2=>
   have H:=HA.out
   clear HA
   simp only[impl_DifferentTracks.j0]at H
   by_cases c7:x15_2=true
   ·subst c7
    replace H:(some (([]:List Int),false))=some (r1,r2):=by rw[if_pos rfl]at H;exact H
    simp only[Option.some.injEq,Prod.mk.injEq]at H
    obtain⟨rfl,rfl⟩:=H
    go_wp2
    repeat (go_quiet (fail);try go_wp2)
    go_ret2
    exact⟨_,a8_,a29_,a0_⟩
   ·replace c7:=Bool.eq_false_iff.mpr c7
    subst c7
    replace H:(impl_DifferentTracks.l0 kj2 l0 l1 (([]:List Int)) (l0.length:Int) 0)=some (r1,r2):=by rw[if_neg (show ¬(false=true) by decide)]at H;exact H
    obtain⟨y381,hy381⟩:∃y_:List Int,y_=(([]:List Int)):=⟨_,rfl⟩
    replace H:(impl_DifferentTracks.l0 kj2 l0 l1 y381 (l0.length:Int) 0)=some (r1,r2):=by first|(rw[hy381];with_reducible exact H)|(have H2_:=(Option.bind_some _ _).symm.trans H;rw[hy381];with_reducible exact H2_)|(have H2_:=(Option.bind_some _ _).symm.trans H;with_reducible exact H2_) | with_reducible exact H|(rw[hy381];exact H)|exact H
    have Ny381:=am_ hy381
    clear hy381
    have H':=am_ H
    clear H
    iterate 6 (go_wp2_with (first|((with_reducible refine gate_dst (N:=16) rfl ?_);refine Kd.R_lit (Kd.int .i64) _ 3 ?hg (N:=16) ?hd (xs:=([]:List Int)) (inner:=[]) (ok:=fun _=>True) (okp:=fun _=>True) ?hr ?hp (fun _ hk=>hk) trivial (Below.refl _ _) (Nat.le_refl _) (by simp) ?_;(case hd=>rfl);(case hg=>rfl);(case hr=>exact hr_);(case hp=>exact(Reps.none _ _));intro v382 w8 ho9 hb hg_ hnew_;clear hg_ hnew_;(first|rw[← Ny381.out]at ho9|(simp only[Int.reduceToNat]at ho9;rw[← Ny381.out]at ho9));have HO383:=am_ (Kd.R_lower ho9 (below_size (a0_)));replace HB:=am_ (below_step (a0_) hb);clear hb ho9));try go_quiet (fail))
    (try simp only[Act.put,List.setIfInBounds_toArray,List.set_cons_zero,List.set_cons_succ])
    go_loopg [6,19] kj2 (fun kq v6 v19 w'=>∃(x6_2:List Int) (x19_2:Int),v19 = .int .i64 x19_2∧Aside0 (impl_DifferentTracks.l0 kq l0 l1 x6_2 (l0.length:Int) x19_2=some (r1,r2))∧Aside0 (kq≤kj2)∧Aside0 (Kd.R (Kd.int .i64) 3 w' w.heap.size (fun _=>True) v6 x6_2)∧Aside0 (Below w.heap.size w w'))
    case atStart=>exact⟨(y381),(0),(by first | rfl|(simp;done)|(simp[*];done)),H',⟨Nat.le_refl _⟩,⟨(a1_ HO383.out)⟩,⟨a0_⟩⟩
    case round=>
     clear H'
     try clear c1
     try clear p2
     try clear c5
     try clear c7
     try clear p2
     obtain⟨x6_2,x19_2,rfl,HA,HK2,HO_6,HB⟩:=hrel
     cases gk with
     | zero=>exact absurd HA.out (by simp[impl_DifferentTracks.l0])
     | succ k2=>
      have H:=HA.out
      clear HA
      simp only[impl_DifferentTracks.l0]at H
      by_cases c10:x19_2<(l0.length:Int)
      ·rw[if_pos c10]at H
       have c10b0:decide (x19_2<(l0.length:Int))=true:=decide_eq_true c10
       clear c10
       by_cases c11:0≤x19_2
       ·rw[if_pos c11]at H
        have c11b0:decide (0≤x19_2)=true:=decide_eq_true c11
        clear c11
        by_cases c12:x19_2<(l0.length:Int)
        ·rw[if_pos c12]at H
         have c12b0:decide (x19_2<(l0.length:Int))=true:=decide_eq_true c12
         clear c12
         by_cases c13:x19_2<(l1.length:Int)
         ·rw[if_pos c13]at H
          have c13b0:decide (x19_2<(l1.length:Int))=true:=decide_eq_true c13
          clear c13
          by_cases c14:(rd l0 x19_2)=(rd l1 x19_2)
          ·rw[if_pos c14]at H
           have c14b0:((rd l0 x19_2) == (rd l1 x19_2))=true:=beq_iff_eq.mpr c14
           have c14b1:((rd l0 x19_2) != (rd l1 x19_2))=false:=bne_eq_false_iff_eq.mpr c14
           clear c14
           have H':=am_ H
           clear H
           have p384:0≤(x19_2:Int):=of_decide_eq_true (a10_)
           have q384:x19_2<(l0.length:Int):=of_decide_eq_true (a10_)
           obtain⟨ad384,e384,hx384_0⟩:=Kd.at_int HR0.out x19_2 p384 q384
           cases e384
           replace hx384_0:=(HB.out.cell (World.block_lt_of_cell? w _ hx384_0)).trans hx384_0
           replace p384:=eq_true p384
           replace q384:=eq_true q384
           have p385:0≤(x19_2:Int):=of_decide_eq_true (a10_)
           have q385:x19_2<(l1.length:Int):=of_decide_eq_true (a10_)
           obtain⟨ad385,e385,hx385_0⟩:=Kd.at_int HR1.out x19_2 p385 q385
           cases e385
           replace hx385_0:=(HB.out.cell (World.block_lt_of_cell? w _ hx385_0)).trans hx385_0
           replace p385:=eq_true p385
           replace q385:=eq_true q385
           go_wp2
           repeat (go_quiet (fail);try go_wp2)
           go_roundg k2
           case measure=>have:=HJ2.out;have:=HK2.out;omega
           case rel=>exact⟨(x6_2),(wrap64 (x19_2+1)),(by first | rfl|(simp;done)|(simp[*];done)),H',⟨by have:=HJ2.out;have:=HK2.out;omega⟩,⟨(a1_ HO_6.out)⟩,⟨a0_⟩⟩
          ·rw[if_neg c14]at H
           have c14b0:((rd l0 x19_2) == (rd l1 x19_2))=false:=beq_eq_false_iff_ne.mpr c14
           have c14b1:((rd l0 x19_2) != (rd l1 x19_2))=true:=bne_iff_ne.mpr c14
           by_cases c15:x6_2.length<17592186044416
           ·rw[if_pos c15]at H
            have LMc15:=am_ c15
            clear c15
            obtain⟨y386,hy386⟩:∃y_:List Int,y_=(x6_2 ++ [x19_2]):=⟨_,rfl⟩
            replace H:(impl_DifferentTracks.l0 k2 l0 l1 y386 (l0.length:Int) (wrap64 (x19_2+1)))=some (r1,r2):=by first|(rw[hy386];with_reducible exact H)|(have H2_:=(Option.bind_some _ _).symm.trans H;rw[hy386];with_reducible exact H2_)|(have H2_:=(Option.bind_some _ _).symm.trans H;with_reducible exact H2_) | with_reducible exact H|(rw[hy386];exact H)|exact H
            have Ny386:=am_ hy386
            clear hy386
            have H':=am_ H
            clear H
            have p384:0≤(x19_2:Int):=of_decide_eq_true (a10_)
            have q384:x19_2<(l0.length:Int):=of_decide_eq_true (a10_)
            obtain⟨ad384,e384,hx384_0⟩:=Kd.at_int HR0.out x19_2 p384 q384
            cases e384
            replace hx384_0:=(HB.out.cell (World.block_lt_of_cell? w _ hx384_0)).trans hx384_0
            replace p384:=eq_true p384
            replace q384:=eq_true q384
            have p385:0≤(x19_2:Int):=of_decide_eq_true (a10_)
            have q385:x19_2<(l1.length:Int):=of_decide_eq_true (a10_)
            obtain⟨ad385,e385,hx385_0⟩:=Kd.at_int HR1.out x19_2 p385 q385
            cases e385
            replace hx385_0:=(HB.out.cell (World.block_lt_of_cell? w _ hx385_0)).trans hx385_0
            replace p385:=eq_true p385
            replace q385:=eq_true q385
            iterate 6 (go_wp2_with (first|((with_reducible refine gate_builtin (b:= .append) (xs:= #[.tmp 31, .tmp 33]) rfl ?_);at_builtin;refine Kd.R_append (Kd.int .i64) (w0:=w) w.heap.size rfl (.tmp 31) (.tmp 33) 28 3 (.int .i64 0) 8 rfl Tryd.underlying28 info3 rfl (by decide) (by omega) u6 x6_2 x19_2 [.int .i64 x19_2] (fun _=>True) (fun _=>False) rfl rfl ?aP (fun _ hk=>hk.elim) ?aF ?aO ?aB ?aS ?aL ?_;(case aP=>exact rfl);(case aB=>exact(a0_));(case aF=>exact(fun _ _=>trivial));(case aO=>exact((a1_ HO_6.out)));(case aS=>exact(below_size (a0_)));(case aL=>have:=LMc15.out;omega);intro v387 w16 ho hb hg hat;rw[← Ny386.out]at ho;have n0_:=am_ (hb);have n1_:=am_ (ho);clear HB HO_6;have HB:=n0_;have HO388:=n1_;clear n0_ n1_ ho hb hg hat));try go_quiet (fail))
            go_roundg k2
            case measure=>have:=HJ2.out;have:=HK2.out;omega
            case rel=>exact⟨(y386),(wrap64 (x19_2+1)),(by first | rfl|(simp;done)|(simp[*];done)),H',⟨by have:=HJ2.out;have:=HK2.out;omega⟩,⟨(a1_ HO388.out)⟩,⟨a0_⟩⟩
           ·rw[if_neg c15]at H
            exact absurd H (by simp)
         ·rw[if_neg c13]at H
          exact absurd H (by simp)
        ·rw[if_neg c12]at H
         exact absurd H (by simp)
       ·rw[if_neg c11]at H
        exact absurd H (by simp)
      ·rw[if_neg c10]at H
       have c10b0:decide (x19_2<(l0.length:Int))=false:=decide_eq_false c10
       clear c10
       simp only[Option.some.injEq,Prod.mk.injEq]at H
       obtain⟨rfl,rfl⟩:=H
       go_wp2
       repeat (go_quiet (fail);try go_wp2)
       go_ret2
       exact⟨_,a8_,(a1_ HO_6.out),a0_⟩

end Go.Proofs.YtpbffmjjhmllbaaDoor.QFnChecksums
