/- Written by a program of this session (the kit's printer, with leaf contracts proved by hand put in): what each Go function computes, and that the call computes it. No condition but those that each theorem names. -/
import Derived.Test.YtplpjmhmochcfaaQFnMergesx0
import Derived.Test.YtplpjmhmochcfaaQFnMergesx1
namespace Go.Proofs.Ytplpjmhmochcfaa.QFnMerges
open Go.RowKit Go.Proofs.YtplpjmhmochcfaaW.PrintWords Go.Proofs.YtplpjmhmochcfaaW.PrintLast Go.Proofs.YtplpjmhmochcfaaW.PrintMore
attribute [local go_sem] max2_int min2_int max_two min_two max_three min_three max_four min_four   -- for this text's walks alone
set_option linter.unusedVariables false
set_option linter.unusedSimpArgs false

attribute [local go_sem high] eqA42
/-! ### laws_big: function 9 -/
def laws_big.f (l0:List Int) (l1:List Int):Option (Bool):=if(l0.length:Int)>1048576 then(some true) else(some (decide ((l1.length:Int)>(wrap64 (1048576-(l0.length:Int))))))
set_option maxHeartbeats 8000000 in
set_option maxRecDepth 100000 in
theorem laws_big.calls (A0:Option Addr) (c0:Nat) (l0:List Int) (A1:Option Addr) (c1:Nat) (l1:List Int) (r:Bool) (w:World) (hr0:Kd.C (Kd.int .u8) w A0 l0.length l0) (hc0:l0.length≤c0) (hr1:Kd.C (Kd.int .u8) w A1 l1.length l1) (hc1:l1.length≤c1) (h:laws_big.f l0 l1=some r) :
 Calls Try.prog 9 #[.slice A0 l0.length c0, .slice A1 l1.length c1] w fun e w'=>e = .returned (.bool r)∧Drawn0 w w':=by
 have HR0:=am_ hr0
 have HC0:=am_ hc0
 clear hr0 hc0
 have HR1:=am_ hr1
 have HC1:=am_ hc1
 clear hr1 hc1
 have H:(if(l0.length:Int)>1048576 then(some true) else(some (decide ((l1.length:Int)>(wrap64 (1048576-(l0.length:Int)))))))=some r:=h
 clear h
 by_cases c3:(l0.length:Int)>1048576
 ·rw[if_pos c3]at H
  have c3b0:decide (1048576<(l0.length:Int))=true:=decide_eq_true c3
  have c3b1:decide (1048576<l0.length)=true:=decide_eq_true (by omega)
  clear c3
  obtain rfl:=Option.some.inj H
  go_enter Try.func9,Try.ntmps9
  go_wp2
  go_ret
  exact⟨by first | rfl|(simp;done)|(simp[*];done),a53_⟩
 ·rw[if_neg c3]at H
  have c3b0:decide (1048576<(l0.length:Int))=false:=decide_eq_false c3
  have c3b1:decide (1048576<l0.length)=false:=decide_eq_false (by omega)
  clear c3
  obtain rfl:=Option.some.inj H
  go_enter Try.func9,Try.ntmps9
  go_wp2
  go_ret
  exact⟨by first | rfl|(simp;done)|(simp[*];done),a53_⟩

/-! ### laws_pSameHoles: function 42 -/
def laws_pSameHoles.l0:Nat→List (S42)→List (S42)→Int→Int→Option (Bool)
 | 0,_,_,_,_=>none
 | k+1,x0,x1,x12,x13=>if x13<x12 then(if 0≤x13 then(if x13<(x0.length:Int) then(if x13<(x1.length:Int) then(if(!(((rd_T42 x0 x13).f0) == ((rd_T42 x1 x13).f0)) || (!(((rd_T42 x0 x13).f1) == ((rd_T42 x1 x13).f1)) || (!(((rd_T42 x0 x13).f2) == ((rd_T42 x1 x13).f2)))))=true then(some false) else(laws_pSameHoles.l0 k x0 x1 x12 (wrap64 (x13+1)))) else(none)) else(none)) else(none)) else(some true)
def laws_pSameHoles.f (k:Nat) (l0:List (S42)) (l1:List (S42)):Option (Bool):=if(l0.length:Int)=(l1.length:Int) then(laws_pSameHoles.l0 k l0 l1 (l0.length:Int) 0) else(some false)
theorem laws_pSameHoles.mono_l:∀k,(∀y0 y1 y2 y3,LeO (laws_pSameHoles.l0 k y0 y1 y2 y3) (laws_pSameHoles.l0 (k+1) y0 y1 y2 y3))
 | 0=>fun _ _ _ _ r h=>by simp[laws_pSameHoles.l0]at h
 | k+1=>by
  have ih0:=laws_pSameHoles.mono_l k
  intros
  unfold laws_pSameHoles.l0
  rotate_left
  all_goals repeat' first|(with_reducible first|exact ih0 _ _ _ _|exact LeO.refl _|exact LeO.none _|refine LeO.ite ?_ ?_|refine LeO.bind ?_ (fun _=>?_))|exact ih0 _ _ _ _|exact LeO.none _|refine LeO.ite ?_ ?_|refine LeO.bind ?_ (fun _=>?_)
theorem laws_pSameHoles.mono:∀a0 a1 k,LeO (laws_pSameHoles.f k a0 a1) (laws_pSameHoles.f (k+1) a0 a1):=by
 intro a0 a1 k
 have ih0:=laws_pSameHoles.mono_l k
 unfold laws_pSameHoles.f
 repeat' first
  |(with_reducible exact ih0 _ _ _ _)
  |(with_reducible exact LeO.refl _)
  |(with_reducible exact LeO.none _)
  |(with_reducible refine LeO.ite ?_ ?_)
  |(with_reducible refine LeO.bind ?_ (fun _=>?_))
  |exact ih0 _ _ _ _
  |exact LeO.none _
   | refine LeO.ite ?_ ?_
   | refine LeO.bind ?_ (fun _=>?_)
set_option maxHeartbeats 8000000 in
set_option maxRecDepth 100000 in
theorem laws_pSameHoles.calls (k:Nat) (A0:Option Addr) (c0:Nat) (l0:List (S42)) (A1:Option Addr) (c1:Nat) (l1:List (S42)) (r:Bool) (w:World) (hr0:Kd.C k42 w A0 l0.length l0) (hc0:l0.length≤c0) (hr1:Kd.C k42 w A1 l1.length l1) (hc1:l1.length≤c1) (h:laws_pSameHoles.f k l0 l1=some r) :
 Calls Try.prog 42 #[.slice A0 l0.length c0, .slice A1 l1.length c1] w fun e w'=>e = .returned (.bool r)∧Drawn0 w w':=by
 have hu42:=Try.underlying42
 have HR0:=am_ hr0
 have HC0:=am_ hc0
 clear hr0 hc0
 have HR1:=am_ hr1
 have HC1:=am_ hc1
 clear hr1 hc1
 have H:(if(l0.length:Int)=(l1.length:Int) then(laws_pSameHoles.l0 k l0 l1 (l0.length:Int) 0) else(some false))=some r:=h
 clear h
 by_cases c3:(l0.length:Int)=(l1.length:Int)
 ·rw[if_pos c3]at H
  have c3b0:((l0.length:Int) == (l1.length:Int))=true:=beq_iff_eq.mpr c3
  have c3b1:((l0.length:Int) != (l1.length:Int))=false:=bne_eq_false_iff_eq.mpr c3
  have c3b2:(l0.length == l1.length)=true:=by first | simpa using c3|(simp at c3 ⊢;omega)
  clear c3
  have H':=am_ H
  clear H
  go_enter Try.func42,Try.ntmps42
  go_wp2
  repeat (go_quiet (fail);try go_wp2)
  go_loopg [13] k (fun kq v13 w'=>∃(x13_1:Int),v13 = .int .i64 x13_1∧Aside0 (laws_pSameHoles.l0 kq l0 l1 (l0.length:Int) x13_1=some r)∧Aside0 (kq≤k)∧Drawn0 w w')
  case atStart=>exact⟨(0),(by first | rfl|(simp;done)|(simp[*];done)),H',⟨Nat.le_refl _⟩,a53_⟩
  case round=>
   clear H'
   try clear c1
   try clear p2
   try clear c3
   try clear c3b0
   try clear c3b1
   try clear c3b2
   obtain⟨x13_1,rfl,HA,HK1,⟨m1,rfl⟩⟩:=hrel
   cases gk with
   | zero=>exact absurd HA.out (by simp[laws_pSameHoles.l0])
   | succ k1=>
    have H:=HA.out
    clear HA
    simp only[laws_pSameHoles.l0]at H
    by_cases c4:x13_1<(l0.length:Int)
    ·rw[if_pos c4]at H
     have c4b0:decide (x13_1<(l0.length:Int))=true:=decide_eq_true c4
     clear c4
     by_cases c5:0≤x13_1
     ·rw[if_pos c5]at H
      have c5b0:decide (0≤x13_1)=true:=decide_eq_true c5
      clear c5
      by_cases c6:x13_1<(l0.length:Int)
      ·rw[if_pos c6]at H
       have c6b0:decide (x13_1<(l0.length:Int))=true:=decide_eq_true c6
       clear c6
       by_cases c7:x13_1<(l1.length:Int)
       ·rw[if_pos c7]at H
        have c7b0:decide (x13_1<(l1.length:Int))=true:=decide_eq_true c7
        clear c7
        by_cases c8:(!(((rd_T42 l0 x13_1).f0) == ((rd_T42 l1 x13_1).f0)) || (!(((rd_T42 l0 x13_1).f1) == ((rd_T42 l1 x13_1).f1)) || (!(((rd_T42 l0 x13_1).f2) == ((rd_T42 l1 x13_1).f2)))))=true
        ·rw[if_pos c8]at H
         have c8b0:(!(((rd_T42 l0 x13_1).f0) == ((rd_T42 l1 x13_1).f0)) || (!(((rd_T42 l0 x13_1).f1) == ((rd_T42 l1 x13_1).f1)) || (!(((rd_T42 l0 x13_1).f2) == ((rd_T42 l1 x13_1).f2)))))=true:=c8
         clear c8
         obtain rfl:=Option.some.inj H
         have p101:0≤(x13_1:Int):=of_decide_eq_true (a13_)
         have q101:x13_1<(l0.length:Int):=of_decide_eq_true (a13_)
         obtain⟨ad101,e101,hx101_0,hx101_1,hx101_2⟩:=at_T42 HR0.out x13_1 p101 q101
         cases e101
         replace p101:=eq_true p101
         replace q101:=eq_true q101
         have p102:0≤(x13_1:Int):=of_decide_eq_true (a13_)
         have q102:x13_1<(l1.length:Int):=of_decide_eq_true (a13_)
         obtain⟨ad102,e102,hx102_0,hx102_1,hx102_2⟩:=at_T42 HR1.out x13_1 p102 q102
         cases e102
         replace p102:=eq_true p102
         replace q102:=eq_true q102
         go_wp2
         repeat (go_quiet (fail);try go_wp2)
         go_ret
         exact⟨by first | rfl|(simp;done)|(simp[*];done),a53_⟩
        ·rw[if_neg c8]at H
         have c8b0:(!(((rd_T42 l0 x13_1).f0) == ((rd_T42 l1 x13_1).f0)) || (!(((rd_T42 l0 x13_1).f1) == ((rd_T42 l1 x13_1).f1)) || (!(((rd_T42 l0 x13_1).f2) == ((rd_T42 l1 x13_1).f2)))))=false:=by simpa using c8
         clear c8
         have H':=am_ H
         clear H
         have p101:0≤(x13_1:Int):=of_decide_eq_true (a13_)
         have q101:x13_1<(l0.length:Int):=of_decide_eq_true (a13_)
         obtain⟨ad101,e101,hx101_0,hx101_1,hx101_2⟩:=at_T42 HR0.out x13_1 p101 q101
         cases e101
         replace p101:=eq_true p101
         replace q101:=eq_true q101
         have p102:0≤(x13_1:Int):=of_decide_eq_true (a13_)
         have q102:x13_1<(l1.length:Int):=of_decide_eq_true (a13_)
         obtain⟨ad102,e102,hx102_0,hx102_1,hx102_2⟩:=at_T42 HR1.out x13_1 p102 q102
         cases e102
         replace p102:=eq_true p102
         replace q102:=eq_true q102
         go_wp2
         repeat (go_quiet (fail);try go_wp2)
         go_roundg k1
         case measure=>have:=HK1.out;omega
         case rel=>exact⟨(wrap64 (x13_1+1)),(by first | rfl|(simp;done)|(simp[*];done)),H',⟨by have:=HK1.out;omega⟩,a53_⟩
       ·rw[if_neg c7]at H
        exact absurd H (by simp)
      ·rw[if_neg c6]at H
       exact absurd H (by simp)
     ·rw[if_neg c5]at H
      exact absurd H (by simp)
    ·rw[if_neg c4]at H
     have c4b0:decide (x13_1<(l0.length:Int))=false:=decide_eq_false c4
     clear c4
     obtain rfl:=Option.some.inj H
     go_wp2
     repeat (go_quiet (fail);try go_wp2)
     go_ret
     exact⟨by first | rfl|(simp;done)|(simp[*];done),a53_⟩
 ·rw[if_neg c3]at H
  have c3b0:((l0.length:Int) == (l1.length:Int))=false:=beq_eq_false_iff_ne.mpr c3
  have c3b1:((l0.length:Int) != (l1.length:Int))=true:=bne_iff_ne.mpr c3
  have c3b2:(l0.length == l1.length)=false:=by first | simpa using c3|(simp at c3 ⊢;omega)
  obtain rfl:=Option.some.inj H
  go_enter Try.func42,Try.ntmps42
  go_wp2
  repeat (go_quiet (fail);try go_wp2)
  go_ret
  exact⟨by first | rfl|(simp;done)|(simp[*];done),a53_⟩

/-! ### laws_pSameSheets: function 19 -/
def laws_pSameSheets.l0:Nat→List (List (S42))→List (List (S42))→Int→Int→Option (Bool)
 | 0,_,_,_,_=>none
 | k+1,x0,x1,x12,x13=>if x13<x12 then(if 0≤x13 then(if x13<(x0.length:Int) then(if x13<(x1.length:Int) then((laws_pSameHoles.f k (rd_L3 x0 x13) (rd_L3 x1 x13)).bind fun t105=>(if t105=true then(laws_pSameSheets.l0 k x0 x1 x12 (wrap64 (x13+1))) else(some false))) else(none)) else(none)) else(none)) else(some true)
def laws_pSameSheets.f (k:Nat) (l0:List (List (S42))) (l1:List (List (S42))):Option (Bool):=if(l0.length:Int)=(l1.length:Int) then(laws_pSameSheets.l0 k l0 l1 (l0.length:Int) 0) else(some false)
theorem laws_pSameSheets.mono_l:∀k,(∀y0 y1 y2 y3,LeO (laws_pSameSheets.l0 k y0 y1 y2 y3) (laws_pSameSheets.l0 (k+1) y0 y1 y2 y3))
 | 0=>fun _ _ _ _ r h=>by simp[laws_pSameSheets.l0]at h
 | k+1=>by
  have ih0:=laws_pSameSheets.mono_l k
  intros
  unfold laws_pSameSheets.l0
  rotate_left
  all_goals repeat' first|(with_reducible first|exact ih0 _ _ _ _|exact laws_pSameHoles.mono _ _ _|exact LeO.refl _|exact LeO.none _|refine LeO.ite ?_ ?_|refine LeO.bind ?_ (fun _=>?_))|exact ih0 _ _ _ _|exact laws_pSameHoles.mono _ _ _|exact LeO.none _|refine LeO.ite ?_ ?_|refine LeO.bind ?_ (fun _=>?_)
theorem laws_pSameSheets.mono:∀a0 a1 k,LeO (laws_pSameSheets.f k a0 a1) (laws_pSameSheets.f (k+1) a0 a1):=by
 intro a0 a1 k
 have ih0:=laws_pSameSheets.mono_l k
 unfold laws_pSameSheets.f
 repeat' first
  |(with_reducible exact ih0 _ _ _ _)
  |(with_reducible exact laws_pSameHoles.mono _ _ _)
  |(with_reducible exact LeO.refl _)
  |(with_reducible exact LeO.none _)
  |(with_reducible refine LeO.ite ?_ ?_)
  |(with_reducible refine LeO.bind ?_ (fun _=>?_))
  |exact ih0 _ _ _ _
  |exact laws_pSameHoles.mono _ _ _
  |exact LeO.none _
   | refine LeO.ite ?_ ?_
   | refine LeO.bind ?_ (fun _=>?_)
set_option maxHeartbeats 8000000 in
set_option maxRecDepth 100000 in
theorem laws_pSameSheets.calls (k:Nat) (A0:Option Addr) (c0:Nat) (l0:List (List (S42))) (A1:Option Addr) (c1:Nat) (l1:List (List (S42))) (r:Bool) (w:World) (hr0:Kd.C (Kd.slice 42 k42) w A0 l0.length l0) (hc0:l0.length≤c0) (hr1:Kd.C (Kd.slice 42 k42) w A1 l1.length l1) (hc1:l1.length≤c1) (h:laws_pSameSheets.f k l0 l1=some r) :
 Calls Try.prog 19 #[.slice A0 l0.length c0, .slice A1 l1.length c1] w fun e w'=>e = .returned (.bool r)∧Drawn0 w w':=by
 have HR0:=am_ hr0
 have HC0:=am_ hc0
 clear hr0 hc0
 have HR1:=am_ hr1
 have HC1:=am_ hc1
 clear hr1 hc1
 have H:(if(l0.length:Int)=(l1.length:Int) then(laws_pSameSheets.l0 k l0 l1 (l0.length:Int) 0) else(some false))=some r:=h
 clear h
 by_cases c3:(l0.length:Int)=(l1.length:Int)
 ·rw[if_pos c3]at H
  have c3b0:((l0.length:Int) == (l1.length:Int))=true:=beq_iff_eq.mpr c3
  have c3b1:((l0.length:Int) != (l1.length:Int))=false:=bne_eq_false_iff_eq.mpr c3
  have c3b2:(l0.length == l1.length)=true:=by first | simpa using c3|(simp at c3 ⊢;omega)
  clear c3
  have H':=am_ H
  clear H
  go_enter Try.func19,Try.ntmps19
  go_wp2
  repeat (go_quiet (fail);try go_wp2)
  go_loopg [13] k (fun kq v13 w'=>∃(x13_1:Int),v13 = .int .i64 x13_1∧Aside0 (laws_pSameSheets.l0 kq l0 l1 (l0.length:Int) x13_1=some r)∧Aside0 (kq≤k)∧Drawn0 w w')
  case atStart=>exact⟨(0),(by first | rfl|(simp;done)|(simp[*];done)),H',⟨Nat.le_refl _⟩,a53_⟩
  case round=>
   clear H'
   try clear c1
   try clear p2
   try clear c3
   try clear c3b0
   try clear c3b1
   try clear c3b2
   obtain⟨x13_1,rfl,HA,HK1,⟨m1,rfl⟩⟩:=hrel
   cases gk with
   | zero=>exact absurd HA.out (by simp[laws_pSameSheets.l0])
   | succ k1=>
    have H:=HA.out
    clear HA
    simp only[laws_pSameSheets.l0]at H
    by_cases c4:x13_1<(l0.length:Int)
    ·rw[if_pos c4]at H
     have c4b0:decide (x13_1<(l0.length:Int))=true:=decide_eq_true c4
     clear c4
     by_cases c5:0≤x13_1
     ·rw[if_pos c5]at H
      have c5b0:decide (0≤x13_1)=true:=decide_eq_true c5
      clear c5
      by_cases c6:x13_1<(l0.length:Int)
      ·rw[if_pos c6]at H
       have c6b0:decide (x13_1<(l0.length:Int))=true:=decide_eq_true c6
       clear c6
       by_cases c7:x13_1<(l1.length:Int)
       ·rw[if_pos c7]at H
        have c7b0:decide (x13_1<(l1.length:Int))=true:=decide_eq_true c7
        clear c7
        obtain⟨t105,A8,H⟩:=bo_ H
        try dsimp only at H
        by_cases c9:t105=true
        ·subst c9
         replace H:(laws_pSameSheets.l0 k1 l0 l1 (l0.length:Int) (wrap64 (x13_1+1)))=some r:=by rw[if_pos rfl]at H;exact H
         have H':=am_ H
         clear H
         have p103:0≤(x13_1:Int):=of_decide_eq_true (a13_)
         have q103:x13_1<(l0.length:Int):=of_decide_eq_true (a13_)
         obtain⟨ad103,A103_0,c103_0,e103,hx103_0,hl103_0,hi103_0⟩:=at_L3 HR0.out x13_1 p103 q103
         cases e103
         have HR103_0:=am_ hi103_0
         have HC103_0:=am_ hl103_0
         clear hi103_0 hl103_0
         replace p103:=eq_true p103
         replace q103:=eq_true q103
         have p104:0≤(x13_1:Int):=of_decide_eq_true (a13_)
         have q104:x13_1<(l1.length:Int):=of_decide_eq_true (a13_)
         obtain⟨ad104,A104_0,c104_0,e104,hx104_0,hl104_0,hi104_0⟩:=at_L3 HR1.out x13_1 p104 q104
         cases e104
         have HR104_0:=am_ hi104_0
         have HC104_0:=am_ hl104_0
         clear hi104_0 hl104_0
         replace p104:=eq_true p104
         replace q104:=eq_true q104
         iterate 6 (go_wp2_with (first|(go_at_call 42;(with_reducible refine(laws_pSameHoles.calls k1 _ _ (rd_L3 l0 x13_1) _ _ (rd_L3 l1 x13_1) true _ ?side1 ?side2 ?side3 ?side4 A8.out).mono ?_);(case side1=>exact(a16_ HR103_0.out));(case side2=>exact HC103_0.out);(case side3=>exact(a16_ HR104_0.out));(case side4=>exact HC104_0.out);rintro e w' ⟨rfl,⟨nd,rfl⟩⟩;(try first|exact⟨rfl,_,World.drewN_drewN _ _ _⟩|exact⟨rfl,_,Eq.trans (World.drewN_drewN _ _ _) (congrArg (World.drewN _) (Nat.add_assoc _ _ _))⟩)));try go_quiet (first|(go_at_call 42;(with_reducible refine(laws_pSameHoles.calls k1 _ _ (rd_L3 l0 x13_1) _ _ (rd_L3 l1 x13_1) true _ ?side1 ?side2 ?side3 ?side4 A8.out).mono ?_);(case side1=>exact(a16_ HR103_0.out));(case side2=>exact HC103_0.out);(case side3=>exact(a16_ HR104_0.out));(case side4=>exact HC104_0.out);rintro e w' ⟨rfl,⟨nd,rfl⟩⟩;(try first|exact⟨rfl,_,World.drewN_drewN _ _ _⟩|exact⟨rfl,_,Eq.trans (World.drewN_drewN _ _ _) (congrArg (World.drewN _) (Nat.add_assoc _ _ _))⟩))))
         go_roundg k1
         case measure=>have:=HK1.out;omega
         case rel=>exact⟨(wrap64 (x13_1+1)),(by first | rfl|(simp;done)|(simp[*];done)),H',⟨by have:=HK1.out;omega⟩,a53_⟩
        ·replace c9:=Bool.eq_false_iff.mpr c9
         subst c9
         replace H:(some false)=some r:=by rw[if_neg (show ¬(false=true) by decide)]at H;exact H
         obtain rfl:=Option.some.inj H
         have p103:0≤(x13_1:Int):=of_decide_eq_true (a13_)
         have q103:x13_1<(l0.length:Int):=of_decide_eq_true (a13_)
         obtain⟨ad103,A103_0,c103_0,e103,hx103_0,hl103_0,hi103_0⟩:=at_L3 HR0.out x13_1 p103 q103
         cases e103
         have HR103_0:=am_ hi103_0
         have HC103_0:=am_ hl103_0
         clear hi103_0 hl103_0
         replace p103:=eq_true p103
         replace q103:=eq_true q103
         have p104:0≤(x13_1:Int):=of_decide_eq_true (a13_)
         have q104:x13_1<(l1.length:Int):=of_decide_eq_true (a13_)
         obtain⟨ad104,A104_0,c104_0,e104,hx104_0,hl104_0,hi104_0⟩:=at_L3 HR1.out x13_1 p104 q104
         cases e104
         have HR104_0:=am_ hi104_0
         have HC104_0:=am_ hl104_0
         clear hi104_0 hl104_0
         replace p104:=eq_true p104
         replace q104:=eq_true q104
         iterate 6 (go_wp2_with (first|(go_at_call 42;(with_reducible refine(laws_pSameHoles.calls k1 _ _ (rd_L3 l0 x13_1) _ _ (rd_L3 l1 x13_1) false _ ?side1 ?side2 ?side3 ?side4 A8.out).mono ?_);(case side1=>exact(a16_ HR103_0.out));(case side2=>exact HC103_0.out);(case side3=>exact(a16_ HR104_0.out));(case side4=>exact HC104_0.out);rintro e w' ⟨rfl,⟨nd,rfl⟩⟩;(try first|exact⟨rfl,_,World.drewN_drewN _ _ _⟩|exact⟨rfl,_,Eq.trans (World.drewN_drewN _ _ _) (congrArg (World.drewN _) (Nat.add_assoc _ _ _))⟩)));try go_quiet (first|(go_at_call 42;(with_reducible refine(laws_pSameHoles.calls k1 _ _ (rd_L3 l0 x13_1) _ _ (rd_L3 l1 x13_1) false _ ?side1 ?side2 ?side3 ?side4 A8.out).mono ?_);(case side1=>exact(a16_ HR103_0.out));(case side2=>exact HC103_0.out);(case side3=>exact(a16_ HR104_0.out));(case side4=>exact HC104_0.out);rintro e w' ⟨rfl,⟨nd,rfl⟩⟩;(try first|exact⟨rfl,_,World.drewN_drewN _ _ _⟩|exact⟨rfl,_,Eq.trans (World.drewN_drewN _ _ _) (congrArg (World.drewN _) (Nat.add_assoc _ _ _))⟩))))
         go_ret
         exact⟨by first | rfl|(simp;done)|(simp[*];done),a53_⟩
       ·rw[if_neg c7]at H
        exact absurd H (by simp)
      ·rw[if_neg c6]at H
       exact absurd H (by simp)
     ·rw[if_neg c5]at H
      exact absurd H (by simp)
    ·rw[if_neg c4]at H
     have c4b0:decide (x13_1<(l0.length:Int))=false:=decide_eq_false c4
     clear c4
     obtain rfl:=Option.some.inj H
     go_wp2
     repeat (go_quiet (fail);try go_wp2)
     go_ret
     exact⟨by first | rfl|(simp;done)|(simp[*];done),a53_⟩
 ·rw[if_neg c3]at H
  have c3b0:((l0.length:Int) == (l1.length:Int))=false:=beq_eq_false_iff_ne.mpr c3
  have c3b1:((l0.length:Int) != (l1.length:Int))=true:=bne_iff_ne.mpr c3
  have c3b2:(l0.length == l1.length)=false:=by first | simpa using c3|(simp at c3 ⊢;omega)
  obtain rfl:=Option.some.inj H
  go_enter Try.func19,Try.ntmps19
  go_wp2
  repeat (go_quiet (fail);try go_wp2)
  go_ret
  exact⟨by first | rfl|(simp;done)|(simp[*];done),a53_⟩

/-! ### impl_isTrack: function 103 -/
def impl_isTrack.f (a0:Int):Option (Bool):=if a0≥0 then(some (decide (a0<20))) else(some false)
set_option maxHeartbeats 8000000 in
set_option maxRecDepth 100000 in
theorem impl_isTrack.calls (a0:Int) (r:Bool) (w:World) (h:impl_isTrack.f a0=some r) :
 Calls Try.prog 103 #[.int .i64 a0] w fun e w'=>e = .returned (.bool r)∧Drawn0 w w':=by
 have H:(if a0≥0 then(some (decide (a0<20))) else(some false))=some r:=h
 clear h
 by_cases c2:a0≥0
 ·rw[if_pos c2]at H
  have c2b0:decide (0≤a0)=true:=decide_eq_true c2
  clear c2
  obtain rfl:=Option.some.inj H
  go_enter Try.func103,Try.ntmps103
  go_wp2
  go_ret
  exact⟨by first | rfl|(simp;done)|(simp[*];done),a53_⟩
 ·rw[if_neg c2]at H
  have c2b0:decide (0≤a0)=false:=decide_eq_false c2
  clear c2
  obtain rfl:=Option.some.inj H
  go_enter Try.func103,Try.ntmps103
  go_wp2
  go_ret
  exact⟨by first | rfl|(simp;done)|(simp[*];done),a53_⟩

/-! ### impl_IsHole: function 69 -/
def impl_IsHole.f (a0_0:Int) (a0_1:Int) (a0_2:Int):Option (Bool):=(impl_isTrack.f a0_0).bind fun t107=>(if t107=true then(if a0_1≥0 then(if a0_1<a0_2 then(some (decide (a0_2≤2000))) else(some false)) else(some false)) else(some false))
set_option maxHeartbeats 8000000 in
set_option maxRecDepth 100000 in
theorem impl_IsHole.calls (a0_0:Int) (a0_1:Int) (a0_2:Int) (r:Bool) (w:World) (h:impl_IsHole.f a0_0 a0_1 a0_2=some r) :
 Calls Try.prog 69 #[.agg #[.int .i64 a0_0, .int .i64 a0_1, .int .i64 a0_2]] w fun e w'=>e = .returned (.bool r)∧Below w.heap.size w w':=by
 have hu42:=Try.underlying42
 have HB:=am_ (Below.refl w.heap.size w)
 have H:((impl_isTrack.f a0_0).bind fun t107=>(if t107=true then(if a0_1≥0 then(if a0_1<a0_2 then(some (decide (a0_2≤2000))) else(some false)) else(some false)) else(some false)))=some r:=h
 clear h
 obtain⟨t107,A2,H⟩:=bo_ H
 try dsimp only at H
 by_cases c3:t107=true
 ·subst c3
  replace H:(if a0_1≥0 then(if a0_1<a0_2 then(some (decide (a0_2≤2000))) else(some false)) else(some false))=some r:=by rw[if_pos rfl]at H;exact H
  by_cases c4:a0_1≥0
  ·rw[if_pos c4]at H
   have c4b0:decide (0≤a0_1)=true:=decide_eq_true c4
   clear c4
   by_cases c5:a0_1<a0_2
   ·rw[if_pos c5]at H
    have c5b0:decide (a0_1<a0_2)=true:=decide_eq_true c5
    clear c5
    obtain rfl:=Option.some.inj H
    go_enter Try.func69,Try.ntmps69
    go_wp2_with (first|((with_reducible refine gate_dst (N:=1) rfl ?_);refine box_event ?hg (N:=1) ?hd (cs:= #[.int .i64 a0_0, .int .i64 a0_1, .int .i64 a0_2]) (t:=42) ?hr ?_;(case hd=>rfl);(case hg=>rfl);(case hr=>exact hr_);intro gb106 hg w6 hbox hb;have BK106:=am_ (hbox);have GW106:=am_ ((by rw[hg];exact(below_size (a1_)):w.heap.size≤gb106));have GE106:=am_ ((by rw[hg];exact(below_size (a1_)):w.heap.size≤gb106));replace HB:=am_ (below_step (a1_) hb);clear hb hbox hg;have hcz7_0:w6.cell? ⟨gb106,0,none⟩=some (.int .i64 a0_0):=(blk_cell BK106.out 0).trans rfl;have hcz7_1:w6.cell? ⟨gb106,1,none⟩=some (.int .i64 a0_1):=(blk_cell BK106.out 1).trans rfl;have hcz7_2:w6.cell? ⟨gb106,2,none⟩=some (.int .i64 a0_2):=(blk_cell BK106.out 2).trans rfl;have hfz7_0:=blk_frozen BK106.out 0;have hfz7_1:=blk_frozen BK106.out 1;have hfz7_2:=blk_frozen BK106.out 2)|((with_reducible refine gate_callee (f:=103) rfl ?_);refine goesL_ (some 5) rfl rfl Try.func103 (by kernel_rfl) rfl #[.int .i64 a0_0] rfl gd_ ?_;(with_reducible refine(impl_isTrack.calls a0_0 true _ A2.out).mono ?_);rintro e w' ⟨rfl,⟨nd,rfl⟩⟩;refine⟨_,rfl,?_⟩))
    go_ret
    exact⟨a12_,(a2_ GE106.out)⟩
   ·rw[if_neg c5]at H
    have c5b0:decide (a0_1<a0_2)=false:=decide_eq_false c5
    clear c5
    obtain rfl:=Option.some.inj H
    go_enter Try.func69,Try.ntmps69
    go_wp2_with (first|((with_reducible refine gate_dst (N:=1) rfl ?_);refine box_event ?hg (N:=1) ?hd (cs:= #[.int .i64 a0_0, .int .i64 a0_1, .int .i64 a0_2]) (t:=42) ?hr ?_;(case hd=>rfl);(case hg=>rfl);(case hr=>exact hr_);intro gb106 hg w8 hbox hb;have BK106:=am_ (hbox);have GW106:=am_ ((by rw[hg];exact(below_size (a1_)):w.heap.size≤gb106));have GE106:=am_ ((by rw[hg];exact(below_size (a1_)):w.heap.size≤gb106));replace HB:=am_ (below_step (a1_) hb);clear hb hbox hg;have hcz9_0:w8.cell? ⟨gb106,0,none⟩=some (.int .i64 a0_0):=(blk_cell BK106.out 0).trans rfl;have hcz9_1:w8.cell? ⟨gb106,1,none⟩=some (.int .i64 a0_1):=(blk_cell BK106.out 1).trans rfl;have hcz9_2:w8.cell? ⟨gb106,2,none⟩=some (.int .i64 a0_2):=(blk_cell BK106.out 2).trans rfl;have hfz9_0:=blk_frozen BK106.out 0;have hfz9_1:=blk_frozen BK106.out 1;have hfz9_2:=blk_frozen BK106.out 2)|((with_reducible refine gate_callee (f:=103) rfl ?_);refine goesL_ (some 5) rfl rfl Try.func103 (by kernel_rfl) rfl #[.int .i64 a0_0] rfl gd_ ?_;(with_reducible refine(impl_isTrack.calls a0_0 true _ A2.out).mono ?_);rintro e w' ⟨rfl,⟨nd,rfl⟩⟩;refine⟨_,rfl,?_⟩))
    go_ret
    exact⟨a12_,(a2_ GE106.out)⟩
  ·rw[if_neg c4]at H
   have c4b0:decide (0≤a0_1)=false:=decide_eq_false c4
   clear c4
   obtain rfl:=Option.some.inj H
   go_enter Try.func69,Try.ntmps69
   go_wp2_with (first|((with_reducible refine gate_dst (N:=1) rfl ?_);refine box_event ?hg (N:=1) ?hd (cs:= #[.int .i64 a0_0, .int .i64 a0_1, .int .i64 a0_2]) (t:=42) ?hr ?_;(case hd=>rfl);(case hg=>rfl);(case hr=>exact hr_);intro gb106 hg w10 hbox hb;have BK106:=am_ (hbox);have GW106:=am_ ((by rw[hg];exact(below_size (a1_)):w.heap.size≤gb106));have GE106:=am_ ((by rw[hg];exact(below_size (a1_)):w.heap.size≤gb106));replace HB:=am_ (below_step (a1_) hb);clear hb hbox hg;have hcz11_0:w10.cell? ⟨gb106,0,none⟩=some (.int .i64 a0_0):=(blk_cell BK106.out 0).trans rfl;have hcz11_1:w10.cell? ⟨gb106,1,none⟩=some (.int .i64 a0_1):=(blk_cell BK106.out 1).trans rfl;have hcz11_2:w10.cell? ⟨gb106,2,none⟩=some (.int .i64 a0_2):=(blk_cell BK106.out 2).trans rfl;have hfz11_0:=blk_frozen BK106.out 0;have hfz11_1:=blk_frozen BK106.out 1;have hfz11_2:=blk_frozen BK106.out 2)|((with_reducible refine gate_callee (f:=103) rfl ?_);refine goesL_ (some 5) rfl rfl Try.func103 (by kernel_rfl) rfl #[.int .i64 a0_0] rfl gd_ ?_;(with_reducible refine(impl_isTrack.calls a0_0 true _ A2.out).mono ?_);rintro e w' ⟨rfl,⟨nd,rfl⟩⟩;refine⟨_,rfl,?_⟩))
   go_ret
   exact⟨a12_,(a2_ GE106.out)⟩
 ·replace c3:=Bool.eq_false_iff.mpr c3
  subst c3
  replace H:(some false)=some r:=by rw[if_neg (show ¬(false=true) by decide)]at H;exact H
  obtain rfl:=Option.some.inj H
  go_enter Try.func69,Try.ntmps69
  go_wp2_with (first|((with_reducible refine gate_dst (N:=1) rfl ?_);refine box_event ?hg (N:=1) ?hd (cs:= #[.int .i64 a0_0, .int .i64 a0_1, .int .i64 a0_2]) (t:=42) ?hr ?_;(case hd=>rfl);(case hg=>rfl);(case hr=>exact hr_);intro gb106 hg w12 hbox hb;have BK106:=am_ (hbox);have GW106:=am_ ((by rw[hg];exact(below_size (a1_)):w.heap.size≤gb106));have GE106:=am_ ((by rw[hg];exact(below_size (a1_)):w.heap.size≤gb106));replace HB:=am_ (below_step (a1_) hb);clear hb hbox hg;have hcz13_0:w12.cell? ⟨gb106,0,none⟩=some (.int .i64 a0_0):=(blk_cell BK106.out 0).trans rfl;have hcz13_1:w12.cell? ⟨gb106,1,none⟩=some (.int .i64 a0_1):=(blk_cell BK106.out 1).trans rfl;have hcz13_2:w12.cell? ⟨gb106,2,none⟩=some (.int .i64 a0_2):=(blk_cell BK106.out 2).trans rfl;have hfz13_0:=blk_frozen BK106.out 0;have hfz13_1:=blk_frozen BK106.out 1;have hfz13_2:=blk_frozen BK106.out 2)|((with_reducible refine gate_callee (f:=103) rfl ?_);refine goesL_ (some 5) rfl rfl Try.func103 (by kernel_rfl) rfl #[.int .i64 a0_0] rfl gd_ ?_;(with_reducible refine(impl_isTrack.calls a0_0 false _ A2.out).mono ?_);rintro e w' ⟨rfl,⟨nd,rfl⟩⟩;refine⟨_,rfl,?_⟩))
  go_ret
  exact⟨a12_,(a2_ GE106.out)⟩

/-! ### impl_holeLess: function 70 -/
def impl_holeLess.f (a0_0:Int) (a0_1:Int) (a0_2:Int) (a1_0:Int) (a1_1:Int) (a1_2:Int):Option (Bool):=if a0_1=a1_1 then(some (decide (a0_0<a1_0))) else(some (decide (a0_1<a1_1)))
set_option maxHeartbeats 8000000 in
set_option maxRecDepth 100000 in
theorem impl_holeLess.calls (a0_0:Int) (a0_1:Int) (a0_2:Int) (a1_0:Int) (a1_1:Int) (a1_2:Int) (r:Bool) (w:World) (h:impl_holeLess.f a0_0 a0_1 a0_2 a1_0 a1_1 a1_2=some r) :
 Calls Try.prog 70 #[.agg #[.int .i64 a0_0, .int .i64 a0_1, .int .i64 a0_2], .agg #[.int .i64 a1_0, .int .i64 a1_1, .int .i64 a1_2]] w fun e w'=>e = .returned (.bool r)∧Below w.heap.size w w':=by
 have hu42:=Try.underlying42
 have HB:=am_ (Below.refl w.heap.size w)
 have H:(if a0_1=a1_1 then(some (decide (a0_0<a1_0))) else(some (decide (a0_1<a1_1))))=some r:=h
 clear h
 by_cases c3:a0_1=a1_1
 ·rw[if_pos c3]at H
  have c3b0:(a0_1 == a1_1)=true:=beq_iff_eq.mpr c3
  have c3b1:(a0_1 != a1_1)=false:=bne_eq_false_iff_eq.mpr c3
  clear c3
  obtain rfl:=Option.some.inj H
  go_enter Try.func70,Try.ntmps70
  go_wp2_with (first|((with_reducible refine gate_dst (N:=2) rfl ?_);refine box_event ?hg (N:=2) ?hd (cs:= #[.int .i64 a0_0, .int .i64 a0_1, .int .i64 a0_2]) (t:=42) ?hr ?_;(case hd=>rfl);(case hg=>rfl);(case hr=>exact hr_);intro gb108 hg w4 hbox hb;have BK108:=am_ (hbox);have GW108:=am_ ((by rw[hg];exact(below_size (a1_)):w.heap.size≤gb108));have GE108:=am_ ((by rw[hg];exact(below_size (a1_)):w.heap.size≤gb108));replace HB:=am_ (below_step (a1_) hb);clear hb hbox hg)|((with_reducible refine gate_dst (N:=3) rfl ?_);refine box_event ?hg (N:=3) ?hd (cs:= #[.int .i64 a1_0, .int .i64 a1_1, .int .i64 a1_2]) (t:=42) ?hr ?_;(case hd=>rfl);(case hg=>rfl);(case hr=>exact hr_);intro gb109 hg w5 hbox hb;have BK109:=am_ (hbox);have GW109:=am_ ((by rw[hg];exact(below_size ((a2_ GE108.out))):w.heap.size≤gb109));have GE109:=am_ ((by rw[hg];exact(below_size ((a2_ GE108.out))):w.heap.size≤gb109));replace HB:=am_ (below_step ((a2_ GE108.out)) hb);have NB108_109:=am_ ((by rw[hg];exact Nat.ne_of_lt (blk_lt (g:=gb108) (o:= .cells #[.int .i64 a0_0, .int .i64 a0_1, .int .i64 a0_2] 42 (0,0)) ((a3_ BK108.out))):gb108≠gb109));have NB109_108:=am_ ((by rw[hg];exact Nat.ne_of_gt (blk_lt (g:=gb108) (o:= .cells #[.int .i64 a0_0, .int .i64 a0_1, .int .i64 a0_2] 42 (0,0)) ((a3_ BK108.out))):gb109≠gb108));replace BK108:=am_ (blk_below (g:=gb108) (o:= .cells #[.int .i64 a0_0, .int .i64 a0_1, .int .i64 a0_2] 42 (0,0)) ((a3_ BK108.out)) hb);clear hb hbox hg;have hnb6:=NB108_109.out;have hnc6:=NB109_108.out;have hcz7_0:w5.cell? ⟨gb108,0,none⟩=some (.int .i64 a0_0):=(blk_cell BK108.out 0).trans rfl;have hcz7_1:w5.cell? ⟨gb108,1,none⟩=some (.int .i64 a0_1):=(blk_cell BK108.out 1).trans rfl;have hcz7_2:w5.cell? ⟨gb108,2,none⟩=some (.int .i64 a0_2):=(blk_cell BK108.out 2).trans rfl;have hfz7_0:=blk_frozen BK108.out 0;have hfz7_1:=blk_frozen BK108.out 1;have hfz7_2:=blk_frozen BK108.out 2;have hcz8_0:w5.cell? ⟨gb109,0,none⟩=some (.int .i64 a1_0):=(blk_cell BK109.out 0).trans rfl;have hcz8_1:w5.cell? ⟨gb109,1,none⟩=some (.int .i64 a1_1):=(blk_cell BK109.out 1).trans rfl;have hcz8_2:w5.cell? ⟨gb109,2,none⟩=some (.int .i64 a1_2):=(blk_cell BK109.out 2).trans rfl;have hfz8_0:=blk_frozen BK109.out 0;have hfz8_1:=blk_frozen BK109.out 1;have hfz8_2:=blk_frozen BK109.out 2))
  go_ret
  exact⟨a12_,(a14_ GE108.out GE109.out)⟩
 ·rw[if_neg c3]at H
  have c3b0:(a0_1 == a1_1)=false:=beq_eq_false_iff_ne.mpr c3
  have c3b1:(a0_1 != a1_1)=true:=bne_iff_ne.mpr c3
  obtain rfl:=Option.some.inj H
  go_enter Try.func70,Try.ntmps70
  go_wp2_with (first|((with_reducible refine gate_dst (N:=2) rfl ?_);refine box_event ?hg (N:=2) ?hd (cs:= #[.int .i64 a0_0, .int .i64 a0_1, .int .i64 a0_2]) (t:=42) ?hr ?_;(case hd=>rfl);(case hg=>rfl);(case hr=>exact hr_);intro gb108 hg w9 hbox hb;have BK108:=am_ (hbox);have GW108:=am_ ((by rw[hg];exact(below_size (a1_)):w.heap.size≤gb108));have GE108:=am_ ((by rw[hg];exact(below_size (a1_)):w.heap.size≤gb108));replace HB:=am_ (below_step (a1_) hb);clear hb hbox hg)|((with_reducible refine gate_dst (N:=3) rfl ?_);refine box_event ?hg (N:=3) ?hd (cs:= #[.int .i64 a1_0, .int .i64 a1_1, .int .i64 a1_2]) (t:=42) ?hr ?_;(case hd=>rfl);(case hg=>rfl);(case hr=>exact hr_);intro gb109 hg w10 hbox hb;have BK109:=am_ (hbox);have GW109:=am_ ((by rw[hg];exact(below_size ((a2_ GE108.out))):w.heap.size≤gb109));have GE109:=am_ ((by rw[hg];exact(below_size ((a2_ GE108.out))):w.heap.size≤gb109));replace HB:=am_ (below_step ((a2_ GE108.out)) hb);have NB108_109:=am_ ((by rw[hg];exact Nat.ne_of_lt (blk_lt (g:=gb108) (o:= .cells #[.int .i64 a0_0, .int .i64 a0_1, .int .i64 a0_2] 42 (0,0)) ((a3_ BK108.out))):gb108≠gb109));have NB109_108:=am_ ((by rw[hg];exact Nat.ne_of_gt (blk_lt (g:=gb108) (o:= .cells #[.int .i64 a0_0, .int .i64 a0_1, .int .i64 a0_2] 42 (0,0)) ((a3_ BK108.out))):gb109≠gb108));replace BK108:=am_ (blk_below (g:=gb108) (o:= .cells #[.int .i64 a0_0, .int .i64 a0_1, .int .i64 a0_2] 42 (0,0)) ((a3_ BK108.out)) hb);clear hb hbox hg;have hnb11:=NB108_109.out;have hnc11:=NB109_108.out;have hcz12_0:w10.cell? ⟨gb108,0,none⟩=some (.int .i64 a0_0):=(blk_cell BK108.out 0).trans rfl;have hcz12_1:w10.cell? ⟨gb108,1,none⟩=some (.int .i64 a0_1):=(blk_cell BK108.out 1).trans rfl;have hcz12_2:w10.cell? ⟨gb108,2,none⟩=some (.int .i64 a0_2):=(blk_cell BK108.out 2).trans rfl;have hfz12_0:=blk_frozen BK108.out 0;have hfz12_1:=blk_frozen BK108.out 1;have hfz12_2:=blk_frozen BK108.out 2;have hcz13_0:w10.cell? ⟨gb109,0,none⟩=some (.int .i64 a1_0):=(blk_cell BK109.out 0).trans rfl;have hcz13_1:w10.cell? ⟨gb109,1,none⟩=some (.int .i64 a1_1):=(blk_cell BK109.out 1).trans rfl;have hcz13_2:w10.cell? ⟨gb109,2,none⟩=some (.int .i64 a1_2):=(blk_cell BK109.out 2).trans rfl;have hfz13_0:=blk_frozen BK109.out 0;have hfz13_1:=blk_frozen BK109.out 1;have hfz13_2:=blk_frozen BK109.out 2))
  go_ret
  exact⟨a12_,(a14_ GE108.out GE109.out)⟩

end Go.Proofs.Ytplpjmhmochcfaa.QFnMerges
