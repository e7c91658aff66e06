/- Written by a program of this session (the kit's printer, with leaf contracts proved by hand put in): what each Go function computes, and that the call computes it. No condition but those that each theorem names. -/
import Derived.Test.YtkkmeccdjpibmaaGreatDoorQFnCataloguex0
import Derived.Test.YtkkmeccdjpibmaaGreatDoorQFnCataloguex1
import Derived.Test.YtkkmeccdjpibmaaGreatDoorQFnCataloguex8
import Derived.Test.YtkkmeccdjpibmaaGreatDoorQFnCataloguex9
import Derived.Test.YtkkmeccdjpibmaaGreatDoorQFnCataloguex11
namespace Go.Proofs.YtkkmeccdjpibmaaGreatDoor.QFnCatalogue
open Go.RowKit Go.Proofs.YtkkmeccdjpibmaaGreatDoorW.PrintWords Go.Proofs.YtkkmeccdjpibmaaGreatDoorW.PrintLast Go.Proofs.YtkkmeccdjpibmaaGreatDoorW.PrintMore
attribute [local go_sem] max2_int min2_int max_two min_two max_three min_three max_four min_four   -- for this text's walks alone
set_option linter.unusedVariables false
set_option linter.unusedSimpArgs false

attribute [local go_sem high] eqA47
/-! ### laws_qInts: function 19 -/
def laws_qInts.l0:Nat→List Int→List Int→Int→Int→Option (Bool)
 | 0,_,_,_,_=>none
 | k+1,x0,x1,x12,x13=>if x13<x12 then(if 0≤x13 then(if x13<(x0.length:Int) then(if x13<(x1.length:Int) then(if(rd x0 x13)=(rd x1 x13) then(laws_qInts.l0 k x0 x1 x12 (wrap64 (x13+1))) else(some false)) else(none)) else(none)) else(none)) else(some true)
def laws_qInts.f (k:Nat) (l0:List Int) (l1:List Int):Option (Bool):=if(l0.length:Int)=(l1.length:Int) then(laws_qInts.l0 k l0 l1 (l0.length:Int) 0) else(some false)
theorem laws_qInts.mono_l:∀k,(∀y0 y1 y2 y3,LeO (laws_qInts.l0 k y0 y1 y2 y3) (laws_qInts.l0 (k+1) y0 y1 y2 y3))
 | 0=>fun _ _ _ _ r h=>by simp[laws_qInts.l0]at h
 | k+1=>by
  have ih0:=laws_qInts.mono_l k
  intros
  unfold laws_qInts.l0
  rotate_left
  all_goals repeat' first|(with_reducible first|exact ih0 _ _ _ _|exact LeO.refl _|exact LeO.none _|refine LeO.ite ?_ ?_|refine LeO.bind ?_ (fun _=>?_))|exact ih0 _ _ _ _|exact LeO.none _|refine LeO.ite ?_ ?_|refine LeO.bind ?_ (fun _=>?_)
theorem laws_qInts.mono:∀a0 a1 k,LeO (laws_qInts.f k a0 a1) (laws_qInts.f (k+1) a0 a1):=by
 intro a0 a1 k;(have ih0:=laws_qInts.mono_l k);unfold laws_qInts.f
 repeat' first
  |(with_reducible exact ih0 _ _ _ _)
  |(with_reducible exact LeO.refl _)
  |(with_reducible exact LeO.none _)
  |(with_reducible refine LeO.ite ?_ ?_)
  |(with_reducible refine LeO.bind ?_ (fun _=>?_))
  |exact ih0 _ _ _ _
  |exact LeO.none _
   | refine LeO.ite ?_ ?_
   | refine LeO.bind ?_ (fun _=>?_)
set_option maxHeartbeats 8000000 in
set_option maxRecDepth 100000 in
theorem laws_qInts.calls (k:Nat) (A0:Option Addr) (c0:Nat) (l0:List Int) (A1:Option Addr) (c1:Nat) (l1:List Int) (r:Bool) (w:World) (hr0:Kd.C (Kd.int .i64) w A0 l0.length l0) (hc0:l0.length≤c0) (hr1:Kd.C (Kd.int .i64) w A1 l1.length l1) (hc1:l1.length≤c1) (h:laws_qInts.f k l0 l1=some r) :
 Calls Tryz.prog 19 #[.slice A0 l0.length c0, .slice A1 l1.length c1] w fun e w'=>e = .returned (.bool r)∧Drawn0 w w':=by
 (have HR0:=am_ hr0);(have HC0:=am_ hc0);clear hr0 hc0;(have HR1:=am_ hr1);(have HC1:=am_ hc1);clear hr1 hc1;(have H:(if(l0.length:Int)=(l1.length:Int) then(laws_qInts.l0 k l0 l1 (l0.length:Int) 0) else(some false))=some r:=h);clear h;by_cases c3:(l0.length:Int)=(l1.length:Int)
 ·rw[if_pos c3]at H;(have c3b0:((l0.length:Int) == (l1.length:Int))=true:=beq_iff_eq.mpr c3);(have c3b1:((l0.length:Int) != (l1.length:Int))=false:=bne_eq_false_iff_eq.mpr c3);(have c3b2:(l0.length == l1.length)=true:=a41_);clear c3;(have H':=am_ H);clear H;(go_enter Tryz.func19,Tryz.ntmps19);go_wp2;(repeat (go_quiet (fail);try go_wp2));(try simp only[Act.put,List.setIfInBounds_toArray,List.set_cons_zero,List.set_cons_succ])
  go_loopg [13] k (fun kq v13 w'=>∃(x13_1:Int),v13 = .int .i64 x13_1∧Aside0 (laws_qInts.l0 kq l0 l1 (l0.length:Int) x13_1=some r)∧Aside0 (kq≤k)∧Drawn0 w w')
  case atStart=>exact⟨(0),(by first | rfl|(simp;done)|(simp[*];done)),H',⟨Nat.le_refl _⟩,a19_⟩
  case round=>
   clear H';(try clear c1);(try clear p2);(try clear c3);(try clear c3b0);(try clear c3b1);(try clear c3b2);obtain⟨x13_1,rfl,HA,HK1,⟨m1,rfl⟩⟩:=hrel;cases gk with
   | zero=>exact absurd HA.out (by simp[laws_qInts.l0])
   | succ k1=>
    (have H:=HA.out);clear HA;simp only[laws_qInts.l0]at H;by_cases c4:x13_1<(l0.length:Int)
    ·rw[if_pos c4]at H;(have c4b0:decide (x13_1<(l0.length:Int))=true:=decide_eq_true c4);clear c4;by_cases c5:0≤x13_1
     ·rw[if_pos c5]at H;(have c5b0:decide (0≤x13_1)=true:=decide_eq_true c5);clear c5;by_cases c6:x13_1<(l0.length:Int)
      ·rw[if_pos c6]at H;(have c6b0:decide (x13_1<(l0.length:Int))=true:=decide_eq_true c6);clear c6;by_cases c7:x13_1<(l1.length:Int)
       ·rw[if_pos c7]at H;(have c7b0:decide (x13_1<(l1.length:Int))=true:=decide_eq_true c7);clear c7;by_cases c8:(rd l0 x13_1)=(rd l1 x13_1)
        ·rw[if_pos c8]at H;(have c8b0:((rd l0 x13_1) == (rd l1 x13_1))=true:=beq_iff_eq.mpr c8);(have c8b1:((rd l0 x13_1) != (rd l1 x13_1))=false:=bne_eq_false_iff_eq.mpr c8);clear c8;(have H':=am_ H);clear H;(have p483:0≤(x13_1:Int):=of_decide_eq_true (a6_));(have q483:x13_1<(l0.length:Int):=of_decide_eq_true (a6_));obtain⟨ad483,e483,hx483_0⟩:=Kd.at_int HR0.out x13_1 p483 q483;cases e483;replace p483:=eq_true p483;replace q483:=eq_true q483;(have p484:0≤(x13_1:Int):=of_decide_eq_true (a6_));(have q484:x13_1<(l1.length:Int):=of_decide_eq_true (a6_));obtain⟨ad484,e484,hx484_0⟩:=Kd.at_int HR1.out x13_1 p484 q484;cases e484;replace p484:=eq_true p484;replace q484:=eq_true q484;go_wp2;(repeat (go_quiet (fail);try go_wp2));(go_roundg k1)
         case measure=>have:=HK1.out;omega
         case rel=>exact⟨(wrap64 (x13_1+1)),(by first | rfl|(simp;done)|(simp[*];done)),H',⟨by have:=HK1.out;omega⟩,a19_⟩
        (focus rw[if_neg c8]at H;(have c8b0:((rd l0 x13_1) == (rd l1 x13_1))=false:=beq_eq_false_iff_ne.mpr c8);(have c8b1:((rd l0 x13_1) != (rd l1 x13_1))=true:=bne_iff_ne.mpr c8);obtain rfl:=Option.some.inj H;(have p483:0≤(x13_1:Int):=of_decide_eq_true (a6_));(have q483:x13_1<(l0.length:Int):=of_decide_eq_true (a6_));obtain⟨ad483,e483,hx483_0⟩:=Kd.at_int HR0.out x13_1 p483 q483;cases e483;replace p483:=eq_true p483;replace q483:=eq_true q483;(have p484:0≤(x13_1:Int):=of_decide_eq_true (a6_));(have q484:x13_1<(l1.length:Int):=of_decide_eq_true (a6_));obtain⟨ad484,e484,hx484_0⟩:=Kd.at_int HR1.out x13_1 p484 q484;cases e484;replace p484:=eq_true p484;replace q484:=eq_true q484;go_wp2;(repeat (go_quiet (fail);try go_wp2));go_ret;exact⟨by first | rfl|(simp;done)|(simp[*];done),a19_⟩)
       (focus rw[if_neg c7]at H;exact absurd H (by simp))
      (focus rw[if_neg c6]at H;exact absurd H (by simp))
     (focus rw[if_neg c5]at H;exact absurd H (by simp))
    (focus rw[if_neg c4]at H;(have c4b0:decide (x13_1<(l0.length:Int))=false:=decide_eq_false c4);clear c4;obtain rfl:=Option.some.inj H;go_wp2;(repeat (go_quiet (fail);try go_wp2));go_ret;exact⟨by first | rfl|(simp;done)|(simp[*];done),a19_⟩)
 (focus rw[if_neg c3]at H;(have c3b0:((l0.length:Int) == (l1.length:Int))=false:=beq_eq_false_iff_ne.mpr c3);(have c3b1:((l0.length:Int) != (l1.length:Int))=true:=bne_iff_ne.mpr c3);(have c3b2:(l0.length == l1.length)=false:=a41_);obtain rfl:=Option.some.inj H;(go_enter Tryz.func19,Tryz.ntmps19);go_wp2;(repeat (go_quiet (fail);try go_wp2));go_ret;exact⟨by first | rfl|(simp;done)|(simp[*];done),a19_⟩)

/-! ### laws_qTexts: function 20 -/
def laws_qTexts.l0:Nat→List ByteArray→List ByteArray→Int→Int→Option (Bool)
 | 0,_,_,_,_=>none
 | k+1,x0,x1,x12,x13=>if x13<x12 then(if 0≤x13 then(if x13<(x0.length:Int) then(if x13<(x1.length:Int) then(if(rdOf ByteArray.empty x0 x13).toList=(rdOf ByteArray.empty x1 x13).toList then(laws_qTexts.l0 k x0 x1 x12 (wrap64 (x13+1))) else(some false)) else(none)) else(none)) else(none)) else(some true)
def laws_qTexts.f (k:Nat) (l0:List ByteArray) (l1:List ByteArray):Option (Bool):=if(l0.length:Int)=(l1.length:Int) then(laws_qTexts.l0 k l0 l1 (l0.length:Int) 0) else(some false)
theorem laws_qTexts.mono_l:∀k,(∀y0 y1 y2 y3,LeO (laws_qTexts.l0 k y0 y1 y2 y3) (laws_qTexts.l0 (k+1) y0 y1 y2 y3))
 | 0=>fun _ _ _ _ r h=>by simp[laws_qTexts.l0]at h
 | k+1=>by
  have ih0:=laws_qTexts.mono_l k
  intros
  unfold laws_qTexts.l0
  rotate_left
  all_goals repeat' first|(with_reducible first|exact ih0 _ _ _ _|exact LeO.refl _|exact LeO.none _|refine LeO.ite ?_ ?_|refine LeO.bind ?_ (fun _=>?_))|exact ih0 _ _ _ _|exact LeO.none _|refine LeO.ite ?_ ?_|refine LeO.bind ?_ (fun _=>?_)
theorem laws_qTexts.mono:∀a0 a1 k,LeO (laws_qTexts.f k a0 a1) (laws_qTexts.f (k+1) a0 a1):=by
 intro a0 a1 k;(have ih0:=laws_qTexts.mono_l k);unfold laws_qTexts.f
 repeat' first
  |(with_reducible exact ih0 _ _ _ _)
  |(with_reducible exact LeO.refl _)
  |(with_reducible exact LeO.none _)
  |(with_reducible refine LeO.ite ?_ ?_)
  |(with_reducible refine LeO.bind ?_ (fun _=>?_))
  |exact ih0 _ _ _ _
  |exact LeO.none _
   | refine LeO.ite ?_ ?_
   | refine LeO.bind ?_ (fun _=>?_)
set_option maxHeartbeats 8000000 in
set_option maxRecDepth 100000 in
theorem laws_qTexts.calls (k:Nat) (A0:Option Addr) (c0:Nat) (l0:List ByteArray) (A1:Option Addr) (c1:Nat) (l1:List ByteArray) (r:Bool) (w:World) (hr0:Kd.C Kd.string w A0 l0.length l0) (hc0:l0.length≤c0) (hr1:Kd.C Kd.string w A1 l1.length l1) (hc1:l1.length≤c1) (h:laws_qTexts.f k l0 l1=some r) :
 Calls Tryz.prog 20 #[.slice A0 l0.length c0, .slice A1 l1.length c1] w fun e w'=>e = .returned (.bool r)∧Drawn0 w w':=by
 (have HR0:=am_ hr0);(have HC0:=am_ hc0);clear hr0 hc0;(have HR1:=am_ hr1);(have HC1:=am_ hc1);clear hr1 hc1;(have H:(if(l0.length:Int)=(l1.length:Int) then(laws_qTexts.l0 k l0 l1 (l0.length:Int) 0) else(some false))=some r:=h);clear h;by_cases c3:(l0.length:Int)=(l1.length:Int)
 ·rw[if_pos c3]at H;(have c3b0:((l0.length:Int) == (l1.length:Int))=true:=beq_iff_eq.mpr c3);(have c3b1:((l0.length:Int) != (l1.length:Int))=false:=bne_eq_false_iff_eq.mpr c3);(have c3b2:(l0.length == l1.length)=true:=a41_);clear c3;(have H':=am_ H);clear H;(go_enter Tryz.func20,Tryz.ntmps20);go_wp2;(repeat (go_quiet (fail);try go_wp2));(try simp only[Act.put,List.setIfInBounds_toArray,List.set_cons_zero,List.set_cons_succ])
  go_loopg [13] k (fun kq v13 w'=>∃(x13_1:Int),v13 = .int .i64 x13_1∧Aside0 (laws_qTexts.l0 kq l0 l1 (l0.length:Int) x13_1=some r)∧Aside0 (kq≤k)∧Drawn0 w w')
  case atStart=>exact⟨(0),(by first | rfl|(simp;done)|(simp[*];done)),H',⟨Nat.le_refl _⟩,a19_⟩
  case round=>
   clear H';(try clear c1);(try clear c2);(try clear p2);(try clear c3);(try clear c3b0);(try clear c3b1);(try clear c3b2);obtain⟨x13_1,rfl,HA,HK1,⟨m1,rfl⟩⟩:=hrel;cases gk with
   | zero=>exact absurd HA.out (by simp[laws_qTexts.l0])
   | succ k1=>
    (have H:=HA.out);clear HA;simp only[laws_qTexts.l0]at H;by_cases c4:x13_1<(l0.length:Int)
    ·rw[if_pos c4]at H;(have c4b0:decide (x13_1<(l0.length:Int))=true:=decide_eq_true c4);clear c4;by_cases c5:0≤x13_1
     ·rw[if_pos c5]at H;(have c5b0:decide (0≤x13_1)=true:=decide_eq_true c5);clear c5;by_cases c6:x13_1<(l0.length:Int)
      ·rw[if_pos c6]at H;(have c6b0:decide (x13_1<(l0.length:Int))=true:=decide_eq_true c6);clear c6;by_cases c7:x13_1<(l1.length:Int)
       ·rw[if_pos c7]at H;(have c7b0:decide (x13_1<(l1.length:Int))=true:=decide_eq_true c7);clear c7;by_cases c8:(rdOf ByteArray.empty l0 x13_1).toList=(rdOf ByteArray.empty l1 x13_1).toList
        ·rw[if_pos c8]at H;(have c8b0:((rdOf ByteArray.empty l0 x13_1).toList == (rdOf ByteArray.empty l1 x13_1).toList)=true:=beq_iff_eq.mpr c8);(have c8b1:((rdOf ByteArray.empty l0 x13_1).toList != (rdOf ByteArray.empty l1 x13_1).toList)=false:=bne_eq_false_iff_eq.mpr c8);clear c8;(have H':=am_ H);clear H;(have p485:0≤(x13_1:Int):=of_decide_eq_true (a6_));(have q485:x13_1<(l0.length:Int):=of_decide_eq_true (a6_));obtain⟨ad485,e485,hx485_0⟩:=Kd.at_string HR0.out x13_1 p485 q485;cases e485;replace p485:=eq_true p485;replace q485:=eq_true q485;(have p486:0≤(x13_1:Int):=of_decide_eq_true (a6_));(have q486:x13_1<(l1.length:Int):=of_decide_eq_true (a6_));obtain⟨ad486,e486,hx486_0⟩:=Kd.at_string HR1.out x13_1 p486 q486;cases e486;replace p486:=eq_true p486;replace q486:=eq_true q486;go_wp2;(repeat (go_quiet (fail);try go_wp2));(go_roundg k1)
         case measure=>have:=HK1.out;omega
         case rel=>exact⟨(wrap64 (x13_1+1)),(by first | rfl|(simp;done)|(simp[*];done)),H',⟨by have:=HK1.out;omega⟩,a19_⟩
        (focus rw[if_neg c8]at H;(have c8b0:((rdOf ByteArray.empty l0 x13_1).toList == (rdOf ByteArray.empty l1 x13_1).toList)=false:=beq_eq_false_iff_ne.mpr c8);(have c8b1:((rdOf ByteArray.empty l0 x13_1).toList != (rdOf ByteArray.empty l1 x13_1).toList)=true:=bne_iff_ne.mpr c8);obtain rfl:=Option.some.inj H;(have p485:0≤(x13_1:Int):=of_decide_eq_true (a6_));(have q485:x13_1<(l0.length:Int):=of_decide_eq_true (a6_));obtain⟨ad485,e485,hx485_0⟩:=Kd.at_string HR0.out x13_1 p485 q485;cases e485;replace p485:=eq_true p485;replace q485:=eq_true q485;(have p486:0≤(x13_1:Int):=of_decide_eq_true (a6_));(have q486:x13_1<(l1.length:Int):=of_decide_eq_true (a6_));obtain⟨ad486,e486,hx486_0⟩:=Kd.at_string HR1.out x13_1 p486 q486;cases e486;replace p486:=eq_true p486;replace q486:=eq_true q486;go_wp2;(repeat (go_quiet (fail);try go_wp2));go_ret;exact⟨by first | rfl|(simp;done)|(simp[*];done),a19_⟩)
       (focus rw[if_neg c7]at H;exact absurd H (by simp))
      (focus rw[if_neg c6]at H;exact absurd H (by simp))
     (focus rw[if_neg c5]at H;exact absurd H (by simp))
    (focus rw[if_neg c4]at H;(have c4b0:decide (x13_1<(l0.length:Int))=false:=decide_eq_false c4);clear c4;obtain rfl:=Option.some.inj H;go_wp2;(repeat (go_quiet (fail);try go_wp2));go_ret;exact⟨by first | rfl|(simp;done)|(simp[*];done),a19_⟩)
 (focus rw[if_neg c3]at H;(have c3b0:((l0.length:Int) == (l1.length:Int))=false:=beq_eq_false_iff_ne.mpr c3);(have c3b1:((l0.length:Int) != (l1.length:Int))=true:=bne_iff_ne.mpr c3);(have c3b2:(l0.length == l1.length)=false:=a41_);obtain rfl:=Option.some.inj H;(go_enter Tryz.func20,Tryz.ntmps20);go_wp2;(repeat (go_quiet (fail);try go_wp2));go_ret;exact⟨by first | rfl|(simp;done)|(simp[*];done),a19_⟩)

/-! ### laws_qRolls: function 21 -/
def laws_qRolls.l0:Nat→List (S47)→List (S47)→Int→Int→Option (Bool)
 | 0,_,_,_,_=>none
 | k+1,x0,x1,x12,x13=>if x13<x12 then(if 0≤x13 then(if x13<(x0.length:Int) then(if x13<(x1.length:Int) then(if(!((((rd_T47 x0 x13).f0).toList) == (((rd_T47 x1 x13).f0).toList)) || (!((((rd_T47 x0 x13).f1).toList) == (((rd_T47 x1 x13).f1).toList)) || (!(((rd_T47 x0 x13).f2) == ((rd_T47 x1 x13).f2)) || (!(((rd_T47 x0 x13).f3) == ((rd_T47 x1 x13).f3))))))=true then(some false) else(laws_qRolls.l0 k x0 x1 x12 (wrap64 (x13+1)))) else(none)) else(none)) else(none)) else(some true)
def laws_qRolls.f (k:Nat) (l0:List (S47)) (l1:List (S47)):Option (Bool):=if(l0.length:Int)=(l1.length:Int) then(laws_qRolls.l0 k l0 l1 (l0.length:Int) 0) else(some false)
theorem laws_qRolls.mono_l:∀k,(∀y0 y1 y2 y3,LeO (laws_qRolls.l0 k y0 y1 y2 y3) (laws_qRolls.l0 (k+1) y0 y1 y2 y3))
 | 0=>fun _ _ _ _ r h=>by simp[laws_qRolls.l0]at h
 | k+1=>by
  have ih0:=laws_qRolls.mono_l k
  intros
  unfold laws_qRolls.l0
  rotate_left
  all_goals repeat' first|(with_reducible first|exact ih0 _ _ _ _|exact LeO.refl _|exact LeO.none _|refine LeO.ite ?_ ?_|refine LeO.bind ?_ (fun _=>?_))|exact ih0 _ _ _ _|exact LeO.none _|refine LeO.ite ?_ ?_|refine LeO.bind ?_ (fun _=>?_)
theorem laws_qRolls.mono:∀a0 a1 k,LeO (laws_qRolls.f k a0 a1) (laws_qRolls.f (k+1) a0 a1):=by
 intro a0 a1 k;(have ih0:=laws_qRolls.mono_l k);unfold laws_qRolls.f
 repeat' first
  |(with_reducible exact ih0 _ _ _ _)
  |(with_reducible exact LeO.refl _)
  |(with_reducible exact LeO.none _)
  |(with_reducible refine LeO.ite ?_ ?_)
  |(with_reducible refine LeO.bind ?_ (fun _=>?_))
  |exact ih0 _ _ _ _
  |exact LeO.none _
   | refine LeO.ite ?_ ?_
   | refine LeO.bind ?_ (fun _=>?_)
set_option maxHeartbeats 8000000 in
set_option maxRecDepth 100000 in
theorem laws_qRolls.calls (k:Nat) (A0:Option Addr) (c0:Nat) (l0:List (S47)) (A1:Option Addr) (c1:Nat) (l1:List (S47)) (r:Bool) (w:World) (hr0:Kd.C k47 w A0 l0.length l0) (hc0:l0.length≤c0) (hr1:Kd.C k47 w A1 l1.length l1) (hc1:l1.length≤c1) (h:laws_qRolls.f k l0 l1=some r) :
 Calls Tryz.prog 21 #[.slice A0 l0.length c0, .slice A1 l1.length c1] w fun e w'=>e = .returned (.bool r)∧Drawn0 w w':=by
 (have hu47:=Tryz.underlying47);(have HR0:=am_ hr0);(have HC0:=am_ hc0);clear hr0 hc0;(have HR1:=am_ hr1);(have HC1:=am_ hc1);clear hr1 hc1;(have H:(if(l0.length:Int)=(l1.length:Int) then(laws_qRolls.l0 k l0 l1 (l0.length:Int) 0) else(some false))=some r:=h);clear h;by_cases c3:(l0.length:Int)=(l1.length:Int)
 ·rw[if_pos c3]at H;(have c3b0:((l0.length:Int) == (l1.length:Int))=true:=beq_iff_eq.mpr c3);(have c3b1:((l0.length:Int) != (l1.length:Int))=false:=bne_eq_false_iff_eq.mpr c3);(have c3b2:(l0.length == l1.length)=true:=a41_);clear c3;(have H':=am_ H);clear H;(go_enter Tryz.func21,Tryz.ntmps21);go_wp2;(repeat (go_quiet (fail);try go_wp2));(try simp only[Act.put,List.setIfInBounds_toArray,List.set_cons_zero,List.set_cons_succ])
  go_loopg [13] k (fun kq v13 w'=>∃(x13_1:Int),v13 = .int .i64 x13_1∧Aside0 (laws_qRolls.l0 kq l0 l1 (l0.length:Int) x13_1=some r)∧Aside0 (kq≤k)∧Drawn0 w w')
  case atStart=>exact⟨(0),(by first | rfl|(simp;done)|(simp[*];done)),H',⟨Nat.le_refl _⟩,a19_⟩
  case round=>
   clear H';(try clear c1);(try clear c2);(try clear p2);(try clear c3);(try clear c3b0);(try clear c3b1);(try clear c3b2);obtain⟨x13_1,rfl,HA,HK1,⟨m1,rfl⟩⟩:=hrel;cases gk with
   | zero=>exact absurd HA.out (by simp[laws_qRolls.l0])
   | succ k1=>
    (have H:=HA.out);clear HA;simp only[laws_qRolls.l0]at H;by_cases c4:x13_1<(l0.length:Int)
    ·rw[if_pos c4]at H;(have c4b0:decide (x13_1<(l0.length:Int))=true:=decide_eq_true c4);clear c4;by_cases c5:0≤x13_1
     ·rw[if_pos c5]at H;(have c5b0:decide (0≤x13_1)=true:=decide_eq_true c5);clear c5;by_cases c6:x13_1<(l0.length:Int)
      ·rw[if_pos c6]at H;(have c6b0:decide (x13_1<(l0.length:Int))=true:=decide_eq_true c6);clear c6;by_cases c7:x13_1<(l1.length:Int)
       ·rw[if_pos c7]at H;(have c7b0:decide (x13_1<(l1.length:Int))=true:=decide_eq_true c7);clear c7;by_cases c8:(!((((rd_T47 l0 x13_1).f0).toList) == (((rd_T47 l1 x13_1).f0).toList)) || (!((((rd_T47 l0 x13_1).f1).toList) == (((rd_T47 l1 x13_1).f1).toList)) || (!(((rd_T47 l0 x13_1).f2) == ((rd_T47 l1 x13_1).f2)) || (!(((rd_T47 l0 x13_1).f3) == ((rd_T47 l1 x13_1).f3))))))=true;(focus rw[if_pos c8]at H;(have c8b0:(!((((rd_T47 l0 x13_1).f0).toList) == (((rd_T47 l1 x13_1).f0).toList)) || (!((((rd_T47 l0 x13_1).f1).toList) == (((rd_T47 l1 x13_1).f1).toList)) || (!(((rd_T47 l0 x13_1).f2) == ((rd_T47 l1 x13_1).f2)) || (!(((rd_T47 l0 x13_1).f3) == ((rd_T47 l1 x13_1).f3))))))=true:=c8);clear c8;obtain rfl:=Option.some.inj H;(have p487:0≤(x13_1:Int):=of_decide_eq_true (a6_));(have q487:x13_1<(l0.length:Int):=of_decide_eq_true (a6_));obtain⟨ad487,e487,hx487_0,hx487_1,hx487_2,hx487_3⟩:=at_T47 HR0.out x13_1 p487 q487;cases e487;replace p487:=eq_true p487;replace q487:=eq_true q487;(have p488:0≤(x13_1:Int):=of_decide_eq_true (a6_));(have q488:x13_1<(l1.length:Int):=of_decide_eq_true (a6_));obtain⟨ad488,e488,hx488_0,hx488_1,hx488_2,hx488_3⟩:=at_T47 HR1.out x13_1 p488 q488;cases e488;replace p488:=eq_true p488;replace q488:=eq_true q488;go_wp2;(repeat (go_quiet (fail);try go_wp2));go_ret;exact⟨by first | rfl|(simp;done)|(simp[*];done),a19_⟩)
        ·rw[if_neg c8]at H;(have c8b0:(!((((rd_T47 l0 x13_1).f0).toList) == (((rd_T47 l1 x13_1).f0).toList)) || (!((((rd_T47 l0 x13_1).f1).toList) == (((rd_T47 l1 x13_1).f1).toList)) || (!(((rd_T47 l0 x13_1).f2) == ((rd_T47 l1 x13_1).f2)) || (!(((rd_T47 l0 x13_1).f3) == ((rd_T47 l1 x13_1).f3))))))=false:=by simpa using c8);clear c8;(have H':=am_ H);clear H;(have p487:0≤(x13_1:Int):=of_decide_eq_true (a6_));(have q487:x13_1<(l0.length:Int):=of_decide_eq_true (a6_));obtain⟨ad487,e487,hx487_0,hx487_1,hx487_2,hx487_3⟩:=at_T47 HR0.out x13_1 p487 q487;cases e487;replace p487:=eq_true p487;replace q487:=eq_true q487;(have p488:0≤(x13_1:Int):=of_decide_eq_true (a6_));(have q488:x13_1<(l1.length:Int):=of_decide_eq_true (a6_));obtain⟨ad488,e488,hx488_0,hx488_1,hx488_2,hx488_3⟩:=at_T47 HR1.out x13_1 p488 q488;cases e488;replace p488:=eq_true p488;replace q488:=eq_true q488;go_wp2;(repeat (go_quiet (fail);try go_wp2));(go_roundg k1)
         case measure=>have:=HK1.out;omega
         case rel=>exact⟨(wrap64 (x13_1+1)),(by first | rfl|(simp;done)|(simp[*];done)),H',⟨by have:=HK1.out;omega⟩,a19_⟩
       (focus rw[if_neg c7]at H;exact absurd H (by simp))
      (focus rw[if_neg c6]at H;exact absurd H (by simp))
     (focus rw[if_neg c5]at H;exact absurd H (by simp))
    (focus rw[if_neg c4]at H;(have c4b0:decide (x13_1<(l0.length:Int))=false:=decide_eq_false c4);clear c4;obtain rfl:=Option.some.inj H;go_wp2;(repeat (go_quiet (fail);try go_wp2));go_ret;exact⟨by first | rfl|(simp;done)|(simp[*];done),a19_⟩)
 (focus rw[if_neg c3]at H;(have c3b0:((l0.length:Int) == (l1.length:Int))=false:=beq_eq_false_iff_ne.mpr c3);(have c3b1:((l0.length:Int) != (l1.length:Int))=true:=bne_iff_ne.mpr c3);(have c3b2:(l0.length == l1.length)=false:=a41_);obtain rfl:=Option.some.inj H;(go_enter Tryz.func21,Tryz.ntmps21);go_wp2;(repeat (go_quiet (fail);try go_wp2));go_ret;exact⟨by first | rfl|(simp;done)|(simp[*];done),a19_⟩)

/-! ### impl_ProvenanceOf: function 23 -/
def impl_ProvenanceOf.f (k:Nat) (l0:List (S47)) (a1:Int):Option (List Int×Bool):=(impl_isRoll.f k l0 a1).bind fun t489=>(if t489=true then((impl_provenanceOf.f k l0 a1).bind fun t490=>(some (t490,true))) else(some (([]:List Int),false)))
theorem impl_ProvenanceOf.mono:∀a0 a1 k,LeO (impl_ProvenanceOf.f k a0 a1) (impl_ProvenanceOf.f (k+1) a0 a1):=by
 intro a0 a1 k;unfold impl_ProvenanceOf.f
 repeat' first
  |(with_reducible exact impl_isRoll.mono _ _ _)
  |(with_reducible exact impl_provenanceOf.mono _ _ _)
  |(with_reducible exact LeO.refl _)
  |(with_reducible exact LeO.none _)
  |(with_reducible refine LeO.ite ?_ ?_)
  |(with_reducible refine LeO.bind ?_ (fun _=>?_))
  |exact impl_isRoll.mono _ _ _
  |exact impl_provenanceOf.mono _ _ _
  |exact LeO.none _
   | refine LeO.ite ?_ ?_
   | refine LeO.bind ?_ (fun _=>?_)
set_option maxHeartbeats 8000000 in
set_option maxRecDepth 100000 in
theorem impl_ProvenanceOf.calls (k:Nat) (A0:Option Addr) (c0:Nat) (l0:List (S47)) (a1:Int) (r1:List Int) (r2:Bool) (w:World) (hr0:Kd.C k47 w A0 l0.length l0) (hc0:l0.length≤c0) (h:impl_ProvenanceOf.f k l0 a1=some (r1,r2)) :
 Calls Tryz.prog 23 #[.slice A0 l0.length c0, .int .i64 a1] w fun e w'=>∃v0_:Value,e = .returned (.tuple #[v0_, .bool r2])∧Kd.R (Kd.int .i64) 3 w' w.heap.size (fun _=>True) v0_ r1∧Below w.heap.size w w':=by
 (have HR0:=am_ hr0);(have HC0:=am_ hc0);clear hr0 hc0;(have HB:=am_ (Below.refl w.heap.size w));(have H:((impl_isRoll.f k l0 a1).bind fun t489=>(if t489=true then((impl_provenanceOf.f k l0 a1).bind fun t490=>(some (t490,true))) else(some (([]:List Int),false))))=some (r1,r2):=h);clear h;obtain⟨t489,A3,H⟩:=bo_ H;(try dsimp only at H);by_cases c4:t489=true;(focus subst c4;(replace H:((impl_provenanceOf.f k l0 a1).bind fun t490=>(some (t490,true)))=some (r1,r2):=by rw[if_pos rfl]at H;exact H);obtain⟨t490,A5,H⟩:=bo_ H;(try dsimp only at H);simp only[Option.some.injEq,Prod.mk.injEq]at H;obtain⟨rfl,rfl⟩:=H;(go_enter Tryz.func23,Tryz.ntmps23);(go_wp2_with (first|((with_reducible refine gate_callee (f:=41) rfl ?_);refine goesL_ (some 8) rfl rfl Tryz.func41 (by kernel_rfl) rfl #[.slice A0 l0.length c0, .int .i64 a1] rfl gd_ ?_;(with_reducible refine(impl_isRoll.calls k _ _ l0 a1 true _ ?side1 ?side2 A3.out).mono ?_);(case side1=>exact(a15_ HR0.out));(case side2=>exact HC0.out);rintro e w6 ⟨rfl,hb⟩;refine⟨_,rfl,?_⟩;replace HB:=am_ (below_step (a1_) hb);(try clear hb);(try clear hb2);(try clear hk);(try clear hi))|((with_reducible refine gate_callee (f:=34) rfl ?_);refine goesL_ (some 12) rfl rfl Tryz.func34 (by kernel_rfl) rfl #[.slice A0 l0.length c0, .int .i64 a1] rfl gd_ ?_;(with_reducible refine(impl_provenanceOf.calls k _ _ l0 a1 t490 _ ?side1 ?side2 A5.out).mono ?_);(case side1=>exact(a18_ HR0.out));(case side2=>exact HC0.out);rintro e w7 ⟨v491,rfl,ho0,hb⟩;refine⟨_,rfl,?_⟩;have HO492:=am_ (Kd.R_lower ho0 (below_size (a1_)));replace HB:=am_ (below_step (a1_) hb);(try clear hb);(try clear hb2);(try clear hk);(try clear hi);(try clear ho0))));go_ret2;exact⟨_,a10_,(a0_ HO492.out),a1_⟩);(focus replace c4:=Bool.eq_false_iff.mpr c4;subst c4;(replace H:(some (([]:List Int),false))=some (r1,r2):=by rw[if_neg (show ¬(false=true) by decide)]at H;exact H);simp only[Option.some.injEq,Prod.mk.injEq]at H;obtain⟨rfl,rfl⟩:=H;(go_enter Tryz.func23,Tryz.ntmps23);(go_wp2_with (first|((with_reducible refine gate_callee (f:=41) rfl ?_);refine goesL_ (some 8) rfl rfl Tryz.func41 (by kernel_rfl) rfl #[.slice A0 l0.length c0, .int .i64 a1] rfl gd_ ?_;(with_reducible refine(impl_isRoll.calls k _ _ l0 a1 false _ ?side1 ?side2 A3.out).mono ?_);(case side1=>exact(a15_ HR0.out));(case side2=>exact HC0.out);rintro e w8 ⟨rfl,hb⟩;refine⟨_,rfl,?_⟩;replace HB:=am_ (below_step (a1_) hb);(try clear hb);(try clear hb2);(try clear hk);(try clear hi))));go_ret2;exact⟨_,a10_,a17_,a1_⟩)

/-! ### spec_ProvenanceOf: function 24 -/
def spec_ProvenanceOf.f (k:Nat) (l0:List (S47)) (a1:Int):Option (List Int×Bool):=(spec_caHas.f k l0 a1).bind fun t493=>(if t493=true then((spec_caWay.f k l0 a1).bind fun t494=>(some (t494,true))) else(some (([]:List Int),false)))
theorem spec_ProvenanceOf.mono:∀a0 a1 k,LeO (spec_ProvenanceOf.f k a0 a1) (spec_ProvenanceOf.f (k+1) a0 a1):=by
 intro a0 a1 k;unfold spec_ProvenanceOf.f
 repeat' first
  |(with_reducible exact spec_caHas.mono _ _ _)
  |(with_reducible exact spec_caWay.mono _ _ _)
  |(with_reducible exact LeO.refl _)
  |(with_reducible exact LeO.none _)
  |(with_reducible refine LeO.ite ?_ ?_)
  |(with_reducible refine LeO.bind ?_ (fun _=>?_))
  |exact spec_caHas.mono _ _ _
  |exact spec_caWay.mono _ _ _
  |exact LeO.none _
   | refine LeO.ite ?_ ?_
   | refine LeO.bind ?_ (fun _=>?_)
set_option maxHeartbeats 8000000 in
set_option maxRecDepth 100000 in
theorem spec_ProvenanceOf.calls (k:Nat) (A0:Option Addr) (c0:Nat) (l0:List (S47)) (a1:Int) (r1:List Int) (r2:Bool) (w:World) (hr0:Kd.C k47 w A0 l0.length l0) (hc0:l0.length≤c0) (h:spec_ProvenanceOf.f k l0 a1=some (r1,r2)) :
 Calls Tryz.prog 24 #[.slice A0 l0.length c0, .int .i64 a1] w fun e w'=>∃v0_:Value,e = .returned (.tuple #[v0_, .bool r2])∧Kd.R (Kd.int .i64) 3 w' w.heap.size (fun _=>True) v0_ r1∧Below w.heap.size w w':=by
 (have HR0:=am_ hr0);(have HC0:=am_ hc0);clear hr0 hc0;(have HB:=am_ (Below.refl w.heap.size w));(have H:((spec_caHas.f k l0 a1).bind fun t493=>(if t493=true then((spec_caWay.f k l0 a1).bind fun t494=>(some (t494,true))) else(some (([]:List Int),false))))=some (r1,r2):=h);clear h;obtain⟨t493,A3,H⟩:=bo_ H;(try dsimp only at H);by_cases c4:t493=true;(focus subst c4;(replace H:((spec_caWay.f k l0 a1).bind fun t494=>(some (t494,true)))=some (r1,r2):=by rw[if_pos rfl]at H;exact H);obtain⟨t494,A5,H⟩:=bo_ H;(try dsimp only at H);simp only[Option.some.injEq,Prod.mk.injEq]at H;obtain⟨rfl,rfl⟩:=H;(go_enter Tryz.func24,Tryz.ntmps24);(go_wp2_with (first|((with_reducible refine gate_callee (f:=43) rfl ?_);refine goesL_ (some 8) rfl rfl Tryz.func43 (by kernel_rfl) rfl #[.slice A0 l0.length c0, .int .i64 a1] rfl gd_ ?_;(with_reducible refine(spec_caHas.calls k _ _ l0 a1 true _ ?side1 ?side2 A3.out).mono ?_);(case side1=>exact(a15_ HR0.out));(case side2=>exact HC0.out);rintro e w6 ⟨rfl,hb⟩;refine⟨_,rfl,?_⟩;replace HB:=am_ (below_step (a1_) hb);(try clear hb);(try clear hb2);(try clear hk);(try clear hi))|((with_reducible refine gate_callee (f:=35) rfl ?_);refine goesL_ (some 12) rfl rfl Tryz.func35 (by kernel_rfl) rfl #[.slice A0 l0.length c0, .int .i64 a1] rfl gd_ ?_;(with_reducible refine(spec_caWay.calls k _ _ l0 a1 t494 _ ?side1 ?side2 A5.out).mono ?_);(case side1=>exact(a18_ HR0.out));(case side2=>exact HC0.out);rintro e w7 ⟨v495,rfl,ho0,hb⟩;refine⟨_,rfl,?_⟩;have HO496:=am_ (Kd.R_lower ho0 (below_size (a1_)));replace HB:=am_ (below_step (a1_) hb);(try clear hb);(try clear hb2);(try clear hk);(try clear hi);(try clear ho0))));go_ret2;exact⟨_,a10_,(a0_ HO496.out),a1_⟩);(focus replace c4:=Bool.eq_false_iff.mpr c4;subst c4;(replace H:(some (([]:List Int),false))=some (r1,r2):=by rw[if_neg (show ¬(false=true) by decide)]at H;exact H);simp only[Option.some.injEq,Prod.mk.injEq]at H;obtain⟨rfl,rfl⟩:=H;(go_enter Tryz.func24,Tryz.ntmps24);(go_wp2_with (first|((with_reducible refine gate_callee (f:=43) rfl ?_);refine goesL_ (some 8) rfl rfl Tryz.func43 (by kernel_rfl) rfl #[.slice A0 l0.length c0, .int .i64 a1] rfl gd_ ?_;(with_reducible refine(spec_caHas.calls k _ _ l0 a1 false _ ?side1 ?side2 A3.out).mono ?_);(case side1=>exact(a15_ HR0.out));(case side2=>exact HC0.out);rintro e w8 ⟨rfl,hb⟩;refine⟨_,rfl,?_⟩;replace HB:=am_ (below_step (a1_) hb);(try clear hb);(try clear hb2);(try clear hk);(try clear hi))));go_ret2;exact⟨_,a10_,a17_,a1_⟩)

/-! ### laws_qHas: function 25 -/
def laws_qHas.l0:Nat→Int→List Int→Int→Int→Option (Bool)
 | 0,_,_,_,_=>none
 | k+1,x1,x7,x8,x9=>if x9<x8 then(if 0≤x9 then(if x9<(x7.length:Int) then(if(rd x7 x9)=x1 then(some true) else(laws_qHas.l0 k x1 x7 x8 (wrap64 (x9+1)))) else(none)) else(none)) else(some false)
def laws_qHas.f (k:Nat) (l0:List Int) (a1:Int):Option (Bool):=laws_qHas.l0 k a1 l0 (l0.length:Int) 0
theorem laws_qHas.mono_l:∀k,(∀y0 y1 y2 y3,LeO (laws_qHas.l0 k y0 y1 y2 y3) (laws_qHas.l0 (k+1) y0 y1 y2 y3))
 | 0=>fun _ _ _ _ r h=>by simp[laws_qHas.l0]at h
 | k+1=>by
  have ih0:=laws_qHas.mono_l k
  intros
  unfold laws_qHas.l0
  rotate_left
  all_goals repeat' first|(with_reducible first|exact ih0 _ _ _ _|exact LeO.refl _|exact LeO.none _|refine LeO.ite ?_ ?_|refine LeO.bind ?_ (fun _=>?_))|exact ih0 _ _ _ _|exact LeO.none _|refine LeO.ite ?_ ?_|refine LeO.bind ?_ (fun _=>?_)
theorem laws_qHas.mono:∀a0 a1 k,LeO (laws_qHas.f k a0 a1) (laws_qHas.f (k+1) a0 a1):=by
 intro a0 a1 k;(have ih0:=laws_qHas.mono_l k);unfold laws_qHas.f
 repeat' first
  |(with_reducible exact ih0 _ _ _ _)
  |(with_reducible exact LeO.refl _)
  |(with_reducible exact LeO.none _)
  |(with_reducible refine LeO.ite ?_ ?_)
  |(with_reducible refine LeO.bind ?_ (fun _=>?_))
  |exact ih0 _ _ _ _
  |exact LeO.none _
   | refine LeO.ite ?_ ?_
   | refine LeO.bind ?_ (fun _=>?_)
set_option maxHeartbeats 8000000 in
set_option maxRecDepth 100000 in
theorem laws_qHas.calls (k:Nat) (A0:Option Addr) (c0:Nat) (l0:List Int) (a1:Int) (r:Bool) (w:World) (hr0:Kd.C (Kd.int .i64) w A0 l0.length l0) (hc0:l0.length≤c0) (h:laws_qHas.f k l0 a1=some r) :
 Calls Tryz.prog 25 #[.slice A0 l0.length c0, .int .i64 a1] w fun e w'=>e = .returned (.bool r)∧Drawn0 w w':=by
 (have HR0:=am_ hr0);(have HC0:=am_ hc0);clear hr0 hc0;(have H:(laws_qHas.l0 k a1 l0 (l0.length:Int) 0)=some r:=h);clear h;(have H':=am_ H);clear H;(go_enter Tryz.func25,Tryz.ntmps25);go_wp2;(try simp only[Act.put,List.setIfInBounds_toArray,List.set_cons_zero,List.set_cons_succ])
 go_loopg [9] k (fun kq v9 w'=>∃(x9_1:Int),v9 = .int .i64 x9_1∧Aside0 (laws_qHas.l0 kq a1 l0 (l0.length:Int) x9_1=some r)∧Aside0 (kq≤k)∧Drawn0 w w')
 case atStart=>exact⟨(0),(by first | rfl|(simp;done)|(simp[*];done)),H',⟨Nat.le_refl _⟩,a19_⟩
 case round=>
  clear H';(try clear c2);(try clear p2);obtain⟨x9_1,rfl,HA,HK1,⟨m1,rfl⟩⟩:=hrel;cases gk with
  | zero=>exact absurd HA.out (by simp[laws_qHas.l0])
  | succ k1=>
   (have H:=HA.out);clear HA;simp only[laws_qHas.l0]at H;by_cases c3:x9_1<(l0.length:Int)
   ·rw[if_pos c3]at H;(have c3b0:decide (x9_1<(l0.length:Int))=true:=decide_eq_true c3);clear c3;by_cases c4:0≤x9_1
    ·rw[if_pos c4]at H;(have c4b0:decide (0≤x9_1)=true:=decide_eq_true c4);clear c4;by_cases c5:x9_1<(l0.length:Int)
     ·rw[if_pos c5]at H;(have c5b0:decide (x9_1<(l0.length:Int))=true:=decide_eq_true c5);clear c5;by_cases c6:(rd l0 x9_1)=a1;(focus rw[if_pos c6]at H;(have c6b0:((rd l0 x9_1) == a1)=true:=beq_iff_eq.mpr c6);(have c6b1:((rd l0 x9_1) != a1)=false:=bne_eq_false_iff_eq.mpr c6);clear c6;obtain rfl:=Option.some.inj H;(have p497:0≤(x9_1:Int):=of_decide_eq_true (a6_));(have q497:x9_1<(l0.length:Int):=of_decide_eq_true (a6_));obtain⟨ad497,e497,hx497_0⟩:=Kd.at_int HR0.out x9_1 p497 q497;cases e497;replace p497:=eq_true p497;replace q497:=eq_true q497;go_wp2;go_ret;exact⟨by first | rfl|(simp;done)|(simp[*];done),a19_⟩)
      ·rw[if_neg c6]at H;(have c6b0:((rd l0 x9_1) == a1)=false:=beq_eq_false_iff_ne.mpr c6);(have c6b1:((rd l0 x9_1) != a1)=true:=bne_iff_ne.mpr c6);(have H':=am_ H);clear H;(have p497:0≤(x9_1:Int):=of_decide_eq_true (a6_));(have q497:x9_1<(l0.length:Int):=of_decide_eq_true (a6_));obtain⟨ad497,e497,hx497_0⟩:=Kd.at_int HR0.out x9_1 p497 q497;cases e497;replace p497:=eq_true p497;replace q497:=eq_true q497;go_wp2;(go_roundg k1)
       case measure=>have:=HK1.out;omega
       case rel=>exact⟨(wrap64 (x9_1+1)),(by first | rfl|(simp;done)|(simp[*];done)),H',⟨by have:=HK1.out;omega⟩,a19_⟩
     (focus rw[if_neg c5]at H;exact absurd H (by simp))
    (focus rw[if_neg c4]at H;exact absurd H (by simp))
   (focus rw[if_neg c3]at H;(have c3b0:decide (x9_1<(l0.length:Int))=false:=decide_eq_false c3);clear c3;obtain rfl:=Option.some.inj H;go_wp2;go_ret;exact⟨by first | rfl|(simp;done)|(simp[*];done),a19_⟩)

/-! ### impl_CopiesOf: function 26 -/
def impl_CopiesOf.l0:Nat→List (S47)→Int→List Int→Int→Int→Option (List Int×Bool)
 | 0,_,_,_,_,_=>none
 | k+1,x0,x1,x6,x14,x15=>if x15<x14 then(if x15=x1 then(impl_CopiesOf.l0 k x0 x1 x6 x14 (wrap64 (x15+1))) else((impl_provenanceOf.f k x0 x15).bind fun t502=>((slices_Contains_int_int.f k t502 x1).bind fun t505=>(if t505=true then(if x6.length<17592186044416 then(impl_CopiesOf.l0 k x0 x1 (x6 ++ [x15]) x14 (wrap64 (x15+1))) else(none)) else(impl_CopiesOf.l0 k x0 x1 x6 x14 (wrap64 (x15+1))))))) else(some (x6,true))
def impl_CopiesOf.f (k:Nat) (l0:List (S47)) (a1:Int):Option (List Int×Bool):=(impl_isRoll.f k l0 a1).bind fun t498=>(if t498=true then(impl_CopiesOf.l0 k l0 a1 (([]:List Int)) (l0.length:Int) 0) else(some (([]:List Int),false)))
theorem impl_CopiesOf.mono_l:∀k,(∀y0 y1 y2 y3 y4,LeO (impl_CopiesOf.l0 k y0 y1 y2 y3 y4) (impl_CopiesOf.l0 (k+1) y0 y1 y2 y3 y4))
 | 0=>fun _ _ _ _ _ r h=>by simp[impl_CopiesOf.l0]at h
 | k+1=>by
  have ih0:=impl_CopiesOf.mono_l k
  intros
  unfold impl_CopiesOf.l0
  rotate_left
  all_goals repeat' first|(with_reducible first|exact ih0 _ _ _ _ _|exact impl_isRoll.mono _ _ _|exact impl_provenanceOf.mono _ _ _|exact slices_Contains_int_int.mono _ _ _|exact LeO.refl _|exact LeO.none _|refine LeO.ite ?_ ?_|refine LeO.bind ?_ (fun _=>?_))|exact ih0 _ _ _ _ _|exact impl_isRoll.mono _ _ _|exact impl_provenanceOf.mono _ _ _|exact slices_Contains_int_int.mono _ _ _|exact LeO.none _|refine LeO.ite ?_ ?_|refine LeO.bind ?_ (fun _=>?_)
theorem impl_CopiesOf.mono:∀a0 a1 k,LeO (impl_CopiesOf.f k a0 a1) (impl_CopiesOf.f (k+1) a0 a1):=by
 intro a0 a1 k;(have ih0:=impl_CopiesOf.mono_l k);unfold impl_CopiesOf.f
 repeat' first
  |(with_reducible exact ih0 _ _ _ _ _)
  |(with_reducible exact impl_isRoll.mono _ _ _)
  |(with_reducible exact impl_provenanceOf.mono _ _ _)
  |(with_reducible exact slices_Contains_int_int.mono _ _ _)
  |(with_reducible exact LeO.refl _)
  |(with_reducible exact LeO.none _)
  |(with_reducible refine LeO.ite ?_ ?_)
  |(with_reducible refine LeO.bind ?_ (fun _=>?_))
  |exact ih0 _ _ _ _ _
  |exact impl_isRoll.mono _ _ _
  |exact impl_provenanceOf.mono _ _ _
  |exact slices_Contains_int_int.mono _ _ _
  |exact LeO.none _
   | refine LeO.ite ?_ ?_
   | refine LeO.bind ?_ (fun _=>?_)
set_option maxHeartbeats 8000000 in
set_option maxRecDepth 100000 in
theorem impl_CopiesOf.calls (k:Nat) (A0:Option Addr) (c0:Nat) (l0:List (S47)) (a1:Int) (r1:List Int) (r2:Bool) (w:World) (hr0:Kd.C k47 w A0 l0.length l0) (hc0:l0.length≤c0) (h:impl_CopiesOf.f k l0 a1=some (r1,r2)) :
 Calls Tryz.prog 26 #[.slice A0 l0.length c0, .int .i64 a1] w fun e w'=>∃v0_:Value,e = .returned (.tuple #[v0_, .bool r2])∧Kd.R (Kd.int .i64) 3 w' w.heap.size (fun _=>True) v0_ r1∧Below w.heap.size w w':=by
 (have HR0:=am_ hr0);(have HC0:=am_ hc0);clear hr0 hc0;(have HB:=am_ (Below.refl w.heap.size w));(have H:((impl_isRoll.f k l0 a1).bind fun t498=>(if t498=true then(impl_CopiesOf.l0 k l0 a1 (([]:List Int)) (l0.length:Int) 0) else(some (([]:List Int),false))))=some (r1,r2):=h);clear h;obtain⟨t498,A3,H⟩:=bo_ H;(try dsimp only at H);by_cases c4:t498=true
 ·subst c4;(replace H:(impl_CopiesOf.l0 k l0 a1 (([]:List Int)) (l0.length:Int) 0)=some (r1,r2):=by rw[if_pos rfl]at H;exact H);(obtain⟨y499,hy499⟩:∃y_:List Int,y_=(([]:List Int)):=⟨_,rfl⟩);(replace H:(impl_CopiesOf.l0 k l0 a1 y499 (l0.length:Int) 0)=some (r1,r2):=by first|(rw[hy499];with_reducible exact H)|(have H2_:=(Option.bind_some _ _).symm.trans H;rw[hy499];with_reducible exact H2_)|(have H2_:=(Option.bind_some _ _).symm.trans H;with_reducible exact H2_) | with_reducible exact H|(rw[hy499];exact H)|exact H);(have Ny499:=am_ hy499);clear hy499;(have H':=am_ H);clear H;(go_enter Tryz.func26,Tryz.ntmps26);(go_wp2_with (first|((with_reducible refine gate_callee (f:=41) rfl ?_);refine goesL_ (some 10) rfl rfl Tryz.func41 (by kernel_rfl) rfl #[.slice A0 l0.length c0, .int .i64 a1] rfl gd_ ?_;(with_reducible refine(impl_isRoll.calls k _ _ l0 a1 true _ ?side1 ?side2 A3.out).mono ?_);(case side1=>exact(a15_ HR0.out));(case side2=>exact HC0.out);rintro e w5 ⟨rfl,hb⟩;refine⟨_,rfl,?_⟩;replace HB:=am_ (below_step (a1_) hb);(try clear hb);(try clear hb2);(try clear hk);(try clear hi))|((with_reducible refine gate_dst (N:=12) rfl ?_);refine Kd.R_lit (Kd.int .i64) _ 3 ?hg (N:=12) ?hd (xs:=([]:List Int)) (inner:=[]) (ok:=fun _=>True) (okp:=fun _=>True) ?hr ?hp (fun _ hk=>hk) trivial (Below.refl _ _) (Nat.le_refl _) (by simp) ?_;(case hd=>rfl);(case hg=>rfl);(case hr=>exact hr_);(case hp=>exact(Reps.none _ _));intro v500 w6 ho7 hb hg_ hnew_;clear hg_ hnew_;(first|rw[← Ny499.out]at ho7|(simp only[Int.reduceToNat]at ho7;rw[← Ny499.out]at ho7));have HO501:=am_ (Kd.R_lower ho7 (below_size (a1_)));replace HB:=am_ (below_step (a1_) hb);clear hb ho7)));(try simp only[Act.put,List.setIfInBounds_toArray,List.set_cons_zero,List.set_cons_succ])
  go_loopg [6,15] k (fun kq v6 v15 w'=>∃(x6_1:List Int) (x15_1:Int),v15 = .int .i64 x15_1∧Aside0 (impl_CopiesOf.l0 kq l0 a1 x6_1 (l0.length:Int) x15_1=some (r1,r2))∧Aside0 (kq≤k)∧Aside0 (Kd.R (Kd.int .i64) 3 w' w.heap.size (fun _=>True) v6 x6_1)∧Aside0 (Below w.heap.size w w'))
  case atStart=>exact⟨(y499),(0),(by first | rfl|(simp;done)|(simp[*];done)),H',⟨Nat.le_refl _⟩,⟨(a0_ HO501.out)⟩,⟨a1_⟩⟩
  case round=>
   clear H';(try clear c2);(try clear p2);(try clear c4);obtain⟨x6_1,x15_1,rfl,HA,HK1,HO_6,HB⟩:=hrel;cases gk with
   | zero=>exact absurd HA.out (by simp[impl_CopiesOf.l0])
   | succ k1=>
    (have H:=HA.out);clear HA;simp only[impl_CopiesOf.l0]at H;by_cases c8:x15_1<(l0.length:Int)
    ·rw[if_pos c8]at H;(have c8b0:decide (x15_1<(l0.length:Int))=true:=decide_eq_true c8);clear c8;by_cases c9:x15_1=a1
     ·rw[if_pos c9]at H;(have c9b0:(x15_1 == a1)=true:=beq_iff_eq.mpr c9);(have c9b1:(x15_1 != a1)=false:=bne_eq_false_iff_eq.mpr c9);clear c9;(have H':=am_ H);clear H;go_wp2;(go_roundg k1)
      case measure=>have:=HK1.out;omega
      case rel=>exact⟨(x6_1),(wrap64 (x15_1+1)),(by first | rfl|(simp;done)|(simp[*];done)),H',⟨by have:=HK1.out;omega⟩,⟨(a0_ HO_6.out)⟩,⟨a1_⟩⟩
     ·rw[if_neg c9]at H;(have c9b0:(x15_1 == a1)=false:=beq_eq_false_iff_ne.mpr c9);(have c9b1:(x15_1 != a1)=true:=bne_iff_ne.mpr c9);obtain⟨t502,A10,H⟩:=bo_ H;(try dsimp only at H);obtain⟨t505,A11,H⟩:=bo_ H;(try dsimp only at H);by_cases c12:t505=true
      ·subst c12;(replace H:(if x6_1.length<17592186044416 then(impl_CopiesOf.l0 k1 l0 a1 (x6_1 ++ [x15_1]) (l0.length:Int) (wrap64 (x15_1+1))) else(none))=some (r1,r2):=by rw[if_pos rfl]at H;exact H);by_cases c13:x6_1.length<17592186044416
       ·rw[if_pos c13]at H;(have LMc13:=am_ c13);clear c13;(obtain⟨y506,hy506⟩:∃y_:List Int,y_=(x6_1 ++ [x15_1]):=⟨_,rfl⟩);(replace H:(impl_CopiesOf.l0 k1 l0 a1 y506 (l0.length:Int) (wrap64 (x15_1+1)))=some (r1,r2):=by first|(rw[hy506];with_reducible exact H)|(have H2_:=(Option.bind_some _ _).symm.trans H;rw[hy506];with_reducible exact H2_)|(have H2_:=(Option.bind_some _ _).symm.trans H;with_reducible exact H2_) | with_reducible exact H|(rw[hy506];exact H)|exact H);(have Ny506:=am_ hy506);clear hy506;(have H':=am_ H);clear H;(go_wp2_with (first|(go_at_call 34;(with_reducible refine(impl_provenanceOf.calls k1 _ _ l0 x15_1 t502 _ ?side1 ?side2 A10.out).mono ?_);(case side1=>exact(a18_ HR0.out));(case side2=>exact HC0.out);rintro e w14 ⟨v503,rfl,ho0,hb⟩;have HO504:=am_ (Kd.R_lower (Kd.R_new' ho0 (Kd.R_lt ((a0_ HO_6.out)))) (below_size (a1_)));replace HO_6:=am_ (Kd.R_elder' ((a0_ HO_6.out)) (Kd.R_base ho0) hb);replace HB:=am_ (below_step (a1_) hb);(try clear hb);(try clear hb2);(try clear hk);(try clear hi);(try clear ho0);obtain⟨Ao15,co15,eo15⟩:=Kd.R_slice HO504.out;subst eo15)|(go_at_call 42;(with_reducible refine(slices_Contains_int_int.calls k1 _ _ t502 a1 true _ ?side1 ?side2 A11.out).mono ?_);(case side1=>exact(a7_ HO504.out));(case side2=>exact(Kd.R_reads' HO504.out).2.1);rintro e w' ⟨rfl,⟨nd,rfl⟩⟩)|((with_reducible refine gate_builtin (b:= .append) (xs:= #[.tmp 28, .tmp 30]) rfl ?_);at_builtin;refine Kd.R_append (Kd.int .i64) (w0:=w) w.heap.size rfl (.tmp 28) (.tmp 30) 27 3 (.int .i64 0) 8 rfl Tryz.underlying27 info3 rfl (by decide) (by omega) u6 x6_1 x15_1 [.int .i64 x15_1] (fun k_=>some k_≠(.slice Ao15 t502.length co15:Value).ownBlock) (fun _=>False) rfl rfl ?aP (fun _ hk=>hk.elim) ?aF ?aO ?aB ?aS ?aL ?_;(case aP=>exact rfl);(case aB=>exact(a1_));(case aF=>exact(fun k_ hk=>Kd.fresh' (Kd.R_lt ((a0_ HO504.out))) k_ hk));(case aO=>exact((a21_ HO_6.out)));(case aS=>exact(below_size (a1_)));(case aL=>have:=LMc13.out;omega);intro v507 w16 ho hb hg hat;rw[← Ny506.out]at ho;have n0_:=am_ (Kd.R_after (ok:=(fun _=>True)) ((a0_ HO504.out)) hg hat);have n1_:=am_ (hb);have n2_:=am_ (ho);clear HO504 HB HO_6;have HO504:=n0_;have HB:=n1_;have HO508:=n2_;clear n0_ n1_ n2_ ho hb hg hat)));(go_roundg k1)
        case measure=>have:=HK1.out;omega
        case rel=>exact⟨(y506),(wrap64 (x15_1+1)),(by first | rfl|(simp;done)|(simp[*];done)),H',⟨by have:=HK1.out;omega⟩,⟨(a23_ HO508.out)⟩,⟨a1_⟩⟩
       (focus rw[if_neg c13]at H;exact absurd H (by simp))
      ·replace c12:=Bool.eq_false_iff.mpr c12;subst c12;(replace H:(impl_CopiesOf.l0 k1 l0 a1 x6_1 (l0.length:Int) (wrap64 (x15_1+1)))=some (r1,r2):=by rw[if_neg (show ¬(false=true) by decide)]at H;exact H);(have H':=am_ H);clear H;(go_wp2_with (first|(go_at_call 34;(with_reducible refine(impl_provenanceOf.calls k1 _ _ l0 x15_1 t502 _ ?side1 ?side2 A10.out).mono ?_);(case side1=>exact(a18_ HR0.out));(case side2=>exact HC0.out);rintro e w17 ⟨v503,rfl,ho0,hb⟩;have HO504:=am_ (Kd.R_lower (Kd.R_new' ho0 (Kd.R_lt ((a0_ HO_6.out)))) (below_size (a1_)));replace HO_6:=am_ (Kd.R_elder' ((a0_ HO_6.out)) (Kd.R_base ho0) hb);replace HB:=am_ (below_step (a1_) hb);(try clear hb);(try clear hb2);(try clear hk);(try clear hi);(try clear ho0);obtain⟨Ao18,co18,eo18⟩:=Kd.R_slice HO504.out;subst eo18)|(go_at_call 42;(with_reducible refine(slices_Contains_int_int.calls k1 _ _ t502 a1 false _ ?side1 ?side2 A11.out).mono ?_);(case side1=>exact(a7_ HO504.out));(case side2=>exact(Kd.R_reads' HO504.out).2.1);rintro e w' ⟨rfl,⟨nd,rfl⟩⟩)));(go_roundg k1)
       case measure=>have:=HK1.out;omega
       case rel=>exact⟨(x6_1),(wrap64 (x15_1+1)),(by first | rfl|(simp;done)|(simp[*];done)),H',⟨by have:=HK1.out;omega⟩,⟨(a23_ HO_6.out)⟩,⟨a1_⟩⟩
    (focus rw[if_neg c8]at H;(have c8b0:decide (x15_1<(l0.length:Int))=false:=decide_eq_false c8);clear c8;simp only[Option.some.injEq,Prod.mk.injEq]at H;obtain⟨rfl,rfl⟩:=H;go_wp2;go_ret2;exact⟨_,a10_,(a0_ HO_6.out),a1_⟩)
 (focus replace c4:=Bool.eq_false_iff.mpr c4;subst c4;(replace H:(some (([]:List Int),false))=some (r1,r2):=by rw[if_neg (show ¬(false=true) by decide)]at H;exact H);simp only[Option.some.injEq,Prod.mk.injEq]at H;obtain⟨rfl,rfl⟩:=H;(go_enter Tryz.func26,Tryz.ntmps26);(go_wp2_with (first|((with_reducible refine gate_callee (f:=41) rfl ?_);refine goesL_ (some 10) rfl rfl Tryz.func41 (by kernel_rfl) rfl #[.slice A0 l0.length c0, .int .i64 a1] rfl gd_ ?_;(with_reducible refine(impl_isRoll.calls k _ _ l0 a1 false _ ?side1 ?side2 A3.out).mono ?_);(case side1=>exact(a15_ HR0.out));(case side2=>exact HC0.out);rintro e w19 ⟨rfl,hb⟩;refine⟨_,rfl,?_⟩;replace HB:=am_ (below_step (a1_) hb);(try clear hb);(try clear hb2);(try clear hk);(try clear hi))));go_ret2;exact⟨_,a10_,a17_,a1_⟩)

end Go.Proofs.YtkkmeccdjpibmaaGreatDoor.QFnCatalogue
