/- Written by a program of this session (the kit's printer, with leaf contracts proved by hand put in): what each Go function computes, and that the call computes it. No condition but those that each theorem names. -/
import Derived.Test.YtkkmeccdjpibmaaGreatDoorQFnCataloguex0
import Derived.Test.YtkkmeccdjpibmaaGreatDoorQFnCataloguex12
namespace Go.Proofs.YtkkmeccdjpibmaaGreatDoor.QFnCatalogue
open Go.RowKit Go.Proofs.YtkkmeccdjpibmaaGreatDoorW.PrintWords Go.Proofs.YtkkmeccdjpibmaaGreatDoorW.PrintLast Go.Proofs.YtkkmeccdjpibmaaGreatDoorW.PrintMore
attribute [local go_sem] max2_int min2_int max_two min_two max_three min_three max_four min_four   -- for this text's walks alone
set_option linter.unusedVariables false
set_option linter.unusedSimpArgs false

/-! ### stringslite_HasSuffix: function 76 -/
def stringslite_HasSuffix.f (a0:ByteArray) (a1:ByteArray):Option (Bool):=if(a0.size:Int)≥(a1.size:Int) then(if 0≤(wrap64 ((a0.size:Int)-(a1.size:Int))) then(if(wrap64 ((a0.size:Int)-(a1.size:Int)))≤(a0.size:Int) then(some ((a0.extract ((wrap64 ((a0.size:Int)-(a1.size:Int))):Int).toNat a0.size).toList == a1.toList)) else(none)) else(none)) else(some false)
set_option maxHeartbeats 8000000 in
set_option maxRecDepth 100000 in
theorem stringslite_HasSuffix.calls (a0:ByteArray) (a1:ByteArray) (r:Bool) (w:World) (h:stringslite_HasSuffix.f a0 a1=some r) :
 Calls Tryz.prog 76 #[.string a0, .string a1] w fun e w'=>e = .returned (.bool r)∧Drawn0 w w':=by
 (have H:(if(a0.size:Int)≥(a1.size:Int) then(if 0≤(wrap64 ((a0.size:Int)-(a1.size:Int))) then(if(wrap64 ((a0.size:Int)-(a1.size:Int)))≤(a0.size:Int) then(some ((a0.extract ((wrap64 ((a0.size:Int)-(a1.size:Int))):Int).toNat a0.size).toList == a1.toList)) else(none)) else(none)) else(some false))=some r:=h);clear h;by_cases c3:(a0.size:Int)≥(a1.size:Int);(focus rw[if_pos c3]at H;(have c3b0:decide ((a1.size:Int)≤(a0.size:Int))=true:=decide_eq_true c3);(have c3b1:decide (a1.size≤a0.size)=true:=decide_eq_true (Int.ofNat_le.mp c3));clear c3;(obtain⟨ji4,hji4⟩:∃j_:Int,(wrap64 ((a0.size:Int)-(a1.size:Int)))=j_:=⟨_,rfl⟩);(replace H:(if 0≤(ji4) then(if(ji4)≤(a0.size:Int) then(some ((a0.extract ((ji4):Int).toNat a0.size).toList == a1.toList)) else(none)) else(none))=some r:=by first|(rw[hji4]at H;exact H)|(simp only[hji4]at H ⊢;exact H));(have hji4w:(IntKind.i64.wrap ((a0.size:Int)-(a1.size:Int)))=ji4:=(i64_w _).trans hji4);by_cases c5:0≤(ji4);(focus rw[if_pos c5]at H;(have c5b0:=eq_true c5);(have c5b1:decide (0≤(ji4))=true:=decide_eq_true c5);clear c5;by_cases c6:(ji4)≤(a0.size:Int);(focus rw[if_pos c6]at H;(have c6b0:=eq_true c6);(have c6b1:decide ((ji4)≤(a0.size:Int))=true:=decide_eq_true c6);clear c6;obtain rfl:=Option.some.inj H;(go_enter Tryz.func76,Tryz.ntmps76);go_wp2;go_ret;exact⟨by first | rfl|(simp;done)|(simp only[← hji4]<;>(first|rfl | simp))|(simp[*];done),a19_⟩);(focus rw[if_neg c6]at H;exact absurd H (by simp)));(focus rw[if_neg c5]at H;exact absurd H (by simp)));(focus rw[if_neg c3]at H;(have c3b0:decide ((a1.size:Int)≤(a0.size:Int))=false:=decide_eq_false c3);(have c3b1:decide (a1.size≤a0.size)=false:=decide_eq_false (fun h=>c3 (Int.ofNat_le.mpr h)));clear c3;obtain rfl:=Option.some.inj H;(go_enter Tryz.func76,Tryz.ntmps76);go_wp2;go_ret;exact⟨by first | rfl|(simp;done)|(simp[*];done),a19_⟩)

/-! ### strings_HasSuffix: function 68 -/
def strings_HasSuffix.f (a0:ByteArray) (a1:ByteArray):Option (Bool):=(stringslite_HasSuffix.f a0 a1).bind fun t415=>(some t415)
set_option maxHeartbeats 8000000 in
set_option maxRecDepth 100000 in
theorem strings_HasSuffix.calls (a0:ByteArray) (a1:ByteArray) (r:Bool) (w:World) (h:strings_HasSuffix.f a0 a1=some r) :
 Calls Tryz.prog 68 #[.string a0, .string a1] w fun e w'=>e = .returned (.bool r)∧Drawn0 w w':=by
 (have H:((stringslite_HasSuffix.f a0 a1).bind fun t415=>(some t415))=some r:=h);clear h;obtain⟨t415,A3,H⟩:=bo_ H;(try dsimp only at H);obtain rfl:=Option.some.inj H;(go_enter Tryz.func68,Tryz.ntmps68);(go_wp2_with (first|((with_reducible refine gate_callee (f:=76) rfl ?_);refine goesL_ (some 7) rfl rfl Tryz.func76 (by kernel_rfl) rfl #[.string a0, .string a1] rfl gd_ ?_;(with_reducible refine(stringslite_HasSuffix.calls a0 a1 t415 _ A3.out).mono ?_);rintro e w' ⟨rfl,⟨nd,rfl⟩⟩;refine⟨_,rfl,?_⟩)));go_ret;exact⟨by first | rfl|(simp;done)|(simp[*];done),a19_⟩

/-! ### impl_textLines: function 48 -/
def impl_textLines.f (a0:ByteArray):Option (List ByteArray×Bool):=if a0.toList=([]:List UInt8) then(some (([]:List ByteArray),true)) else((strings_HasSuffix.f a0 (⟨#[10]⟩:ByteArray)).bind fun t416=>(if t416=true then(if 0≤(wrap64 ((a0.size:Int)-1)) then(if(wrap64 ((a0.size:Int)-1))≤(a0.size:Int) then((strings_Split.f (a0.extract 0 ((wrap64 ((a0.size:Int)-1)):Int).toNat) (⟨#[10]⟩:ByteArray)).bind fun t417=>(some (t417,true))) else(none)) else(none)) else(some (([]:List ByteArray),false))))
set_option maxHeartbeats 8000000 in
set_option maxRecDepth 100000 in
theorem impl_textLines.calls (a0:ByteArray) (r1:List ByteArray) (r2:Bool) (w:World) (h:impl_textLines.f a0=some (r1,r2)) :
 Calls Tryz.prog 48 #[.string a0] w fun e w'=>∃v0_:Value,e = .returned (.tuple #[v0_, .bool r2])∧Kd.R Kd.string 9 w' w.heap.size (fun _=>True) v0_ r1∧Below w.heap.size w w':=by
 (have HB:=am_ (Below.refl w.heap.size w));(have H:(if a0.toList=([]:List UInt8) then(some (([]:List ByteArray),true)) else((strings_HasSuffix.f a0 (⟨#[10]⟩:ByteArray)).bind fun t416=>(if t416=true then(if 0≤(wrap64 ((a0.size:Int)-1)) then(if(wrap64 ((a0.size:Int)-1))≤(a0.size:Int) then((strings_Split.f (a0.extract 0 ((wrap64 ((a0.size:Int)-1)):Int).toNat) (⟨#[10]⟩:ByteArray)).bind fun t417=>(some (t417,true))) else(none)) else(none)) else(some (([]:List ByteArray),false)))))=some (r1,r2):=h);clear h;by_cases c2:a0.toList=([]:List UInt8);(focus rw[if_pos c2]at H;(have c2b0:(a0.toList == ([]:List UInt8))=true:=beq_iff_eq.mpr c2);(have c2b1:(a0.toList != ([]:List UInt8))=false:=bne_eq_false_iff_eq.mpr c2);clear c2;simp only[Option.some.injEq,Prod.mk.injEq]at H;obtain⟨rfl,rfl⟩:=H;(go_enter Tryz.func48,Tryz.ntmps48);go_wp2;go_ret2;exact⟨_,a10_,a17_,a1_⟩);(focus rw[if_neg c2]at H;(have c2b0:(a0.toList == ([]:List UInt8))=false:=beq_eq_false_iff_ne.mpr c2);(have c2b1:(a0.toList != ([]:List UInt8))=true:=bne_iff_ne.mpr c2);obtain⟨t416,A3,H⟩:=bo_ H;(try dsimp only at H);by_cases c4:t416=true;(focus subst c4;(replace H:(if 0≤(wrap64 ((a0.size:Int)-1)) then(if(wrap64 ((a0.size:Int)-1))≤(a0.size:Int) then((strings_Split.f (a0.extract 0 ((wrap64 ((a0.size:Int)-1)):Int).toNat) (⟨#[10]⟩:ByteArray)).bind fun t417=>(some (t417,true))) else(none)) else(none))=some (r1,r2):=by rw[if_pos rfl]at H;exact H);(obtain⟨ji5,hji5⟩:∃j_:Int,(wrap64 ((a0.size:Int)-1))=j_:=⟨_,rfl⟩);(replace H:(if 0≤(ji5) then(if(ji5)≤(a0.size:Int) then((strings_Split.f (a0.extract 0 ((ji5):Int).toNat) (⟨#[10]⟩:ByteArray)).bind fun t417=>(some (t417,true))) else(none)) else(none))=some (r1,r2):=by first|(rw[hji5]at H;exact H)|(simp only[hji5]at H ⊢;exact H));(try rw[hji5]at A3);(have hji5w:(IntKind.i64.wrap ((a0.size:Int)-1))=ji5:=(i64_w _).trans hji5);by_cases c6:0≤(ji5);(focus rw[if_pos c6]at H;(have c6b0:=eq_true c6);(have c6b1:decide (0≤(ji5))=true:=decide_eq_true c6);clear c6;by_cases c7:(ji5)≤(a0.size:Int);(focus rw[if_pos c7]at H;(have c7b0:=eq_true c7);(have c7b1:decide ((ji5)≤(a0.size:Int))=true:=decide_eq_true c7);clear c7;obtain⟨t417,A8,H⟩:=bo_ H;(try dsimp only at H);simp only[Option.some.injEq,Prod.mk.injEq]at H;obtain⟨rfl,rfl⟩:=H;(go_enter Tryz.func48,Tryz.ntmps48);(go_wp2_with (first|((with_reducible refine gate_callee (f:=68) rfl ?_);refine goesL_ (some 7) rfl rfl Tryz.func68 (by kernel_rfl) rfl #[.string a0, .string (⟨#[10]⟩:ByteArray)] rfl gd_ ?_;(with_reducible refine(strings_HasSuffix.calls a0 (⟨#[10]⟩:ByteArray) true _ A3.out).mono ?_);rintro e w' ⟨rfl,⟨nd,rfl⟩⟩;refine⟨_,rfl,?_⟩)|((with_reducible refine gate_callee (f:=49) rfl ?_);refine goesL_ (some 14) rfl rfl Tryz.func49 (by kernel_rfl) rfl #[.string (a0.extract 0 ((ji5):Int).toNat), .string (⟨#[10]⟩:ByteArray)] rfl (by(try simp only[List.map_toArray,List.map_cons,List.map_nil]);first | done|(simp only[hji5];rfl) | rfl|(simp only[List.length_drop,List.length_take];rfl)) ?_;(with_reducible refine(strings_Split.calls (a0.extract 0 ((ji5):Int).toNat) (⟨#[10]⟩:ByteArray) t417 _ A8.out).mono ?_);rintro e w9 ⟨v418,rfl,ho0,hb⟩;refine⟨_,rfl,?_⟩;have HO419:=am_ (Kd.R_lower ho0 (below_size (a1_)));replace HB:=am_ (below_step (a1_) hb);(try clear hb);(try clear hb2);(try clear hk);(try clear hi);(try clear ho0))));go_ret2;exact⟨_,by first | rfl|(simp[errW_none,errW_some]<;>rfl)|(simp only[← hji5];first | rfl|(simp[errW_none,errW_some]<;>rfl))|(simp[*,errW_none,errW_some]<;>rfl),(a0_ HO419.out),a1_⟩);(focus rw[if_neg c7]at H;exact absurd H (by simp)));(focus rw[if_neg c6]at H;exact absurd H (by simp)));(focus replace c4:=Bool.eq_false_iff.mpr c4;subst c4;(replace H:(some (([]:List ByteArray),false))=some (r1,r2):=by rw[if_neg (show ¬(false=true) by decide)]at H;exact H);simp only[Option.some.injEq,Prod.mk.injEq]at H;obtain⟨rfl,rfl⟩:=H;(go_enter Tryz.func48,Tryz.ntmps48);(go_wp2_with (first|((with_reducible refine gate_callee (f:=68) rfl ?_);refine goesL_ (some 7) rfl rfl Tryz.func68 (by kernel_rfl) rfl #[.string a0, .string (⟨#[10]⟩:ByteArray)] rfl gd_ ?_;(with_reducible refine(strings_HasSuffix.calls a0 (⟨#[10]⟩:ByteArray) false _ A3.out).mono ?_);rintro e w' ⟨rfl,⟨nd,rfl⟩⟩;refine⟨_,rfl,?_⟩)));go_ret2;exact⟨_,a10_,a17_,a1_⟩))

/-! ### impl_decimal: function 50 -/
mutual
def impl_decimal.j0:Nat→ByteArray→Bool→Option (Int×Bool)
 | 0,_,_=>none
 | k+1,x0,x22=>if x22=true then(some (0,false)) else(impl_decimal.l0 k x0 0 0)
def impl_decimal.l0:Nat→ByteArray→Int→Int→Option (Int×Bool)
 | 0,_,_,_=>none
 | k+1,x0,x4,x5=>if x5<(x0.size:Int) then(if 0≤x5 then(if(bt x0 x5)<48 then(some (0,false)) else(if(bt x0 x5)>57 then(some (0,false)) else(impl_decimal.l0 k x0 (wrap64 ((wrap64 (10*x4))+(((bt x0 x5)-48) % 256))) (wrap64 (x5+1))))) else(none)) else(some (x4,true))
end
def impl_decimal.f (k:Nat) (a0:ByteArray):Option (Int×Bool):=if a0.toList=([]:List UInt8) then(impl_decimal.j0 k a0 true) else(if(a0.size:Int)>9 then(impl_decimal.j0 k a0 true) else(if 0<(a0.size:Int) then(if(bt a0 0)=48 then(impl_decimal.j0 k a0 (decide ((a0.size:Int)>1))) else(impl_decimal.j0 k a0 false)) else(none)))
theorem impl_decimal.mono_l:∀k,(∀y0 y1,LeO (impl_decimal.j0 k y0 y1) (impl_decimal.j0 (k+1) y0 y1))∧(∀y0 y1 y2,LeO (impl_decimal.l0 k y0 y1 y2) (impl_decimal.l0 (k+1) y0 y1 y2))
 | 0=>⟨fun _ _ r h=>by simp[impl_decimal.j0]at h,fun _ _ _ r h=>by simp[impl_decimal.l0]at h⟩
 | k+1=>by
  obtain⟨ih0,ih1⟩:=impl_decimal.mono_l k
  refine⟨?_,?_⟩
  intros
  unfold impl_decimal.j0
  rotate_left
  intros
  unfold impl_decimal.l0
  rotate_left
  all_goals repeat' first|(with_reducible first|exact ih0 _ _|exact ih1 _ _ _|exact LeO.refl _|exact LeO.none _|refine LeO.ite ?_ ?_|refine LeO.bind ?_ (fun _=>?_))|exact ih0 _ _|exact ih1 _ _ _|exact LeO.none _|refine LeO.ite ?_ ?_|refine LeO.bind ?_ (fun _=>?_)
theorem impl_decimal.mono:∀a0 k,LeO (impl_decimal.f k a0) (impl_decimal.f (k+1) a0):=by
 intro a0 k;obtain⟨ih0,ih1⟩:=impl_decimal.mono_l k;unfold impl_decimal.f
 repeat' first
  |(with_reducible exact ih0 _ _)
  |(with_reducible exact ih1 _ _ _)
  |(with_reducible exact LeO.refl _)
  |(with_reducible exact LeO.none _)
  |(with_reducible refine LeO.ite ?_ ?_)
  |(with_reducible refine LeO.bind ?_ (fun _=>?_))
  |exact ih0 _ _
  |exact ih1 _ _ _
  |exact LeO.none _
   | refine LeO.ite ?_ ?_
   | refine LeO.bind ?_ (fun _=>?_)
set_option maxHeartbeats 8000000 in
set_option maxRecDepth 100000 in
theorem impl_decimal.calls (k:Nat) (a0:ByteArray) (r1:Int) (r2:Bool) (w:World) (h:impl_decimal.f k a0=some (r1,r2)) :
 Calls Tryz.prog 50 #[.string a0] w fun e w'=>e = .returned (.tuple #[.int .i64 r1, .bool r2])∧Drawn0 w w':=by
 (have H:(if a0.toList=([]:List UInt8) then(impl_decimal.j0 k a0 true) else(if(a0.size:Int)>9 then(impl_decimal.j0 k a0 true) else(if 0<(a0.size:Int) then(if(bt a0 0)=48 then(impl_decimal.j0 k a0 (decide ((a0.size:Int)>1))) else(impl_decimal.j0 k a0 false)) else(none))))=some (r1,r2):=h);clear h;(have HC2:=am_ H);clear H;(go_enter Tryz.func50,Tryz.ntmps50);(go_upto_region 1 with (fail));(go_cut [22] (fun v22 wc=>∃(kq:Nat) (x22_1:Bool),v22 = .bool x22_1∧Aside0 (impl_decimal.j0 kq a0 x22_1=some (r1,r2))∧Aside0 (kq≤k)∧Drawn0 w wc))
 case first=>
  (have H:=HC2.out);clear HC2;by_cases c3:a0.toList=([]:List UInt8)
  ·rw[if_pos c3]at H;(have c3b0:(a0.toList == ([]:List UInt8))=true:=beq_iff_eq.mpr c3);(have c3b1:(a0.toList != ([]:List UInt8))=false:=bne_eq_false_iff_eq.mpr c3);clear c3;(first|rw[c3b0]|(simp only[i64_w,i32_w];rw[c3b0]) | skip);(have H':=am_ H);clear H;go_wp2;go_meet
   case rel=>exact⟨_,(true),(by first | rfl|(simp;done)|(simp[*];done)),H',⟨by first | omega|exact Nat.le_refl _⟩,a19_⟩
  ·rw[if_neg c3]at H;(have c3b0:(a0.toList == ([]:List UInt8))=false:=beq_eq_false_iff_ne.mpr c3);(have c3b1:(a0.toList != ([]:List UInt8))=true:=bne_iff_ne.mpr c3);(first|rw[c3b0]|(simp only[i64_w,i32_w];rw[c3b0]) | skip);by_cases c4:(a0.size:Int)>9
   ·rw[if_pos c4]at H;(have c4b0:decide (9<(a0.size:Int))=true:=decide_eq_true c4);(have c4b1:decide (9<a0.size)=true:=decide_eq_true (by omega));clear c4;(have H':=am_ H);clear H;go_wp2;go_meet
    case rel=>exact⟨_,(true),(by first | rfl|(simp;done)|(simp[*];done)),H',⟨by first | omega|exact Nat.le_refl _⟩,a19_⟩
   ·rw[if_neg c4]at H;(have c4b0:decide (9<(a0.size:Int))=false:=decide_eq_false c4);(have c4b1:decide (9<a0.size)=false:=decide_eq_false (by omega));clear c4;by_cases c5:0<(a0.size:Int)
    ·rw[if_pos c5]at H;(have c5b0:decide (0<(a0.size:Int))=true:=decide_eq_true c5);(have c5b1:decide (0<a0.size)=true:=decide_eq_true (by omega));clear c5;by_cases c7:(bt a0 0)=48
     ·rw[if_pos c7]at H;(have c7b0:((bt a0 0) == 48)=true:=beq_iff_eq.mpr c7);(have c7b1:((bt a0 0) != 48)=false:=bne_eq_false_iff_eq.mpr c7);clear c7;(have H':=am_ H);clear H;(have p6:0≤(0:Int):=(by omega));(have q6:0<a0.size:=(by have:(0:Int)<(a0.size:Int):=of_decide_eq_true (a6_);omega));(have hx6:∀h:0<a0.size,((a0[0]'h).toNat:Int)=bt a0 0:=bt_at a0 0);clear p6;(have qi6:(0<(a0.size:Int))=True:=eq_true (of_decide_eq_true (a6_)));replace q6:=eq_true q6;go_wp2;go_meet
      case rel=>exact⟨_,(decide ((a0.size:Int)>1)),(by first | rfl|(simp;done)|(simp[*];done)),H',⟨by first | omega|exact Nat.le_refl _⟩,a19_⟩
     ·rw[if_neg c7]at H;(have c7b0:((bt a0 0) == 48)=false:=beq_eq_false_iff_ne.mpr c7);(have c7b1:((bt a0 0) != 48)=true:=bne_iff_ne.mpr c7);(have H':=am_ H);clear H;(have p6:0≤(0:Int):=(by omega));(have q6:0<a0.size:=(by have:(0:Int)<(a0.size:Int):=of_decide_eq_true (a6_);omega));(have hx6:∀h:0<a0.size,((a0[0]'h).toNat:Int)=bt a0 0:=bt_at a0 0);clear p6;(have qi6:(0<(a0.size:Int))=True:=eq_true (of_decide_eq_true (a6_)));replace q6:=eq_true q6;go_wp2;go_meet
      case rel=>exact⟨_,(false),(by first | rfl|(simp;done)|(simp[*];done)),H',⟨by first | omega|exact Nat.le_refl _⟩,a19_⟩
    (focus rw[if_neg c5]at H;exact absurd H (by simp))
 case rest=>
  clear HC2;(try clear p2);(try clear c3);(try clear c3b0);(try clear c3b1);(try clear c4);(try clear c4b0);(try clear c4b1);(try clear c5);(try clear c5b0);(try clear c5b1);(try clear p6);(try clear q6);(try clear hx6);(try clear qi6);(try clear c7);(try clear c7b0);(try clear c7b1);(try clear p6);(try clear q6);obtain⟨kq,x22_1,rfl,HA,HJ1,⟨mc1,rfl⟩⟩:=hcut;cases kq with
  | zero=>exact absurd HA.out (by simp[impl_decimal.j0])
  | succ kj1=>
   (have H:=HA.out);clear HA;simp only[impl_decimal.j0]at H;by_cases c8:x22_1=true;(focus subst c8;(replace H:(some (0,false))=some (r1,r2):=by rw[if_pos rfl]at H;exact H);simp only[Option.some.injEq,Prod.mk.injEq]at H;obtain⟨rfl,rfl⟩:=H;go_wp2;go_ret2;exact⟨by first | rfl|(simp;done)|(simp[*];done),a19_⟩)
   ·replace c8:=Bool.eq_false_iff.mpr c8;subst c8;(replace H:(impl_decimal.l0 kj1 a0 0 0)=some (r1,r2):=by rw[if_neg (show ¬(false=true) by decide)]at H;exact H);(have H':=am_ H);clear H;go_wp2;(try simp only[Act.put,List.setIfInBounds_toArray,List.set_cons_zero,List.set_cons_succ])
    go_loopg [4,5] kj1 (fun kq v4 v5 w'=>∃(x4_2:Int) (x5_2:Int),v4 = .int .i64 x4_2∧v5 = .int .i64 x5_2∧Aside0 (impl_decimal.l0 kq a0 x4_2 x5_2=some (r1,r2))∧Aside0 (kq≤kj1)∧Drawn0 w w')
    case atStart=>exact⟨(0),(0),(by first | rfl|(simp;done)|(simp[*];done)),(by first | rfl|(simp;done)|(simp[*];done)),H',⟨Nat.le_refl _⟩,a19_⟩
    case round=>
     clear H';(try clear c1);(try clear p2);(try clear c3);(try clear c3b0);(try clear c3b1);(try clear c4);(try clear c4b0);(try clear c4b1);(try clear c5);(try clear c5b0);(try clear c5b1);(try clear p6);(try clear q6);(try clear hx6);(try clear qi6);(try clear c7);(try clear c7b0);(try clear c7b1);(try clear c8);(try clear p2);(try clear p6);(try clear q6);obtain⟨x4_2,x5_2,rfl,rfl,HA,HK2,⟨m2,rfl⟩⟩:=hrel;cases gk with
     | zero=>exact absurd HA.out (by simp[impl_decimal.l0])
     | succ k2=>
      (have H:=HA.out);clear HA;simp only[impl_decimal.l0]at H;by_cases c9:x5_2<(a0.size:Int)
      ·rw[if_pos c9]at H;(have c9b0:decide (x5_2<(a0.size:Int))=true:=decide_eq_true c9);clear c9;by_cases c10:0≤x5_2
       ·rw[if_pos c10]at H;(have c10b0:decide (0≤x5_2)=true:=decide_eq_true c10);clear c10;by_cases c12:(bt a0 x5_2)<48;(focus rw[if_pos c12]at H;(have c12b0:decide ((bt a0 x5_2)<48)=true:=decide_eq_true c12);clear c12;simp only[Option.some.injEq,Prod.mk.injEq]at H;obtain⟨rfl,rfl⟩:=H;(have p11:0≤(x5_2:Int):=of_decide_eq_true (a6_));(have q11:x5_2<(a0.size:Int):=of_decide_eq_true (a6_));(have hx11:=bt_at a0 x5_2);replace p11:=eq_true p11;replace q11:=eq_true q11;go_wp2;go_ret2;exact⟨by first | rfl|(simp;done)|(simp[*];done),a19_⟩)
        ·rw[if_neg c12]at H;(have c12b0:decide ((bt a0 x5_2)<48)=false:=decide_eq_false c12);clear c12;by_cases c14:(bt a0 x5_2)>57;(focus rw[if_pos c14]at H;(have c14b0:decide (57<(bt a0 x5_2))=true:=decide_eq_true c14);clear c14;simp only[Option.some.injEq,Prod.mk.injEq]at H;obtain⟨rfl,rfl⟩:=H;(have p11:0≤(x5_2:Int):=of_decide_eq_true (a6_));(have q11:x5_2<(a0.size:Int):=of_decide_eq_true (a6_));(have hx11:=bt_at a0 x5_2);replace p11:=eq_true p11;replace q11:=eq_true q11;(have p13:0≤(x5_2:Int):=of_decide_eq_true (a6_));(have q13:x5_2<(a0.size:Int):=of_decide_eq_true (a6_));(have hx13:=bt_at a0 x5_2);replace p13:=eq_true p13;replace q13:=eq_true q13;go_wp2;go_ret2;exact⟨by first | rfl|(simp;done)|(simp[*];done),a19_⟩)
         ·rw[if_neg c14]at H;(have c14b0:decide (57<(bt a0 x5_2))=false:=decide_eq_false c14);clear c14;(have H':=am_ H);clear H;(have p11:0≤(x5_2:Int):=of_decide_eq_true (a6_));(have q11:x5_2<(a0.size:Int):=of_decide_eq_true (a6_));(have hx11:=bt_at a0 x5_2);replace p11:=eq_true p11;replace q11:=eq_true q11;(have p13:0≤(x5_2:Int):=of_decide_eq_true (a6_));(have q13:x5_2<(a0.size:Int):=of_decide_eq_true (a6_));(have hx13:=bt_at a0 x5_2);replace p13:=eq_true p13;replace q13:=eq_true q13;(have p15:0≤(x5_2:Int):=of_decide_eq_true (a6_));(have q15:x5_2<(a0.size:Int):=of_decide_eq_true (a6_));(have hx15:=bt_at a0 x5_2);replace p15:=eq_true p15;replace q15:=eq_true q15;go_wp2;(go_roundg k2)
          case measure=>have:=HJ1.out;have:=HK2.out;omega
          case rel=>exact⟨(wrap64 ((wrap64 (10*x4_2))+(((bt a0 x5_2)-48) % 256))),(wrap64 (x5_2+1)),(by first | rfl|(simp;done)|(simp[*];done)),(by first | rfl|(simp;done)|(simp[*];done)),H',⟨by have:=HJ1.out;have:=HK2.out;omega⟩,a19_⟩
       (focus rw[if_neg c10]at H;exact absurd H (by simp))
      (focus rw[if_neg c9]at H;(have c9b0:decide (x5_2<(a0.size:Int))=false:=decide_eq_false c9);clear c9;simp only[Option.some.injEq,Prod.mk.injEq]at H;obtain⟨rfl,rfl⟩:=H;go_wp2;go_ret2;exact⟨by first | rfl|(simp;done)|(simp[*];done),a19_⟩)

end Go.Proofs.YtkkmeccdjpibmaaGreatDoor.QFnCatalogue
