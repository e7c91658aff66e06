/- Written by a program of this session (the kit's printer, with leaf contracts proved by hand put in): what each Go function computes, and that the call computes it. No condition but those that each theorem names. -/
import Derived.Test.YtplpjmhmochcfaaQFnCopiesx0
import Derived.Test.YtplpjmhmochcfaaQFnCopiesx2
import Derived.Test.YtplpjmhmochcfaaQFnCopiesx7
import Derived.Test.YtplpjmhmochcfaaQFnCopiesx8
import Derived.Test.YtplpjmhmochcfaaQFnCopiesx9
import Derived.Test.YtplpjmhmochcfaaQFnCopiesx10
import Derived.Test.YtplpjmhmochcfaaQFnCopiesx11
import Derived.Test.YtplpjmhmochcfaaQFnCopiesx12
import Derived.Test.YtplpjmhmochcfaaQFnCopiesx13
import Derived.Test.YtplpjmhmochcfaaQFnCopiesx14
namespace Go.Proofs.Ytplpjmhmochcfaa.QFnCopies
open Go.RowKit Go.Proofs.YtplpjmhmochcfaaW.PrintWords Go.Proofs.YtplpjmhmochcfaaW.PrintLast Go.Proofs.YtplpjmhmochcfaaW.PrintMore
attribute [local go_sem] max2_int min2_int max_two min_two max_three min_three max_four min_four   -- for this text's walks alone
set_option linter.unusedVariables false
set_option linter.unusedSimpArgs false

/-! ### laws_FnCopies: function 3 -/
mutual
def laws_FnCopies.j0:Nat→List Int→List (List (S42))→Bool→List Int→Bool→Option (Bool)
 | 0,_,_,_,_,_=>none
 | k+1,x1,x5,x7,x8,x62=>if x62=true then(some false) else(if x7=true then(if(x8.length:Int)=0 then(some false) else(if 0<(x8.length:Int) then(if 0≤(rd x8 0) then(if(rd x8 0)<(x5.length:Int) then((impl_ChecksumOf.f k (rd_L3 x5 (rd x8 0))).bind fun bt580=>(laws_FnCopies.l0 k x1 x8 bt580.1 bt580.2 x5 (x5.length:Int) 0)) else(none)) else(none)) else(none))) else(laws_FnCopies.j2 k x1))
def laws_FnCopies.j2:Nat→List Int→Option (Bool)
 | 0,_=>none
 | k+1,x1=>(spec_DrawSingleChanges.f k x1).bind fun bt586=>((impl_SingleChanges.f k bt586.1 bt586.2).bind fun bt590=>((spec_SingleChanges.f k bt586.1 bt586.2).bind fun bt594=>(if(bt590.2 != bt594.2)=true then(laws_FnCopies.j3 k x1 bt586.1 bt586.2 bt594.1 true) else((laws_pSameSheets.f k bt590.1 bt594.1).bind fun t598=>(laws_FnCopies.j3 k x1 bt586.1 bt586.2 bt594.1 (!t598))))))
def laws_FnCopies.j3:Nat→List Int→List (S42)→Int→List (List (S42))→Bool→Option (Bool)
 | 0,_,_,_,_,_=>none
 | k+1,x1,x16,x17,x20,x128=>if x128=true then(some false) else(laws_FnCopies.l1 k x1 x16 x17 x20 (x20.length:Int) 0)
def laws_FnCopies.l1:Nat→List Int→List (S42)→Int→List (List (S42))→Int→Int→Option (Bool)
 | 0,_,_,_,_,_,_=>none
 | k+1,x1,x16,x17,x129,x130,x131=>if x131<x130 then(if 0≤x131 then(if x131<(x129.length:Int) then((impl_ChecksumOf.f k (rd_L3 x129 x131)).bind fun bt600=>((impl_DistanceOf.f k x16 (rd_L3 x129 x131)).bind fun bt602=>(if bt600.2=true then(if bt600.1=x17 then(if bt602.2=true then(if bt602.1=2 then(if((rd_L3 x129 x131).length:Int)=(x16.length:Int) then((impl_IsSheet.f k (rd_L3 x129 x131)).bind fun t604=>(if t604=true then(laws_FnCopies.l1 k x1 x16 x17 x129 x130 (wrap64 (x131+1))) else(some false))) else(some false)) else(some false)) else(some false)) else(some false)) else(some false)))) else(none)) else(none)) else((spec_DrawExtendChecksum.f x1).bind fun bt605=>((impl_ExtendChecksum.f bt605.1 bt605.2.1 bt605.2.2.1 bt605.2.2.2).bind fun bt610=>((spec_ExtendChecksum.f bt605.1 bt605.2.1 bt605.2.2.1 bt605.2.2.2).bind fun bt612=>((spec_DrawHoleNumber.f x1).bind fun bt614=>((impl_HoleNumber.f bt614.1 bt614.2.1 bt614.2.2).bind fun bt618=>((spec_HoleNumber.f bt614.1 bt614.2.1 bt614.2.2).bind fun bt620=>(if(bt610.2 == bt612.2)=true then(if bt610.1=bt612.1 then(if(bt618.2 == bt620.2)=true then(some (bt618.1 == bt620.1)) else(some false)) else(some false)) else(some false))))))))
def laws_FnCopies.l0:Nat→List Int→List Int→Int→Bool→List (List (S42))→Int→Int→Option (Bool)
 | 0,_,_,_,_,_,_,_=>none
 | k+1,x1,x8,x10,x11,x77,x78,x79=>if x79<x78 then(if 0≤x79 then(if x79<(x77.length:Int) then((impl_ChecksumOf.f k (rd_L3 x77 x79)).bind fun bt583=>(if bt583.2=true then((laws_pIn.f k x8 x79).bind fun t585=>(if((bt583.1 == x10) != t585)=true then(some false) else(laws_FnCopies.l0 k x1 x8 x10 x11 x77 x78 (wrap64 (x79+1))))) else(some false))) else(none)) else(none)) else(if x11=true then(laws_FnCopies.j2 k x1) else(some false))
end
def laws_FnCopies.f (k:Nat) (l0:List Int) (l1:List Int):Option (Bool):=(laws_big.f l0 l1).bind fun t565=>(if t565=true then(some true) else((spec_DrawAgreeingCopies.f k l0).bind fun t566=>((impl_AgreeingCopies.f k t566).bind fun bt569=>((spec_AgreeingCopies.f k t566).bind fun bt573=>(if(bt569.2 != bt573.2)=true then(laws_FnCopies.j0 k l1 t566 bt569.2 bt573.1 true) else((laws_sameInts.f k bt569.1 bt573.1).bind fun t577=>(laws_FnCopies.j0 k l1 t566 bt569.2 bt573.1 (!t577))))))))
theorem laws_FnCopies.mono_l:∀k,(∀y0 y1 y2 y3 y4,LeO (laws_FnCopies.j0 k y0 y1 y2 y3 y4) (laws_FnCopies.j0 (k+1) y0 y1 y2 y3 y4))∧(∀y0,LeO (laws_FnCopies.j2 k y0) (laws_FnCopies.j2 (k+1) y0))∧(∀y0 y1 y2 y3 y4,LeO (laws_FnCopies.j3 k y0 y1 y2 y3 y4) (laws_FnCopies.j3 (k+1) y0 y1 y2 y3 y4))∧(∀y0 y1 y2 y3 y4 y5,LeO (laws_FnCopies.l1 k y0 y1 y2 y3 y4 y5) (laws_FnCopies.l1 (k+1) y0 y1 y2 y3 y4 y5))∧(∀y0 y1 y2 y3 y4 y5 y6,LeO (laws_FnCopies.l0 k y0 y1 y2 y3 y4 y5 y6) (laws_FnCopies.l0 (k+1) y0 y1 y2 y3 y4 y5 y6))
 | 0=>⟨fun _ _ _ _ _ r h=>by simp[laws_FnCopies.j0]at h,fun _ r h=>by simp[laws_FnCopies.j2]at h,fun _ _ _ _ _ r h=>by simp[laws_FnCopies.j3]at h,fun _ _ _ _ _ _ r h=>by simp[laws_FnCopies.l1]at h,fun _ _ _ _ _ _ _ r h=>by simp[laws_FnCopies.l0]at h⟩
 | k+1=>by
  obtain⟨ih0,ih1,ih2,ih3,ih4⟩:=laws_FnCopies.mono_l k
  refine⟨?_,?_,?_,?_,?_⟩
  intros
  unfold laws_FnCopies.j0
  rotate_left
  intros
  unfold laws_FnCopies.j2
  rotate_left
  intros
  unfold laws_FnCopies.j3
  rotate_left
  intros
  unfold laws_FnCopies.l1
  rotate_left
  intros
  unfold laws_FnCopies.l0
  rotate_left
  all_goals repeat' first|(with_reducible first|exact ih0 _ _ _ _ _|exact ih1 _|exact ih2 _ _ _ _ _|exact ih3 _ _ _ _ _ _|exact ih4 _ _ _ _ _ _ _|exact impl_AgreeingCopies.mono _ _|exact impl_ChecksumOf.mono _ _|exact impl_DistanceOf.mono _ _ _|exact impl_IsSheet.mono _ _|exact impl_SingleChanges.mono _ _ _|exact laws_pIn.mono _ _ _|exact laws_pSameSheets.mono _ _ _|exact laws_sameInts.mono _ _ _|exact spec_AgreeingCopies.mono _ _|exact spec_DrawAgreeingCopies.mono _ _|exact spec_DrawSingleChanges.mono _ _|exact spec_SingleChanges.mono _ _ _|exact LeO.refl _|exact LeO.none _|refine LeO.ite ?_ ?_|refine LeO.bind ?_ (fun _=>?_))|exact ih0 _ _ _ _ _|exact ih1 _|exact ih2 _ _ _ _ _|exact ih3 _ _ _ _ _ _|exact ih4 _ _ _ _ _ _ _|exact impl_AgreeingCopies.mono _ _|exact impl_ChecksumOf.mono _ _|exact impl_DistanceOf.mono _ _ _|exact impl_IsSheet.mono _ _|exact impl_SingleChanges.mono _ _ _|exact laws_pIn.mono _ _ _|exact laws_pSameSheets.mono _ _ _|exact laws_sameInts.mono _ _ _|exact spec_AgreeingCopies.mono _ _|exact spec_DrawAgreeingCopies.mono _ _|exact spec_DrawSingleChanges.mono _ _|exact spec_SingleChanges.mono _ _ _|exact LeO.none _|refine LeO.ite ?_ ?_|refine LeO.bind ?_ (fun _=>?_)
theorem laws_FnCopies.mono:∀a0 a1 k,LeO (laws_FnCopies.f k a0 a1) (laws_FnCopies.f (k+1) a0 a1):=by
 intro a0 a1 k
 obtain⟨ih0,ih1,ih2,ih3,ih4⟩:=laws_FnCopies.mono_l k
 unfold laws_FnCopies.f
 repeat' first
  |(with_reducible exact ih0 _ _ _ _ _)
  |(with_reducible exact ih1 _)
  |(with_reducible exact ih2 _ _ _ _ _)
  |(with_reducible exact ih3 _ _ _ _ _ _)
  |(with_reducible exact ih4 _ _ _ _ _ _ _)
  |(with_reducible exact impl_AgreeingCopies.mono _ _)
  |(with_reducible exact impl_ChecksumOf.mono _ _)
  |(with_reducible exact impl_DistanceOf.mono _ _ _)
  |(with_reducible exact impl_IsSheet.mono _ _)
  |(with_reducible exact impl_SingleChanges.mono _ _ _)
  |(with_reducible exact laws_pIn.mono _ _ _)
  |(with_reducible exact laws_pSameSheets.mono _ _ _)
  |(with_reducible exact laws_sameInts.mono _ _ _)
  |(with_reducible exact spec_AgreeingCopies.mono _ _)
  |(with_reducible exact spec_DrawAgreeingCopies.mono _ _)
  |(with_reducible exact spec_DrawSingleChanges.mono _ _)
  |(with_reducible exact spec_SingleChanges.mono _ _ _)
  |(with_reducible exact LeO.refl _)
  |(with_reducible exact LeO.none _)
  |(with_reducible refine LeO.ite ?_ ?_)
  |(with_reducible refine LeO.bind ?_ (fun _=>?_))
  |exact ih0 _ _ _ _ _
  |exact ih1 _
  |exact ih2 _ _ _ _ _
  |exact ih3 _ _ _ _ _ _
  |exact ih4 _ _ _ _ _ _ _
  |exact impl_AgreeingCopies.mono _ _
  |exact impl_ChecksumOf.mono _ _
  |exact impl_DistanceOf.mono _ _ _
  |exact impl_IsSheet.mono _ _
  |exact impl_SingleChanges.mono _ _ _
  |exact laws_pIn.mono _ _ _
  |exact laws_pSameSheets.mono _ _ _
  |exact laws_sameInts.mono _ _ _
  |exact spec_AgreeingCopies.mono _ _
  |exact spec_DrawAgreeingCopies.mono _ _
  |exact spec_DrawSingleChanges.mono _ _
  |exact spec_SingleChanges.mono _ _ _
  |exact LeO.none _
   | refine LeO.ite ?_ ?_
   | refine LeO.bind ?_ (fun _=>?_)
theorem laws_FnCopies.j0_true:∀ {k y0 y1 y2 y3},laws_FnCopies.j0 k y0 y1 y2 y3 true=some true→False:=by
 intro k y0 y1 y2 y3 h
 cases k with
 | zero=>simp only[laws_FnCopies.j0]at h;cases h
 | succ k=>rw[laws_FnCopies.j0,if_pos rfl]at h;cases h
theorem laws_FnCopies.j3_true:∀ {k y0 y1 y2 y3},laws_FnCopies.j3 k y0 y1 y2 y3 true=some true→False:=by
 intro k y0 y1 y2 y3 h
 cases k with
 | zero=>simp only[laws_FnCopies.j3]at h;cases h
 | succ k=>rw[laws_FnCopies.j3,if_pos rfl]at h;cases h
set_option maxHeartbeats 40000000 in
set_option maxRecDepth 100000 in
theorem laws_FnCopies.calls (k:Nat) (A0:Option Addr) (c0:Nat) (l0:List Int) (A1:Option Addr) (c1:Nat) (l1:List Int) (r:Bool) (w:World) (hr0:Kd.C (Kd.int .u8) w A0 l0.length l0) (hc0:l0.length≤c0) (hr1:Kd.C (Kd.int .u8) w A1 l1.length l1) (hc1:l1.length≤c1) (h:laws_FnCopies.f k l0 l1=some r) (hr_:r=true) :
 Calls Try.prog 3 #[.slice A0 l0.length c0, .slice A1 l1.length c1] w fun e w'=>e = .returned (.bool r)∧Below w.heap.size w w':=by
 have HR_:=am_ hr_
 clear hr_
 have hu42:=Try.underlying42
 have HR0:=am_ hr0
 have HC0:=am_ hc0
 clear hr0 hc0
 have HR1:=am_ hr1
 have HC1:=am_ hc1
 clear hr1 hc1
 have HB:=am_ (Below.refl w.heap.size w)
 have H:((laws_big.f l0 l1).bind fun t565=>(if t565=true then(some true) else((spec_DrawAgreeingCopies.f k l0).bind fun t566=>((impl_AgreeingCopies.f k t566).bind fun bt569=>((spec_AgreeingCopies.f k t566).bind fun bt573=>(if(bt569.2 != bt573.2)=true then(laws_FnCopies.j0 k l1 t566 bt569.2 bt573.1 true) else((laws_sameInts.f k bt569.1 bt573.1).bind fun t577=>(laws_FnCopies.j0 k l1 t566 bt569.2 bt573.1 (!t577)))))))))=some r:=h
 clear h
 obtain⟨t565,A3,H⟩:=bo_ H
 try dsimp only at H
 by_cases c4:t565=true
 ·subst c4
  replace H:(some true)=some r:=by rw[if_pos rfl]at H;exact H
  obtain rfl:=Option.some.inj H
  go_enter Try.func3,Try.ntmps3
  go_wp2_with (first|((with_reducible refine gate_callee (f:=9) rfl ?_);refine goesL_ (some 41) rfl rfl Try.func9 (by kernel_rfl) rfl #[.slice A0 l0.length c0, .slice A1 l1.length c1] rfl gd_ ?_;(with_reducible refine(laws_big.calls _ _ l0 _ _ l1 true _ ?side1 ?side2 ?side3 ?side4 A3.out).mono ?_);(case side1=>exact(a21_ HR0.out));(case side2=>exact HC0.out);(case side3=>exact(a21_ HR1.out));(case side4=>exact HC1.out);rintro e w' ⟨rfl,⟨nd,rfl⟩⟩;refine⟨_,rfl,?_⟩))
  go_ret
  exact⟨a9_,a0_⟩
 ·replace c4:=Bool.eq_false_iff.mpr c4
  subst c4
  replace H:((spec_DrawAgreeingCopies.f k l0).bind fun t566=>((impl_AgreeingCopies.f k t566).bind fun bt569=>((spec_AgreeingCopies.f k t566).bind fun bt573=>(if(bt569.2 != bt573.2)=true then(laws_FnCopies.j0 k l1 t566 bt569.2 bt573.1 true) else((laws_sameInts.f k bt569.1 bt573.1).bind fun t577=>(laws_FnCopies.j0 k l1 t566 bt569.2 bt573.1 (!t577)))))))=some r:=by rw[if_neg (show ¬(false=true) by decide)]at H;exact H
  obtain⟨t566,A5,H⟩:=bo_ H
  try dsimp only at H
  obtain⟨⟨t569,t570⟩,A6,H⟩:=bo_ H
  try dsimp only at H
  obtain⟨⟨t573,t574⟩,A7,H⟩:=bo_ H
  try dsimp only at H
  have HC8:=am_ H
  clear H
  go_enter Try.func3,Try.ntmps3
  go_upto_region 6 with (first|((with_reducible refine gate_callee (f:=9) rfl ?_);refine goesL_ (some 41) rfl rfl Try.func9 (by kernel_rfl) rfl #[.slice A0 l0.length c0, .slice A1 l1.length c1] rfl gd_ ?_;(with_reducible refine(laws_big.calls _ _ l0 _ _ l1 false _ ?side1 ?side2 ?side3 ?side4 A3.out).mono ?_);(case side1=>exact(a21_ HR0.out));(case side2=>exact HC0.out);(case side3=>exact(a21_ HR1.out));(case side4=>exact HC1.out);rintro e w' ⟨rfl,⟨nd,rfl⟩⟩;refine⟨_,rfl,?_⟩)|((with_reducible refine gate_callee (f:=10) rfl ?_);refine goesL_ (some 43) rfl rfl Try.func10 (by kernel_rfl) rfl #[.slice A0 l0.length c0] rfl gd_ ?_;(with_reducible refine(spec_DrawAgreeingCopies.calls k _ _ l0 t566 _ ?side1 ?side2 A5.out).mono ?_);(case side1=>exact(a21_ HR0.out));(case side2=>exact HC0.out);rintro e w9 ⟨v567,rfl,ho0,hb⟩;refine⟨_,rfl,?_⟩;have HO568:=am_ (Kd.R_lower ho0 (below_size (a0_)));replace HB:=am_ (below_step (a0_) hb);(try clear hb);(try clear hb2);(try clear hk);(try clear hi);(try clear ho0);obtain⟨Ao10,co10,eo10⟩:=Kd.R_slice HO568.out;subst eo10)|((with_reducible refine gate_callee (f:=11) rfl ?_);refine goesL_ (some 46) rfl rfl Try.func11 (by kernel_rfl) rfl #[.slice Ao10 t566.length co10] rfl gd_ ?_;(with_reducible refine(impl_AgreeingCopies.calls k _ _ t566 t569 t570 _ ?side1 ?side2 A6.out).mono ?_);(case side1=>exact(a11_ HO568.out));(case side2=>exact(Kd.R_reads' HO568.out).2.1);rintro e w11 ⟨v571,rfl,ho0,hb⟩;refine⟨_,rfl,?_⟩;replace HO568:=am_ (Kd.R_below ((a1_ HO568.out)) hb);have HO572:=am_ (Kd.R_lower ho0 (below_size (a0_)));replace HB:=am_ (below_step (a0_) hb);(try clear hb);(try clear hb2);(try clear hk);(try clear hi);(try clear ho0))|((with_reducible refine gate_callee (f:=12) rfl ?_);refine goesL_ (some 51) rfl rfl Try.func12 (by kernel_rfl) rfl #[.slice Ao10 t566.length co10] rfl gd_ ?_;(with_reducible refine(spec_AgreeingCopies.calls k _ _ t566 t573 t574 _ ?side1 ?side2 A7.out).mono ?_);(case side1=>exact(a11_ HO568.out));(case side2=>exact(Kd.R_reads' HO568.out).2.1);rintro e w12 ⟨v575,rfl,ho0,hb⟩;refine⟨_,rfl,?_⟩;replace HO568:=am_ (Kd.R_below ((a1_ HO568.out)) hb);replace HO572:=am_ (Kd.R_below ((a1_ HO572.out)) hb);have HO576:=am_ (Kd.R_lower ho0 (below_size (a0_)));replace HB:=am_ (below_step (a0_) hb);(try clear hb);(try clear hb2);(try clear hk);(try clear hi);(try clear ho0)))
  (try simp only[Act.put,List.setIfInBounds_toArray,List.set_cons_zero,List.set_cons_succ])
  go_cut [62] (fun v62 wc=>∃(kq:Nat) (x62_7:Bool),v62 = .bool x62_7∧Aside0 (laws_FnCopies.j0 kq l1 t566 t570 t573 x62_7=some r)∧Aside0 (kq≤k)∧Aside0 (Kd.R (Kd.slice 42 k42) 32 wc w.heap.size (fun _=>True) (.slice Ao10 t566.length co10) t566)∧Aside0 (Kd.R (Kd.int .i64) 3 wc w.heap.size (fun _=>True) v575 t573)∧Aside0 (Below w.heap.size w wc))
  case first=>
   as_aux_lemma=>
    have H:=HC8.out
    clear HC8
    by_cases c13:(t570 != t574)=true
    ·rw[if_pos c13]at H
     have c13b0:(t570 != t574)=true:=c13
     (try(have c13b1:decide (t570=t574)=false:=by simpa using c13))
     (try(have c13b2:(t570 == t574)=false:=by simpa using c13))
     (try(have c13b3:¬(t570=t574):=by simpa using c13))
     clear c13
     (first|rw[c13b0]|(simp only[i64_w,i32_w];rw[c13b0]) | skip)
     have H':=am_ H
     clear H
     go_wp2
     all_goals
      go_meet
      case rel=>exact⟨_,(true),(by first | rfl|(simp;done)|(simp[*];done)),H',⟨by first | omega|exact Nat.le_refl _⟩,⟨(a1_ HO568.out)⟩,⟨(a1_ HO576.out)⟩,⟨a0_⟩⟩
    ·rw[if_neg c13]at H
     have c13b0:(t570 != t574)=false:=by simpa using c13
     (try(have c13b1:decide (t570=t574)=true:=by simpa using c13))
     (try(have c13b2:(t570 == t574)=true:=by simpa using c13))
     clear c13
     (first|rw[c13b0]|(simp only[i64_w,i32_w];rw[c13b0]) | skip)
     obtain⟨t577,A14,H⟩:=bo_ H
     try dsimp only at H
     have H':=am_ H
     clear H
     obtain⟨Ao15,co15,eo15⟩:=Kd.R_slice HO572.out
     subst eo15
     obtain⟨Ao16,co16,eo16⟩:=Kd.R_slice HO576.out
     subst eo16
     go_wp2_with (first|(go_at_call 13;(with_reducible refine(laws_sameInts.calls k _ _ t569 _ _ t573 t577 _ ?side1 ?side2 ?side3 ?side4 A14.out).mono ?_);(case side1=>exact(a11_ HO572.out));(case side2=>exact(Kd.R_reads' HO572.out).2.1);(case side3=>exact(a11_ HO576.out));(case side4=>exact(Kd.R_reads' HO576.out).2.1);rintro e w' ⟨rfl,⟨nd,rfl⟩⟩))
     all_goals
      go_meet
      case rel=>exact⟨_,(!t577),(by first | rfl|(simp;done)|(simp[*];done)),H',⟨by first | omega|exact Nat.le_refl _⟩,⟨(a1_ HO568.out)⟩,⟨(a1_ HO576.out)⟩,⟨a0_⟩⟩
  case rest=>
   as_aux_lemma=>
    clear HC8
    try clear c1
    try clear p2
    try clear c3
    try clear c4
    try clear c9
    try clear c10
    try clear c11
    try clear c12
    try clear c13
    try clear c13b0
    try clear c13b1
    try clear c13b2
    obtain⟨kq,x62_7,rfl,HA,HJ7,HO_5,HO_8,HB⟩:=hcut
    cases kq with
    | zero=>exact absurd HA.out (by simp[laws_FnCopies.j0])
    | succ kj7=>
     have H:=HA.out
     clear HA
     simp only[laws_FnCopies.j0]at H
     by_cases c17:x62_7=true
     ·subst c17
      replace H:(some false)=some r:=by rw[if_pos rfl]at H;exact H
      exact absurd ((Option.some.inj H).trans HR_.out) (by decide)
     ·replace c17:=Bool.eq_false_iff.mpr c17
      subst c17
      replace H:(if t570=true then(if(t573.length:Int)=0 then(some false) else(if 0<(t573.length:Int) then(if 0≤(rd t573 0) then(if(rd t573 0)<(t566.length:Int) then((impl_ChecksumOf.f kj7 (rd_L3 t566 (rd t573 0))).bind fun bt580=>(laws_FnCopies.l0 kj7 l1 t573 bt580.1 bt580.2 t566 (t566.length:Int) 0)) else(none)) else(none)) else(none))) else(laws_FnCopies.j2 kj7 l1))=some r:=by rw[if_neg (show ¬(false=true) by decide)]at H;exact H
      have HC18:=am_ H
      clear H
      go_upto_if 63 with (fail)
      go_cut [] (fun wc=>∃(kq:Nat),Aside0 (laws_FnCopies.j2 kq l1=some r)∧Aside0 (kq≤kj7)∧Aside0 (Below w.heap.size w wc))
      case first=>
       as_aux_lemma=>
        have H:=HC18.out
        clear HC18
        by_cases c19:t570=true
        ·subst c19
         replace H:(if(t573.length:Int)=0 then(some false) else(if 0<(t573.length:Int) then(if 0≤(rd t573 0) then(if(rd t573 0)<(t566.length:Int) then((impl_ChecksumOf.f kj7 (rd_L3 t566 (rd t573 0))).bind fun bt580=>(laws_FnCopies.l0 kj7 l1 t573 bt580.1 bt580.2 t566 (t566.length:Int) 0)) else(none)) else(none)) else(none)))=some r:=by rw[if_pos rfl]at H;exact H
         by_cases c20:(t573.length:Int)=0
         ·rw[if_pos c20]at H
          have c20b0:((t573.length:Int) == 0)=true:=beq_iff_eq.mpr c20
          have c20b1:((t573.length:Int) != 0)=false:=bne_eq_false_iff_eq.mpr c20
          clear c20
          (first|rw[c20b0]|(simp only[i64_w,i32_w];rw[c20b0]) | skip)
          exact absurd ((Option.some.inj H).trans HR_.out) (by decide)
         ·rw[if_neg c20]at H
          have c20b0:((t573.length:Int) == 0)=false:=beq_eq_false_iff_ne.mpr c20
          have c20b1:((t573.length:Int) != 0)=true:=bne_iff_ne.mpr c20
          have c20b2:¬(t573 = []):=fun h_=>c20 (by rw[h_];rfl)
          (first|rw[c20b0]|(simp only[i64_w,i32_w];rw[c20b0]) | skip)
          by_cases c22:0<(t573.length:Int)
          ·rw[if_pos c22]at H
           have c22b0:decide (0<(t573.length:Int))=true:=decide_eq_true c22
           have c22b1:decide (0<t573.length)=true:=decide_eq_true (by omega)
           clear c22
           by_cases c23:0≤(rd t573 0)
           ·rw[if_pos c23]at H
            have c23b0:decide (0≤(rd t573 0))=true:=decide_eq_true c23
            clear c23
            by_cases c24:(rd t573 0)<(t566.length:Int)
            ·rw[if_pos c24]at H
             have c24b0:decide ((rd t573 0)<(t566.length:Int))=true:=decide_eq_true c24
             clear c24
             obtain⟨⟨t580,t581⟩,A25,H⟩:=bo_ H
             try dsimp only at H
             have H':=am_ H
             clear H
             obtain⟨Ao26,co26,eo26⟩:=Kd.R_slice HO_8.out
             subst eo26
             have p578:0≤(0:Int):=(by omega)
             have q578:0<(t573.length:Int):=of_decide_eq_true (a8_)
             obtain⟨ad578,e578,hx578_0⟩:=Kd.at_int (Kd.R_reads' HO_8.out).2.2 0 p578 q578
             cases e578
             have qi578:(0<t573.length)=True:=eq_true (by omega)
             (try rw[show((0:Int)).toNat=0 from rfl]at hx578_0)
             (try rw[Addr.add_zero']at hx578_0)
             replace p578:=eq_true p578
             replace q578:=eq_true q578
             have p579:0≤((rd t573 0):Int):=of_decide_eq_true (a8_)
             have q579:(rd t573 0)<(t566.length:Int):=of_decide_eq_true (a8_)
             obtain⟨ad579,A579_0,c579_0,e579,hx579_0,hl579_0,hi579_0⟩:=at_L3 (Kd.R_reads' HO_5.out).2.2 (rd t573 0) p579 q579
             cases e579
             obtain⟨ce579,hce579,hMe579,hcc579⟩:=Kd.R_get HO_5.out [] (rd t573 0) p579 (by first|exact q579|exact of_decide_eq_true (a8_)|(have e_:=(Kd.R_reads' HO_5.out).1;omega))
             obtain⟨ve579_0,rfl,ge579_0⟩:=hMe579
             have hv579_0:=hcc579 0 _ rfl
             rw[Nat.add_zero,show((Kd.slice 42 k42)).sz=1 from rfl,Nat.mul_one]at hv579_0
             replace hv579_0:=Option.some.inj (hv579_0.symm.trans hx579_0)
             rw[hv579_0]at ge579_0
             have HL579_0:=am_ (show Kd.R k42 42 _ _ _ _ (rd_L3 t566 (rd t573 0)) from ge579_0)
             clear hv579_0 ge579_0 hcc579 hce579
             have HR579_0:=am_ hi579_0
             have HC579_0:=am_ hl579_0
             clear hi579_0 hl579_0
             replace p579:=eq_true p579
             replace q579:=eq_true q579
             go_wp2_with (first|((with_reducible refine gate_callee (f:=14) rfl ?_);refine goesL_ (some 74) rfl rfl Try.func14 (by kernel_rfl) rfl #[.slice A579_0 (rd_L3 t566 (rd t573 0)).length c579_0] rfl gd_ ?_;(with_reducible refine(impl_ChecksumOf.calls kj7 _ _ (rd_L3 t566 (rd t573 0)) t580 t581 _ ?side1 ?side2 A25.out).mono ?_);(case side1=>exact(a17_ HR579_0.out));(case side2=>exact HC579_0.out);rintro e w27 ⟨rfl,hb⟩;refine⟨_,rfl,?_⟩;replace HO_5:=am_ (Kd.R_below ((a1_ HO_5.out)) hb);replace HO_8:=am_ (Kd.R_below ((a1_ HO_8.out)) hb);replace HL579_0:=am_ (Kd.R_below ((a1_ HL579_0.out)) hb);replace HR579_0:=am_ (Kd.C_below ((a12_ HR579_0.out)) hb);replace HB:=am_ (below_step (a0_) hb);(try clear hb);(try clear hb2);(try clear hk);(try clear hi)))
             (try simp only[Act.put,List.setIfInBounds_toArray,List.set_cons_zero,List.set_cons_succ])
             go_loopg [79] kj7 (fun kq v79 w'=>∃(x79_2:Int),v79 = .int .i64 x79_2∧Aside0 (laws_FnCopies.l0 kq l1 t573 t580 t581 t566 (t566.length:Int) x79_2=some r)∧Aside0 (kq≤kj7)∧Aside0 (Kd.R (Kd.int .i64) 3 w' w.heap.size (fun _=>True) (.slice (some ad578) t573.length co26) t573)∧Aside0 (Kd.R (Kd.slice 42 k42) 32 w' w.heap.size (fun _=>True) (.slice (some ad579) t566.length co10) t566)∧Aside0 (Kd.C k42 w' A579_0 (rd_L3 t566 (rd t573 0)).length (rd_L3 t566 (rd t573 0)))∧Aside0 (Below w.heap.size w w'))
             case atStart=>exact⟨(0),(by first | rfl|(simp;done)|(simp[*];done)),H',⟨Nat.le_refl _⟩,⟨(a1_ HO_8.out)⟩,⟨(a1_ HO_5.out)⟩,⟨(a12_ HR579_0.out)⟩,⟨a0_⟩⟩
             case round=>
              clear H'
              try clear c1
              try clear c2
              try clear p2
              try clear c3
              try clear c4
              try clear c5
              try clear p5
              try clear q5
              try clear hx5
              try clear qi5
              try clear c9
              try clear c10
              try clear c11
              try clear c12
              try clear c13
              try clear c13b0
              try clear c13b1
              try clear c13b2
              try clear c14
              try clear c17
              try clear c19
              try clear c20
              try clear c20b0
              try clear c20b1
              try clear c20b2
              try clear c22
              try clear c22b0
              try clear c22b1
              try clear c23
              try clear c23b0
              try clear c24
              try clear c24b0
              try clear hx578_0
              try clear hx579_0
              try clear p2
              try clear p578
              try clear p579
              try clear q578
              try clear q579
              obtain⟨x79_2,rfl,HA,HK2,HO_8,HO_77,HR579_0,HB⟩:=hrel
              cases gk with
              | zero=>exact absurd HA.out (by simp[laws_FnCopies.l0])
              | succ k2=>
               have H:=HA.out
               clear HA
               simp only[laws_FnCopies.l0]at H
               by_cases c28:x79_2<(t566.length:Int)
               ·rw[if_pos c28]at H
                have c28b0:decide (x79_2<(t566.length:Int))=true:=decide_eq_true c28
                clear c28
                by_cases c29:0≤x79_2
                ·rw[if_pos c29]at H
                 have c29b0:decide (0≤x79_2)=true:=decide_eq_true c29
                 clear c29
                 by_cases c30:x79_2<(t566.length:Int)
                 ·rw[if_pos c30]at H
                  have c30b0:decide (x79_2<(t566.length:Int))=true:=decide_eq_true c30
                  clear c30
                  obtain⟨⟨t583,t584⟩,A31,H⟩:=bo_ H
                  try dsimp only at H
                  by_cases c32:t584=true
                  ·subst c32
                   replace H:((laws_pIn.f k2 t573 x79_2).bind fun t585=>(if((t583 == t580) != t585)=true then(some false) else(laws_FnCopies.l0 k2 l1 t573 t580 t581 t566 (t566.length:Int) (wrap64 (x79_2+1)))))=some r:=by rw[if_pos rfl]at H;exact H
                   obtain⟨t585,A33,H⟩:=bo_ H
                   try dsimp only at H
                   by_cases c34:((t583 == t580) != t585)=true
                   ·rw[if_pos c34]at H
                    have c34b0:((t583 == t580) != t585)=true:=c34
                    (try(have c34b1:decide ((t583 == t580)=t585)=false:=by simpa using c34))
                    (try(have c34b2:((t583 == t580) == t585)=false:=by simpa using c34))
                    (try(have c34b3:¬((t583 == t580)=t585):=by simpa using c34))
                    clear c34
                    exact absurd ((Option.some.inj H).trans HR_.out) (by decide)
                   ·rw[if_neg c34]at H
                    have c34b0:((t583 == t580) != t585)=false:=by simpa using c34
                    (try(have c34b1:decide ((t583 == t580)=t585)=true:=by simpa using c34))
                    (try(have c34b2:((t583 == t580) == t585)=true:=by simpa using c34))
                    clear c34
                    have H':=am_ H
                    clear H
                    have p582:0≤(x79_2:Int):=of_decide_eq_true (a8_)
                    have q582:x79_2<(t566.length:Int):=of_decide_eq_true (a8_)
                    obtain⟨ad582,A582_0,c582_0,e582,hx582_0,hl582_0,hi582_0⟩:=at_L3 (Kd.R_reads' HO_77.out).2.2 x79_2 p582 q582
                    obtain rfl:ad579=ad582:=(by injection e582)
                    obtain⟨ce582,hce582,hMe582,hcc582⟩:=Kd.R_get HO_77.out [] x79_2 p582 (by first|exact q582|exact of_decide_eq_true (a8_)|(have e_:=(Kd.R_reads' HO_77.out).1;omega))
                    obtain⟨ve582_0,rfl,ge582_0⟩:=hMe582
                    have hv582_0:=hcc582 0 _ rfl
                    rw[Nat.add_zero,show((Kd.slice 42 k42)).sz=1 from rfl,Nat.mul_one]at hv582_0
                    replace hv582_0:=Option.some.inj (hv582_0.symm.trans hx582_0)
                    rw[hv582_0]at ge582_0
                    have HL582_0:=am_ (show Kd.R k42 42 _ _ _ _ (rd_L3 t566 x79_2) from ge582_0)
                    clear hv582_0 ge582_0 hcc582 hce582
                    have HR582_0:=am_ hi582_0
                    have HC582_0:=am_ hl582_0
                    clear hi582_0 hl582_0
                    replace p582:=eq_true p582
                    replace q582:=eq_true q582
                    go_wp2_with (first|((with_reducible refine gate_callee (f:=14) rfl ?_);refine goesL_ (some 86) rfl rfl Try.func14 (by kernel_rfl) rfl #[.slice A582_0 (rd_L3 t566 x79_2).length c582_0] rfl gd_ ?_;(with_reducible refine(impl_ChecksumOf.calls k2 _ _ (rd_L3 t566 x79_2) t583 true _ ?side1 ?side2 A31.out).mono ?_);(case side1=>exact(a17_ HR582_0.out));(case side2=>exact HC582_0.out);rintro e w36 ⟨rfl,hb⟩;refine⟨_,rfl,?_⟩;replace HO_8:=am_ (Kd.R_below ((a1_ HO_8.out)) hb);replace HO_77:=am_ (Kd.R_below ((a1_ HO_77.out)) hb);replace HL582_0:=am_ (Kd.R_below ((a1_ HL582_0.out)) hb);replace HR579_0:=am_ (Kd.C_below ((a12_ HR579_0.out)) hb);replace HR582_0:=am_ (Kd.C_below ((a12_ HR582_0.out)) hb);replace HB:=am_ (below_step (a0_) hb);(try clear hb);(try clear hb2);(try clear hk);(try clear hi))|(go_at_call 15;(with_reducible refine(laws_pIn.calls k2 _ _ t573 x79_2 t585 _ ?side1 ?side2 A33.out).mono ?_);(case side1=>exact(a11_ HO_8.out));(case side2=>exact(Kd.R_reads' HO_8.out).2.1);rintro e w' ⟨rfl,⟨nd,rfl⟩⟩))
                    go_roundg k2
                    case measure=>have:=HJ7.out;have:=HK2.out;omega
                    case rel=>exact⟨(wrap64 (x79_2+1)),(by first | rfl|(simp;done)|(simp[*];done)),H',⟨by have:=HJ7.out;have:=HK2.out;omega⟩,⟨(a1_ HO_8.out)⟩,⟨(a1_ HO_77.out)⟩,⟨(a12_ HR579_0.out)⟩,⟨a0_⟩⟩
                  ·replace c32:=Bool.eq_false_iff.mpr c32
                   subst c32
                   replace H:(some false)=some r:=by rw[if_neg (show ¬(false=true) by decide)]at H;exact H
                   exact absurd ((Option.some.inj H).trans HR_.out) (by decide)
                 ·rw[if_neg c30]at H
                  exact absurd H (by simp)
                ·rw[if_neg c29]at H
                 exact absurd H (by simp)
               ·rw[if_neg c28]at H
                have c28b0:decide (x79_2<(t566.length:Int))=false:=decide_eq_false c28
                clear c28
                by_cases c38:t581=true
                ·subst c38
                 replace H:(laws_FnCopies.j2 k2 l1)=some r:=by rw[if_pos rfl]at H;exact H
                 have H':=am_ H
                 clear H
                 go_wp2
                 all_goals
                  go_meet
                  case rel=>exact⟨_,H',⟨by have:=HJ7.out;have:=HK2.out;first | omega|exact Nat.le_refl _⟩,⟨a0_⟩⟩
                ·replace c38:=Bool.eq_false_iff.mpr c38
                 subst c38
                 replace H:(some false)=some r:=by rw[if_neg (show ¬(false=true) by decide)]at H;exact H
                 exact absurd ((Option.some.inj H).trans HR_.out) (by decide)
            ·rw[if_neg c24]at H
             exact absurd H (by simp)
           ·rw[if_neg c23]at H
            exact absurd H (by simp)
          ·rw[if_neg c22]at H
           exact absurd H (by simp)
        ·replace c19:=Bool.eq_false_iff.mpr c19
         subst c19
         replace H:(laws_FnCopies.j2 kj7 l1)=some r:=by rw[if_neg (show ¬(false=true) by decide)]at H;exact H
         have H':=am_ H
         clear H
         go_wp2
         all_goals
          go_meet
          case rel=>exact⟨_,H',⟨by have:=HJ7.out;first | omega|exact Nat.le_refl _⟩,⟨a0_⟩⟩
      case rest=>
       as_aux_lemma=>
        clear HC18
        try clear c1
        try clear c2
        try clear p2
        try clear c3
        try clear c4
        try clear c5
        try clear p5
        try clear q5
        try clear hx5
        try clear qi5
        try clear p6
        try clear c9
        try clear c10
        try clear c11
        try clear c12
        try clear c13
        try clear c13b0
        try clear c13b1
        try clear c13b2
        try clear c14
        try clear c17
        try clear c19
        try clear c20
        try clear c20b0
        try clear c20b1
        try clear c20b2
        try clear c22
        try clear c22b0
        try clear c22b1
        try clear c23
        try clear c23b0
        try clear c24
        try clear c24b0
        try clear c28
        try clear c28b0
        try clear c29
        try clear c29b0
        try clear c30
        try clear c30b0
        try clear c32
        try clear c34
        try clear c34b0
        try clear c34b1
        try clear c34b2
        try clear c38
        try clear hx578_0
        try clear hx579_0
        try clear hx582_0
        try clear p2
        try clear p5
        try clear p578
        try clear p579
        try clear p582
        try clear q5
        try clear q578
        try clear q579
        try clear q582
        obtain⟨kq,HA,HJ17,HB⟩:=hcut
        cases kq with
        | zero=>exact absurd HA.out (by simp[laws_FnCopies.j2])
        | succ kj17=>
         have H:=HA.out
         clear HA
         simp only[laws_FnCopies.j2]at H
         obtain⟨⟨t586,t587⟩,A39,H⟩:=bo_ H
         try dsimp only at H
         obtain⟨⟨t590,t591⟩,A40,H⟩:=bo_ H
         try dsimp only at H
         obtain⟨⟨t594,t595⟩,A41,H⟩:=bo_ H
         try dsimp only at H
         have HC42:=am_ H
         clear H
         go_upto_region 24 with (first|((with_reducible refine gate_callee (f:=16) rfl ?_);refine goesL_ (some 105) rfl rfl Try.func16 (by kernel_rfl) rfl #[.slice A1 l1.length c1] rfl gd_ ?_;(with_reducible refine(spec_DrawSingleChanges.calls kj17 _ _ l1 t586 t587 _ ?side1 ?side2 A39.out).mono ?_);(case side1=>exact(a13_ HR1.out));(case side2=>exact HC1.out);rintro e w43 ⟨v588,rfl,ho0,hb⟩;refine⟨_,rfl,?_⟩;have HO589:=am_ (Kd.R_lower ho0 (below_size (a0_)));replace HB:=am_ (below_step (a0_) hb);(try clear hb);(try clear hb2);(try clear hk);(try clear hi);(try clear ho0);obtain⟨Ao44,co44,eo44⟩:=Kd.R_slice HO589.out;subst eo44)|((with_reducible refine gate_callee (f:=17) rfl ?_);refine goesL_ (some 111) rfl rfl Try.func17 (by kernel_rfl) rfl #[.slice Ao44 t586.length co44, .int .i64 t587] rfl gd_ ?_;(with_reducible refine(impl_SingleChanges.calls kj17 _ _ t586 t587 t590 t591 _ ?side1 ?side2 A40.out).mono ?_);(case side1=>exact(a11_ HO589.out));(case side2=>exact(Kd.R_reads' HO589.out).2.1);rintro e w45 ⟨v592,rfl,ho0,hb⟩;replace ho0:=Kd.S_R ho0;refine⟨_,rfl,?_⟩;replace HO589:=am_ (Kd.R_below ((a1_ HO589.out)) hb);have HO593:=am_ (Kd.R_lower ho0 (below_size (a0_)));replace HB:=am_ (below_step (a0_) hb);(try clear hb);(try clear hb2);(try clear hk);(try clear hi);(try clear ho0))|((with_reducible refine gate_callee (f:=18) rfl ?_);refine goesL_ (some 117) rfl rfl Try.func18 (by kernel_rfl) rfl #[.slice Ao44 t586.length co44, .int .i64 t587] rfl gd_ ?_;(with_reducible refine(spec_SingleChanges.calls kj17 _ _ t586 t587 t594 t595 _ ?side1 ?side2 A41.out).mono ?_);(case side1=>exact(a11_ HO589.out));(case side2=>exact(Kd.R_reads' HO589.out).2.1);rintro e w46 ⟨v596,rfl,ho0,hb⟩;replace ho0:=Kd.S_R ho0;refine⟨_,rfl,?_⟩;replace HO589:=am_ (Kd.R_below ((a1_ HO589.out)) hb);replace HO593:=am_ (Kd.R_below ((a1_ HO593.out)) hb);have HO597:=am_ (Kd.R_lower ho0 (below_size (a0_)));replace HB:=am_ (below_step (a0_) hb);(try clear hb);(try clear hb2);(try clear hk);(try clear hi);(try clear ho0)))
         (try simp only[Act.put,List.setIfInBounds_toArray,List.set_cons_zero,List.set_cons_succ])
         go_cut [128] (fun v128 wc=>∃(kq:Nat) (x128_41:Bool),v128 = .bool x128_41∧Aside0 (laws_FnCopies.j3 kq l1 t586 t587 t594 x128_41=some r)∧Aside0 (kq≤kj17)∧Aside0 (Kd.R k42 42 wc w.heap.size (fun _=>True) (.slice Ao44 t586.length co44) t586)∧Aside0 (Kd.R (Kd.slice 42 k42) 32 wc w.heap.size (fun _=>True) v596 t594)∧Aside0 (Below w.heap.size w wc))
         case first=>
          as_aux_lemma=>
           have H:=HC42.out
           clear HC42
           by_cases c47:(t591 != t595)=true
           ·rw[if_pos c47]at H
            have c47b0:(t591 != t595)=true:=c47
            (try(have c47b1:decide (t591=t595)=false:=by simpa using c47))
            (try(have c47b2:(t591 == t595)=false:=by simpa using c47))
            (try(have c47b3:¬(t591=t595):=by simpa using c47))
            clear c47
            (first|rw[c47b0]|(simp only[i64_w,i32_w];rw[c47b0]) | skip)
            have H':=am_ H
            clear H
            go_wp2
            all_goals
             go_meet
             case rel=>exact⟨_,(true),(by first | rfl|(simp;done)|(simp[*];done)),H',⟨by have:=HJ7.out;have:=HJ17.out;first | omega|exact Nat.le_refl _⟩,⟨(a1_ HO589.out)⟩,⟨(a1_ HO597.out)⟩,⟨a0_⟩⟩
           ·rw[if_neg c47]at H
            have c47b0:(t591 != t595)=false:=by simpa using c47
            (try(have c47b1:decide (t591=t595)=true:=by simpa using c47))
            (try(have c47b2:(t591 == t595)=true:=by simpa using c47))
            clear c47
            (first|rw[c47b0]|(simp only[i64_w,i32_w];rw[c47b0]) | skip)
            obtain⟨t598,A48,H⟩:=bo_ H
            try dsimp only at H
            have H':=am_ H
            clear H
            obtain⟨Ao49,co49,eo49⟩:=Kd.R_slice HO593.out
            subst eo49
            obtain⟨Ao50,co50,eo50⟩:=Kd.R_slice HO597.out
            subst eo50
            go_wp2_with (first|(go_at_call 19;(with_reducible refine(laws_pSameSheets.calls kj17 _ _ t590 _ _ t594 t598 _ ?side1 ?side2 ?side3 ?side4 A48.out).mono ?_);(case side1=>exact(a11_ HO593.out));(case side2=>exact(Kd.R_reads' HO593.out).2.1);(case side3=>exact(a11_ HO597.out));(case side4=>exact(Kd.R_reads' HO597.out).2.1);rintro e w' ⟨rfl,⟨nd,rfl⟩⟩))
            all_goals
             go_meet
             case rel=>exact⟨_,(!t598),(by first | rfl|(simp;done)|(simp[*];done)),H',⟨by have:=HJ7.out;have:=HJ17.out;first | omega|exact Nat.le_refl _⟩,⟨(a1_ HO589.out)⟩,⟨(a1_ HO597.out)⟩,⟨a0_⟩⟩
         case rest=>
          as_aux_lemma=>
           clear HC42
           try clear c1
           try clear c2
           try clear p2
           try clear c3
           try clear c4
           try clear c5
           try clear p5
           try clear q5
           try clear hx5
           try clear qi5
           try clear p6
           try clear c9
           try clear c10
           try clear c11
           try clear c12
           try clear c13
           try clear c13b0
           try clear c13b1
           try clear c13b2
           try clear c14
           try clear c16
           try clear c17
           try clear c18
           try clear c19
           try clear c20
           try clear c20b0
           try clear c20b1
           try clear c20b2
           try clear c22
           try clear c22b0
           try clear c22b1
           try clear c23
           try clear c23b0
           try clear c24
           try clear c24b0
           try clear c28
           try clear c28b0
           try clear c29
           try clear c29b0
           try clear c30
           try clear c30b0
           try clear c32
           try clear c34
           try clear c34b0
           try clear c34b1
           try clear c34b2
           try clear c38
           try clear c47
           try clear c47b0
           try clear c47b1
           try clear c47b2
           try clear hx578_0
           try clear hx579_0
           try clear hx582_0
           try clear p2
           try clear p5
           try clear p578
           try clear p579
           try clear p582
           try clear p6
           try clear q5
           try clear q578
           try clear q579
           try clear q582
           obtain⟨kq,x128_41,rfl,HA,HJ41,HO_16,HO_20,HB⟩:=hcut
           cases kq with
           | zero=>exact absurd HA.out (by simp[laws_FnCopies.j3])
           | succ kj41=>
            have H:=HA.out
            clear HA
            simp only[laws_FnCopies.j3]at H
            by_cases c51:x128_41=true
            ·subst c51
             replace H:(some false)=some r:=by rw[if_pos rfl]at H;exact H
             exact absurd ((Option.some.inj H).trans HR_.out) (by decide)
            ·replace c51:=Bool.eq_false_iff.mpr c51
             subst c51
             replace H:(laws_FnCopies.l1 kj41 l1 t586 t587 t594 (t594.length:Int) 0)=some r:=by rw[if_neg (show ¬(false=true) by decide)]at H;exact H
             have H':=am_ H
             clear H
             obtain⟨Ao52,co52,eo52⟩:=Kd.R_slice HO_20.out
             subst eo52
             go_wp2
             (try simp only[Act.put,List.setIfInBounds_toArray,List.set_cons_zero,List.set_cons_succ])
             go_loopg [131] kj41 (fun kq v131 w'=>∃(x131_4:Int),v131 = .int .i64 x131_4∧Aside0 (laws_FnCopies.l1 kq l1 t586 t587 t594 (t594.length:Int) x131_4=some r)∧Aside0 (kq≤kj41)∧Aside0 (Kd.R k42 42 w' w.heap.size (fun _=>True) (.slice Ao44 t586.length co44) t586)∧Aside0 (Kd.R (Kd.slice 42 k42) 32 w' w.heap.size (fun _=>True) (.slice Ao52 t594.length co52) t594)∧Aside0 (Below w.heap.size w w'))
             case atStart=>exact⟨(0),(by first | rfl|(simp;done)|(simp[*];done)),H',⟨Nat.le_refl _⟩,⟨(a1_ HO_16.out)⟩,⟨(a1_ HO_20.out)⟩,⟨a0_⟩⟩
             case round=>
              clear H'
              try clear c1
              try clear c2
              try clear p2
              try clear c3
              try clear c4
              try clear c5
              try clear p5
              try clear q5
              try clear hx5
              try clear qi5
              try clear p6
              try clear c9
              try clear c10
              try clear c11
              try clear c12
              try clear c13
              try clear c13b0
              try clear c13b1
              try clear c13b2
              try clear c14
              try clear c16
              try clear c17
              try clear c18
              try clear c19
              try clear c20
              try clear c20b0
              try clear c20b1
              try clear c20b2
              try clear c22
              try clear c22b0
              try clear c22b1
              try clear c23
              try clear c23b0
              try clear c24
              try clear c24b0
              try clear c28
              try clear c28b0
              try clear c29
              try clear c29b0
              try clear c30
              try clear c30b0
              try clear c32
              try clear c34
              try clear c34b0
              try clear c34b1
              try clear c34b2
              try clear c38
              try clear c47
              try clear c47b0
              try clear c47b1
              try clear c47b2
              try clear c51
              try clear hx578_0
              try clear hx579_0
              try clear hx582_0
              try clear p2
              try clear p5
              try clear p578
              try clear p579
              try clear p582
              try clear p6
              try clear q5
              try clear q578
              try clear q579
              try clear q582
              obtain⟨x131_4,rfl,HA,HK4,HO_16,HO_129,HB⟩:=hrel
              cases gk with
              | zero=>exact absurd HA.out (by simp[laws_FnCopies.l1])
              | succ k4=>
               have H:=HA.out
               clear HA
               simp only[laws_FnCopies.l1]at H
               by_cases c53:x131_4<(t594.length:Int)
               ·rw[if_pos c53]at H
                have c53b0:decide (x131_4<(t594.length:Int))=true:=decide_eq_true c53
                clear c53
                by_cases c54:0≤x131_4
                ·rw[if_pos c54]at H
                 have c54b0:decide (0≤x131_4)=true:=decide_eq_true c54
                 clear c54
                 by_cases c55:x131_4<(t594.length:Int)
                 ·rw[if_pos c55]at H
                  have c55b0:decide (x131_4<(t594.length:Int))=true:=decide_eq_true c55
                  clear c55
                  obtain⟨⟨t600,t601⟩,A56,H⟩:=bo_ H
                  try dsimp only at H
                  obtain⟨⟨t602,t603⟩,A57,H⟩:=bo_ H
                  try dsimp only at H
                  by_cases c58:t601=true
                  ·subst c58
                   replace H:(if t600=t587 then(if t603=true then(if t602=2 then(if((rd_L3 t594 x131_4).length:Int)=(t586.length:Int) then((impl_IsSheet.f k4 (rd_L3 t594 x131_4)).bind fun t604=>(if t604=true then(laws_FnCopies.l1 k4 l1 t586 t587 t594 (t594.length:Int) (wrap64 (x131_4+1))) else(some false))) else(some false)) else(some false)) else(some false)) else(some false))=some r:=by rw[if_pos rfl]at H;exact H
                   by_cases c59:t600=t587
                   ·rw[if_pos c59]at H
                    have c59b0:(t600 == t587)=true:=beq_iff_eq.mpr c59
                    have c59b1:(t600 != t587)=false:=bne_eq_false_iff_eq.mpr c59
                    clear c59
                    by_cases c60:t603=true
                    ·subst c60
                     replace H:(if t602=2 then(if((rd_L3 t594 x131_4).length:Int)=(t586.length:Int) then((impl_IsSheet.f k4 (rd_L3 t594 x131_4)).bind fun t604=>(if t604=true then(laws_FnCopies.l1 k4 l1 t586 t587 t594 (t594.length:Int) (wrap64 (x131_4+1))) else(some false))) else(some false)) else(some false))=some r:=by rw[if_pos rfl]at H;exact H
                     by_cases c61:t602=2
                     ·rw[if_pos c61]at H
                      have c61b0:(t602 == 2)=true:=beq_iff_eq.mpr c61
                      have c61b1:(t602 != 2)=false:=bne_eq_false_iff_eq.mpr c61
                      clear c61
                      by_cases c62:((rd_L3 t594 x131_4).length:Int)=(t586.length:Int)
                      ·rw[if_pos c62]at H
                       have c62b0:(((rd_L3 t594 x131_4).length:Int) == (t586.length:Int))=true:=beq_iff_eq.mpr c62
                       have c62b1:(((rd_L3 t594 x131_4).length:Int) != (t586.length:Int))=false:=bne_eq_false_iff_eq.mpr c62
                       have c62b2:((rd_L3 t594 x131_4).length == t586.length)=true:=by first | simpa using c62|(simp at c62 ⊢;omega)
                       clear c62
                       obtain⟨t604,A63,H⟩:=bo_ H
                       try dsimp only at H
                       by_cases c64:t604=true
                       ·subst c64
                        replace H:(laws_FnCopies.l1 k4 l1 t586 t587 t594 (t594.length:Int) (wrap64 (x131_4+1)))=some r:=by rw[if_pos rfl]at H;exact H
                        have H':=am_ H
                        clear H
                        have p599:0≤(x131_4:Int):=of_decide_eq_true (a8_)
                        have q599:x131_4<(t594.length:Int):=of_decide_eq_true (a8_)
                        obtain⟨ad599,A599_0,c599_0,e599,hx599_0,hl599_0,hi599_0⟩:=at_L3 (Kd.R_reads' HO_129.out).2.2 x131_4 p599 q599
                        cases e599
                        obtain⟨ce599,hce599,hMe599,hcc599⟩:=Kd.R_get HO_129.out [] x131_4 p599 (by first|exact q599|exact of_decide_eq_true (a8_)|(have e_:=(Kd.R_reads' HO_129.out).1;omega))
                        obtain⟨ve599_0,rfl,ge599_0⟩:=hMe599
                        have hv599_0:=hcc599 0 _ rfl
                        rw[Nat.add_zero,show((Kd.slice 42 k42)).sz=1 from rfl,Nat.mul_one]at hv599_0
                        replace hv599_0:=Option.some.inj (hv599_0.symm.trans hx599_0)
                        rw[hv599_0]at ge599_0
                        have HL599_0:=am_ (show Kd.R k42 42 _ _ _ _ (rd_L3 t594 x131_4) from ge599_0)
                        clear hv599_0 ge599_0 hcc599 hce599
                        have HR599_0:=am_ hi599_0
                        have HC599_0:=am_ hl599_0
                        clear hi599_0 hl599_0
                        replace p599:=eq_true p599
                        replace q599:=eq_true q599
                        go_wp2_with (first|((with_reducible refine gate_callee (f:=14) rfl ?_);refine goesL_ (some 137) rfl rfl Try.func14 (by kernel_rfl) rfl #[.slice A599_0 (rd_L3 t594 x131_4).length c599_0] rfl gd_ ?_;(with_reducible refine(impl_ChecksumOf.calls k4 _ _ (rd_L3 t594 x131_4) t600 true _ ?side1 ?side2 A56.out).mono ?_);(case side1=>exact(a17_ HR599_0.out));(case side2=>exact HC599_0.out);rintro e w65 ⟨rfl,hb⟩;refine⟨_,rfl,?_⟩;replace HO_16:=am_ (Kd.R_below ((a1_ HO_16.out)) hb);replace HO_129:=am_ (Kd.R_below ((a1_ HO_129.out)) hb);replace HL599_0:=am_ (Kd.R_below ((a1_ HL599_0.out)) hb);replace HR599_0:=am_ (Kd.C_below ((a12_ HR599_0.out)) hb);replace HB:=am_ (below_step (a0_) hb);(try clear hb);(try clear hb2);(try clear hk);(try clear hi))|((with_reducible refine gate_callee (f:=20) rfl ?_);refine goesL_ (some 143) rfl rfl Try.func20 (by kernel_rfl) rfl #[.slice Ao44 t586.length co44, .slice A599_0 (rd_L3 t594 x131_4).length c599_0] rfl gd_ ?_;(with_reducible refine(impl_DistanceOf.calls k4 _ _ t586 _ _ (rd_L3 t594 x131_4) t602 true _ ?side1 ?side2 ?side3 ?side4 A57.out).mono ?_);(case side1=>exact(a11_ HO_16.out));(case side2=>exact(Kd.R_reads' HO_16.out).2.1);(case side3=>exact(a17_ HR599_0.out));(case side4=>exact HC599_0.out);rintro e w66 ⟨rfl,hb⟩;refine⟨_,rfl,?_⟩;replace HO_16:=am_ (Kd.R_below ((a1_ HO_16.out)) hb);replace HO_129:=am_ (Kd.R_below ((a1_ HO_129.out)) hb);replace HL599_0:=am_ (Kd.R_below ((a1_ HL599_0.out)) hb);replace HR599_0:=am_ (Kd.C_below ((a12_ HR599_0.out)) hb);replace HB:=am_ (below_step (a0_) hb);(try clear hb);(try clear hb2);(try clear hk);(try clear hi))|(go_at_call 21;(with_reducible refine(impl_IsSheet.calls k4 _ _ (rd_L3 t594 x131_4) true _ ?side1 ?side2 A63.out).mono ?_);(case side1=>exact(a17_ HR599_0.out));(case side2=>exact HC599_0.out);rintro e w67 ⟨rfl,hb⟩;replace HO_16:=am_ (Kd.R_below ((a1_ HO_16.out)) hb);replace HO_129:=am_ (Kd.R_below ((a1_ HO_129.out)) hb);replace HL599_0:=am_ (Kd.R_below ((a1_ HL599_0.out)) hb);replace HR599_0:=am_ (Kd.C_below ((a12_ HR599_0.out)) hb);replace HB:=am_ (below_step (a0_) hb);(try clear hb);(try clear hb2);(try clear hk);(try clear hi)))
                        go_roundg k4
                        case measure=>have:=HJ7.out;have:=HJ17.out;have:=HJ41.out;have:=HK4.out;omega
                        case rel=>exact⟨(wrap64 (x131_4+1)),(by first | rfl|(simp;done)|(simp[*];done)),H',⟨by have:=HJ7.out;have:=HJ17.out;have:=HJ41.out;have:=HK4.out;omega⟩,⟨(a1_ HO_16.out)⟩,⟨(a1_ HO_129.out)⟩,⟨a0_⟩⟩
                       ·replace c64:=Bool.eq_false_iff.mpr c64
                        subst c64
                        replace H:(some false)=some r:=by rw[if_neg (show ¬(false=true) by decide)]at H;exact H
                        exact absurd ((Option.some.inj H).trans HR_.out) (by decide)
                      ·rw[if_neg c62]at H
                       have c62b0:(((rd_L3 t594 x131_4).length:Int) == (t586.length:Int))=false:=beq_eq_false_iff_ne.mpr c62
                       have c62b1:(((rd_L3 t594 x131_4).length:Int) != (t586.length:Int))=true:=bne_iff_ne.mpr c62
                       have c62b2:((rd_L3 t594 x131_4).length == t586.length)=false:=by first | simpa using c62|(simp at c62 ⊢;omega)
                       exact absurd ((Option.some.inj H).trans HR_.out) (by decide)
                     ·rw[if_neg c61]at H
                      have c61b0:(t602 == 2)=false:=beq_eq_false_iff_ne.mpr c61
                      have c61b1:(t602 != 2)=true:=bne_iff_ne.mpr c61
                      exact absurd ((Option.some.inj H).trans HR_.out) (by decide)
                    ·replace c60:=Bool.eq_false_iff.mpr c60
                     subst c60
                     replace H:(some false)=some r:=by rw[if_neg (show ¬(false=true) by decide)]at H;exact H
                     exact absurd ((Option.some.inj H).trans HR_.out) (by decide)
                   ·rw[if_neg c59]at H
                    have c59b0:(t600 == t587)=false:=beq_eq_false_iff_ne.mpr c59
                    have c59b1:(t600 != t587)=true:=bne_iff_ne.mpr c59
                    exact absurd ((Option.some.inj H).trans HR_.out) (by decide)
                  ·replace c58:=Bool.eq_false_iff.mpr c58
                   subst c58
                   replace H:(some false)=some r:=by rw[if_neg (show ¬(false=true) by decide)]at H;exact H
                   exact absurd ((Option.some.inj H).trans HR_.out) (by decide)
                 ·rw[if_neg c55]at H
                  exact absurd H (by simp)
                ·rw[if_neg c54]at H
                 exact absurd H (by simp)
               ·rw[if_neg c53]at H
                have c53b0:decide (x131_4<(t594.length:Int))=false:=decide_eq_false c53
                clear c53
                obtain⟨⟨t605,t606,t607,t608⟩,A81,H⟩:=bo_ H
                try dsimp only at H
                obtain⟨⟨t610,t611⟩,A82,H⟩:=bo_ H
                try dsimp only at H
                obtain⟨⟨t612,t613⟩,A83,H⟩:=bo_ H
                try dsimp only at H
                obtain⟨⟨t614,t615,t616⟩,A84,H⟩:=bo_ H
                try dsimp only at H
                obtain⟨⟨t618,t619⟩,A85,H⟩:=bo_ H
                try dsimp only at H
                obtain⟨⟨t620,t621⟩,A86,H⟩:=bo_ H
                try dsimp only at H
                by_cases c87:(t611 == t613)=true
                ·rw[if_pos c87]at H
                 have c87b0:(t611 == t613)=true:=c87
                 (try(have c87b1:decide (t611=t613)=true:=by simpa using c87))
                 (try(have c87b2:(t611 == t613)=true:=by simpa using c87))
                 clear c87
                 by_cases c88:t610=t612
                 ·rw[if_pos c88]at H
                  have c88b0:(t610 == t612)=true:=beq_iff_eq.mpr c88
                  have c88b1:(t610 != t612)=false:=bne_eq_false_iff_eq.mpr c88
                  clear c88
                  by_cases c89:(t619 == t621)=true
                  ·rw[if_pos c89]at H
                   have c89b0:(t619 == t621)=true:=c89
                   (try(have c89b1:decide (t619=t621)=true:=by simpa using c89))
                   (try(have c89b2:(t619 == t621)=true:=by simpa using c89))
                   clear c89
                   obtain rfl:=Option.some.inj H
                   go_wp2_with (first|((with_reducible refine gate_callee (f:=22) rfl ?_);refine goesL_ (some 176) rfl rfl Try.func22 (by kernel_rfl) rfl #[.slice A1 l1.length c1] rfl gd_ ?_;(with_reducible refine(spec_DrawExtendChecksum.calls _ _ l1 t605 t606 t607 t608 _ ?side1 ?side2 A81.out).mono ?_);(case side1=>exact(a13_ HR1.out));(case side2=>exact HC1.out);rintro e w90 ⟨rfl,hb⟩;refine⟨_,rfl,?_⟩;replace HO_16:=am_ (Kd.R_below ((a1_ HO_16.out)) hb);replace HO_129:=am_ (Kd.R_below ((a1_ HO_129.out)) hb);replace HB:=am_ (below_step (a0_) hb);(try clear hb);(try clear hb2);(try clear hk);(try clear hi))|((with_reducible refine gate_dst (N:=29) rfl ?_);(try(refine gate_guard (by rfl) ?_;dsimp only));refine box_event ?hg (N:=29) ?hd (cs:= #[.int .i64 0, .int .i64 0, .int .i64 0]) (t:=42) ?hr ?_;(case hd=>rfl);(case hg=>rfl);(case hr=>exact hr_);intro gb609 hg w91 hbox hb;replace HO_16:=am_ (Kd.R_below (Kd.R_elderB ((a1_ HO_16.out)) gb609 (Nat.le_of_eq hg.symm)) hb);replace HO_129:=am_ (Kd.R_below (Kd.R_elderB ((a1_ HO_129.out)) gb609 (Nat.le_of_eq hg.symm)) hb);have BK609:=am_ (hbox);have GW609:=am_ ((by rw[hg];exact(below_size (a0_)):w.heap.size≤gb609));have GE609:=am_ ((by rw[hg];exact(below_size (a0_)):w.heap.size≤gb609));replace HB:=am_ (below_step (a0_) hb);clear hb hbox hg;have hcz92_0:w91.cell? ⟨gb609,0,none⟩=some (.int .i64 0):=(blk_cell BK609.out 0).trans rfl;have hcz92_1:w91.cell? ⟨gb609,1,none⟩=some (.int .i64 0):=(blk_cell BK609.out 1).trans rfl;have hcz92_2:w91.cell? ⟨gb609,2,none⟩=some (.int .i64 0):=(blk_cell BK609.out 2).trans rfl;have hfz92_0:=blk_frozen BK609.out 0;have hfz92_1:=blk_frozen BK609.out 1;have hfz92_2:=blk_frozen BK609.out 2)|((with_reducible refine gate_callee (f:=23) rfl ?_);refine goesL_ (some 182) rfl rfl Try.func23 (by kernel_rfl) rfl #[.int .i64 t605, .agg #[.int .i64 t606, .int .i64 t607, .int .i64 t608]] rfl gd_ ?_;(with_reducible refine(impl_ExtendChecksum.calls t605 t606 t607 t608 t610 t611 _ A82.out).mono ?_);rintro e w93 ⟨rfl,hb⟩;refine⟨_,rfl,?_⟩;replace HO_16:=am_ (Kd.R_below ((a38_ HO_16.out)) hb);replace HO_129:=am_ (Kd.R_below ((a38_ HO_129.out)) hb);replace BK609:=am_ (blk_below (g:=gb609) (o:= .cells #[.int .i64 t606, .int .i64 t607, .int .i64 t608] 42 (0,0)) (by(with_reducible repeat (first|refine blk_drewN ?_ _ | refine blk_drew ?_ | refine blk_alloc ?_ _));refine blk_put (cs:= #[.int .i64 t606, .int .i64 t607, .int .i64 0]) ?_ 2 _ rfl;(with_reducible repeat (first|refine blk_drewN ?_ _ | refine blk_drew ?_ | refine blk_alloc ?_ _));refine blk_put (cs:= #[.int .i64 t606, .int .i64 0, .int .i64 0]) ?_ 1 _ rfl;(with_reducible repeat (first|refine blk_drewN ?_ _ | refine blk_drew ?_ | refine blk_alloc ?_ _));refine blk_put (cs:= #[.int .i64 0, .int .i64 0, .int .i64 0]) ?_ 0 _ rfl;(with_reducible repeat (first|refine blk_drewN ?_ _ | refine blk_drew ?_ | refine blk_alloc ?_ _));exact BK609.out) hb);replace HB:=am_ (below_step ((a2_ GE609.out)) hb);(try clear hb);(try clear hb2);(try clear hk);(try clear hi);have hcz94_0:w93.cell? ⟨gb609,0,none⟩=some (.int .i64 t606):=(blk_cell BK609.out 0).trans rfl;have hcz94_1:w93.cell? ⟨gb609,1,none⟩=some (.int .i64 t607):=(blk_cell BK609.out 1).trans rfl;have hcz94_2:w93.cell? ⟨gb609,2,none⟩=some (.int .i64 t608):=(blk_cell BK609.out 2).trans rfl;have hfz94_0:=blk_frozen BK609.out 0;have hfz94_1:=blk_frozen BK609.out 1;have hfz94_2:=blk_frozen BK609.out 2)|((with_reducible refine gate_callee (f:=24) rfl ?_);refine goesL_ (some 188) rfl rfl Try.func24 (by kernel_rfl) rfl #[.int .i64 t605, .agg #[.int .i64 t606, .int .i64 t607, .int .i64 t608]] rfl gd_ ?_;(with_reducible refine(spec_ExtendChecksum.calls t605 t606 t607 t608 t612 t613 _ A83.out).mono ?_);rintro e w95 ⟨rfl,hb⟩;refine⟨_,rfl,?_⟩;replace HO_16:=am_ (Kd.R_below ((a1_ HO_16.out)) hb);replace HO_129:=am_ (Kd.R_below ((a1_ HO_129.out)) hb);replace BK609:=am_ (blk_below (g:=gb609) (o:= .cells #[.int .i64 t606, .int .i64 t607, .int .i64 t608] 42 (0,0)) ((a5_ BK609.out)) hb);replace HB:=am_ (below_step ((a2_ GE609.out)) hb);(try clear hb);(try clear hb2);(try clear hk);(try clear hi))|((with_reducible refine gate_callee (f:=25) rfl ?_);refine goesL_ (some 192) rfl rfl Try.func25 (by kernel_rfl) rfl #[.slice A1 l1.length c1] rfl gd_ ?_;(with_reducible refine(spec_DrawHoleNumber.calls _ _ l1 t614 t615 t616 _ ?side1 ?side2 A84.out).mono ?_);(case side1=>exact(a13_ HR1.out));(case side2=>exact HC1.out);rintro e w96 ⟨rfl,hb⟩;refine⟨_,rfl,?_⟩;replace HO_16:=am_ (Kd.R_below ((a1_ HO_16.out)) hb);replace HO_129:=am_ (Kd.R_below ((a1_ HO_129.out)) hb);replace BK609:=am_ (blk_below (g:=gb609) (o:= .cells #[.int .i64 t606, .int .i64 t607, .int .i64 t608] 42 (0,0)) ((a5_ BK609.out)) hb);replace HB:=am_ (below_step ((a2_ GE609.out)) hb);(try clear hb);(try clear hb2);(try clear hk);(try clear hi))|((with_reducible refine gate_dst (N:=34) rfl ?_);(try(refine gate_guard (by rfl) ?_;dsimp only));refine box_event ?hg (N:=34) ?hd (cs:= #[.int .i64 0, .int .i64 0, .int .i64 0]) (t:=42) ?hr ?_;(case hd=>rfl);(case hg=>rfl);(case hr=>exact hr_);intro gb617 hg w97 hbox hb;replace HO_16:=am_ (Kd.R_below (Kd.R_elderB ((a1_ HO_16.out)) gb617 (Nat.le_of_eq hg.symm)) hb);replace HO_129:=am_ (Kd.R_below (Kd.R_elderB ((a1_ HO_129.out)) gb617 (Nat.le_of_eq hg.symm)) hb);have BK617:=am_ (hbox);have GW617:=am_ ((by rw[hg];exact(below_size ((a2_ GE609.out))):w.heap.size≤gb617));have GE617:=am_ ((by rw[hg];exact(below_size ((a2_ GE609.out))):w.heap.size≤gb617));replace HB:=am_ (below_step ((a2_ GE609.out)) hb);have NB609_617:=am_ ((by rw[hg];exact Nat.ne_of_lt (blk_lt (g:=gb609) (o:= .cells #[.int .i64 t606, .int .i64 t607, .int .i64 t608] 42 (0,0)) ((a5_ BK609.out))):gb609≠gb617));have NB617_609:=am_ ((by rw[hg];exact Nat.ne_of_gt (blk_lt (g:=gb609) (o:= .cells #[.int .i64 t606, .int .i64 t607, .int .i64 t608] 42 (0,0)) ((a5_ BK609.out))):gb617≠gb609));replace BK609:=am_ (blk_below (g:=gb609) (o:= .cells #[.int .i64 t606, .int .i64 t607, .int .i64 t608] 42 (0,0)) ((a5_ BK609.out)) hb);clear hb hbox hg;have hnb98:=NB617_609.out;have hnc98:=NB609_617.out;have hcz99_0:w97.cell? ⟨gb617,0,none⟩=some (.int .i64 0):=(blk_cell BK617.out 0).trans rfl;have hcz99_1:w97.cell? ⟨gb617,1,none⟩=some (.int .i64 0):=(blk_cell BK617.out 1).trans rfl;have hcz99_2:w97.cell? ⟨gb617,2,none⟩=some (.int .i64 0):=(blk_cell BK617.out 2).trans rfl;have hfz99_0:=blk_frozen BK617.out 0;have hfz99_1:=blk_frozen BK617.out 1;have hfz99_2:=blk_frozen BK617.out 2)|((with_reducible refine gate_callee (f:=26) rfl ?_);refine goesL_ (some 195) rfl rfl Try.func26 (by kernel_rfl) rfl #[.agg #[.int .i64 t614, .int .i64 t615, .int .i64 t616]] rfl gd_ ?_;(with_reducible refine(impl_HoleNumber.calls t614 t615 t616 t618 t619 _ A85.out).mono ?_);rintro e w100 ⟨rfl,hb⟩;refine⟨_,rfl,?_⟩;replace HO_16:=am_ (Kd.R_below ((a39_ HO_16.out)) hb);replace HO_129:=am_ (Kd.R_below ((a39_ HO_129.out)) hb);replace BK609:=am_ (blk_below (g:=gb609) (o:= .cells #[.int .i64 t606, .int .i64 t607, .int .i64 t608] 42 (0,0)) ((a15_ NB609_617.out BK609.out)) hb);replace BK617:=am_ (blk_below (g:=gb617) (o:= .cells #[.int .i64 t614, .int .i64 t615, .int .i64 t616] 42 (0,0)) (by(with_reducible repeat (first|refine blk_drewN ?_ _ | refine blk_drew ?_ | refine blk_alloc ?_ _));refine blk_put (cs:= #[.int .i64 t614, .int .i64 t615, .int .i64 0]) ?_ 2 _ rfl;(with_reducible repeat (first|refine blk_drewN ?_ _ | refine blk_drew ?_ | refine blk_alloc ?_ _));refine blk_put (cs:= #[.int .i64 t614, .int .i64 0, .int .i64 0]) ?_ 1 _ rfl;(with_reducible repeat (first|refine blk_drewN ?_ _ | refine blk_drew ?_ | refine blk_alloc ?_ _));refine blk_put (cs:= #[.int .i64 0, .int .i64 0, .int .i64 0]) ?_ 0 _ rfl;(with_reducible repeat (first|refine blk_drewN ?_ _ | refine blk_drew ?_ | refine blk_alloc ?_ _));exact BK617.out) hb);replace HB:=am_ (below_step ((a24_ GE609.out GE617.out)) hb);(try clear hb);(try clear hb2);(try clear hk);(try clear hi);have hcz101_0:w100.cell? ⟨gb617,0,none⟩=some (.int .i64 t614):=(blk_cell BK617.out 0).trans rfl;have hcz101_1:w100.cell? ⟨gb617,1,none⟩=some (.int .i64 t615):=(blk_cell BK617.out 1).trans rfl;have hcz101_2:w100.cell? ⟨gb617,2,none⟩=some (.int .i64 t616):=(blk_cell BK617.out 2).trans rfl;have hfz101_0:=blk_frozen BK617.out 0;have hfz101_1:=blk_frozen BK617.out 1;have hfz101_2:=blk_frozen BK617.out 2)|((with_reducible refine gate_callee (f:=27) rfl ?_);refine goesL_ (some 200) rfl rfl Try.func27 (by kernel_rfl) rfl #[.agg #[.int .i64 t614, .int .i64 t615, .int .i64 t616]] rfl gd_ ?_;(with_reducible refine(spec_HoleNumber.calls t614 t615 t616 t620 t621 _ A86.out).mono ?_);rintro e w102 ⟨rfl,hb⟩;refine⟨_,rfl,?_⟩;replace HO_16:=am_ (Kd.R_below ((a1_ HO_16.out)) hb);replace HO_129:=am_ (Kd.R_below ((a1_ HO_129.out)) hb);replace BK609:=am_ (blk_below (g:=gb609) (o:= .cells #[.int .i64 t606, .int .i64 t607, .int .i64 t608] 42 (0,0)) ((a5_ BK609.out)) hb);replace BK617:=am_ (blk_below (g:=gb617) (o:= .cells #[.int .i64 t614, .int .i64 t615, .int .i64 t616] 42 (0,0)) ((a5_ BK617.out)) hb);replace HB:=am_ (below_step ((a24_ GE609.out GE617.out)) hb);(try clear hb);(try clear hb2);(try clear hk);(try clear hi)))
                   go_ret
                   exact⟨a9_,(a24_ GE609.out GE617.out)⟩
                  ·rw[if_neg c89]at H
                   have c89b0:(t619 == t621)=false:=by simpa using c89
                   (try(have c89b1:decide (t619=t621)=false:=by simpa using c89))
                   (try(have c89b2:(t619 == t621)=false:=by simpa using c89))
                   (try(have c89b3:¬(t619=t621):=by simpa using c89))
                   clear c89
                   exact absurd ((Option.some.inj H).trans HR_.out) (by decide)
                 ·rw[if_neg c88]at H
                  have c88b0:(t610 == t612)=false:=beq_eq_false_iff_ne.mpr c88
                  have c88b1:(t610 != t612)=true:=bne_iff_ne.mpr c88
                  exact absurd ((Option.some.inj H).trans HR_.out) (by decide)
                ·rw[if_neg c87]at H
                 have c87b0:(t611 == t613)=false:=by simpa using c87
                 (try(have c87b1:decide (t611=t613)=false:=by simpa using c87))
                 (try(have c87b2:(t611 == t613)=false:=by simpa using c87))
                 (try(have c87b3:¬(t611=t613):=by simpa using c87))
                 clear c87
                 exact absurd ((Option.some.inj H).trans HR_.out) (by decide)
/-- THE ONE PURE STATEMENT of laws_FnCopies: yours. -/
def laws_FnCopies.Pure:Prop:= ∀(l0:List Int) (l1:List Int),l0.length≤maxLen→l0.length*1≤140737488351232→(∀x∈l0,(Lit.int .u8 x).wf=true)→l1.length≤maxLen→l1.length*1≤140737488351232→(∀x∈l1,(Lit.int .u8 x).wf=true)→∃k,laws_FnCopies.f k l0 l1=some true
theorem laws_FnCopies.walk (P:laws_FnCopies.Pure) (a0:Option Addr) (len0 cap0:Nat) (z0:List Int) (a1:Option Addr) (len1 cap1:Nat) (z1:List Int) (w:World) (w0:(a0=none∧len0=0∧cap0=0∧z0 = [])∨∃x,a0=some x∧len0≤cap0∧cap0≤maxLen∧z0.length=cap0∧(∀i,i<z0.length→w.cell? (x.add i)=some (.int .u8 (z0.getD i 0)))∧∀n∈z0,(Lit.int .u8 n).wf=true) (y0:len0*1≤140737488351232) (w1:(a1=none∧len1=0∧cap1=0∧z1 = [])∨∃x,a1=some x∧len1≤cap1∧cap1≤maxLen∧z1.length=cap1∧(∀i,i<z1.length→w.cell? (x.add i)=some (.int .u8 (z1.getD i 0)))∧∀n∈z1,(Lit.int .u8 n).wf=true) (y1:len1*1≤140737488351232) :
 Calls Try.prog 3 #[.slice a0 len0 cap0, .slice a1 len1 cap1] w fun e w'=>e = .returned (.bool true)∧Below w.heap.size w w':=by
 obtain⟨l0,rfl,hr0,hm0,hw0,hc0⟩:=ReadsInt.ofRowC w0
 obtain⟨l1,rfl,hr1,hm1,hw1,hc1⟩:=ReadsInt.ofRowC w1
 obtain⟨k,h⟩:=P l0 l1 hm0 y0 hw0 hm1 y1 hw1
 refine(laws_FnCopies.calls k _ _ l0 _ _ l1 true w (Kd.C_of_reads (d:=(0:Int)) (h1:=fun _=>rfl) hr0) hc0 (Kd.C_of_reads (d:=(0:Int)) (h1:=fun _=>rfl) hr1) hc1 h rfl).mono ?_
 rintro e w' ⟨rfl,hd⟩
 exact⟨rfl,hd⟩

end Go.Proofs.Ytplpjmhmochcfaa.QFnCopies
