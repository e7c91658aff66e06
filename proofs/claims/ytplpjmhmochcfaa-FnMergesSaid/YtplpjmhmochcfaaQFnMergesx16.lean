/- Written by a program of this session (the kit's printer, with leaf contracts proved by hand put in): what each Go function computes, and that the call computes it. No condition but those that each theorem names. -/
import Derived.Test.YtplpjmhmochcfaaQFnMergesx0
import Derived.Test.YtplpjmhmochcfaaQFnMergesx1
import Derived.Test.YtplpjmhmochcfaaQFnMergesx2
import Derived.Test.YtplpjmhmochcfaaQFnMergesx3
import Derived.Test.YtplpjmhmochcfaaQFnMergesx7
import Derived.Test.YtplpjmhmochcfaaQFnMergesx9
import Derived.Test.YtplpjmhmochcfaaQFnMergesx10
import Derived.Test.YtplpjmhmochcfaaQFnMergesx11
import Derived.Test.YtplpjmhmochcfaaQFnMergesx14
import Derived.Test.YtplpjmhmochcfaaQFnMergesx15
namespace Go.Proofs.Ytplpjmhmochcfaa.QFnMerges
open Go.RowKit Go.Proofs.YtplpjmhmochcfaaW.PrintWords Go.Proofs.YtplpjmhmochcfaaW.PrintLast Go.Proofs.YtplpjmhmochcfaaW.PrintMore
attribute [local go_sem] max2_int min2_int max_two min_two max_three min_three max_four min_four   -- for this text's walks alone
set_option linter.unusedVariables false
set_option linter.unusedSimpArgs false

attribute [local go_sem high] eqA42
/-! ### laws_FnMerges: function 7 -/
mutual
def laws_FnMerges.j0:Nat→List Int→List (S42)→List (S42)→List (S42)→Bool→List (S42)→Bool→List (List (S42))→List (S42)→Bool→List (S42)→Int→Bool→Option (Bool)
 | 0,_,_,_,_,_,_,_,_,_,_,_,_,_=>none
 | k+1,x1,x5,x6,x7,x9,x10,x13,x14,x16,x18,x19,x20,x149=>if x149=true then(some false) else(if x9=true then((impl_MergeSheets.f k x5 x7 x6).bind fun bt612=>(if bt612.2=true then((laws_pSameHoles.f k bt612.1 x10).bind fun t616=>(if t616=true then(if x18=true then(if x20=0 then((laws_pSameHoles.f k x19 x10).bind fun t617=>(if t617=true then(laws_FnMerges.j1 k x1 x5 x6 x7 x13 x14 x16 x18 x20) else(some false))) else(some false)) else(some false)) else(some false))) else(some false))) else(laws_FnMerges.j1 k x1 x5 x6 x7 x13 x14 x16 x18 x20))
def laws_FnMerges.j1:Nat→List Int→List (S42)→List (S42)→List (S42)→Bool→List (List (S42))→List (S42)→Bool→Int→Option (Bool)
 | 0,_,_,_,_,_,_,_,_,_=>none
 | k+1,x1,x5,x6,x7,x13,x14,x16,x18,x20=>if x13=true then((impl_MergeSheets.f k x5 x6 x5).bind fun bt618=>((impl_MergeSheets.f k x5 x7 x7).bind fun bt622=>(if bt618.2=true then((laws_pSameHoles.f k bt618.1 x6).bind fun t626=>(if t626=true then(if bt622.2=true then((laws_pSameHoles.f k bt622.1 x7).bind fun t627=>(laws_FnMerges.j2 k x1 x7 x14 x16 x18 x20 (!t627))) else(laws_FnMerges.j2 k x1 x7 x14 x16 x18 x20 true)) else(laws_FnMerges.j2 k x1 x7 x14 x16 x18 x20 true))) else(laws_FnMerges.j2 k x1 x7 x14 x16 x18 x20 true)))) else(laws_FnMerges.j4 k x1 x7 x16 x18 x20)
def laws_FnMerges.j4:Nat→List Int→List (S42)→List (S42)→Bool→Int→Option (Bool)
 | 0,_,_,_,_,_=>none
 | k+1,x1,x7,x16,x18,x20=>if x18=true then((impl_IsSheet.f k x16).bind fun t637=>(if t637=true then(if x20<0 then(laws_FnMerges.j5 k x1 true) else(laws_FnMerges.j5 k x1 (decide (x20>(x7.length:Int))))) else(laws_FnMerges.j5 k x1 true))) else(laws_FnMerges.j5 k x1 false)
def laws_FnMerges.j5:Nat→List Int→Bool→Option (Bool)
 | 0,_,_=>none
 | k+1,x1,x280=>if x280=true then(some false) else((spec_DrawMergeFirst.f k x1).bind fun bt638=>((impl_MergeFirst.f k bt638.1 bt638.2.1 bt638.2.2).bind fun bt647=>((spec_MergeFirst.f k bt638.1 bt638.2.1 bt638.2.2).bind fun bt652=>(if(bt647.2.2 == bt652.2.2)=true then((laws_pSameHoles.f k bt647.1 bt652.1).bind fun t657=>(if t657=true then(some (bt647.2.1 == bt652.2.1)) else(some false))) else(some false)))))
def laws_FnMerges.j2:Nat→List Int→List (S42)→List (List (S42))→List (S42)→Bool→Int→Bool→Option (Bool)
 | 0,_,_,_,_,_,_,_=>none
 | k+1,x1,x7,x14,x16,x18,x20,x212=>if x212=true then(some false) else(laws_FnMerges.l0 k x1 x7 x16 x18 x20 x14 (x14.length:Int) 0)
def laws_FnMerges.l0:Nat→List Int→List (S42)→List (S42)→Bool→Int→List (List (S42))→Int→Int→Option (Bool)
 | 0,_,_,_,_,_,_,_,_=>none
 | k+1,x1,x7,x16,x18,x20,x213,x214,x215=>if x215<x214 then(if 0≤x215 then(if x215<(x213.length:Int) then(if((rd_L3 x213 x215).length:Int)=2 then(if 0<((rd_L3 x213 x215).length:Int) then(if 1<((rd_L3 x213 x215).length:Int) then(if(((rd_T42 (rd_L3 x213 x215) 0).f0) == ((rd_T42 (rd_L3 x213 x215) 1).f0) && (((rd_T42 (rd_L3 x213 x215) 0).f1) == ((rd_T42 (rd_L3 x213 x215) 1).f1) && (((rd_T42 (rd_L3 x213 x215) 0).f2) == ((rd_T42 (rd_L3 x213 x215) 1).f2))))=true then(some false) else(if((rd_T42 (rd_L3 x213 x215) 0).f0)=((rd_T42 (rd_L3 x213 x215) 1).f0) then(if((rd_T42 (rd_L3 x213 x215) 0).f2)<((rd_T42 (rd_L3 x213 x215) 1).f1) then(some false) else(if((rd_T42 (rd_L3 x213 x215) 1).f2)<((rd_T42 (rd_L3 x213 x215) 0).f1) then(some false) else(laws_FnMerges.l0 k x1 x7 x16 x18 x20 x213 x214 (wrap64 (x215+1))))) else(some false))) else(none)) else(none)) else(some false)) else(none)) else(none)) else(laws_FnMerges.j4 k x1 x7 x16 x18 x20)
end
def laws_FnMerges.f (k:Nat) (l0:List Int) (l1:List Int):Option (Bool):=(laws_big.f l0 l1).bind fun t573=>(if t573=true then(some true) else((spec_DrawMergeSheets.f k l0).bind fun bt574=>((impl_MergeSheets.f k bt574.1 bt574.2.1 bt574.2.2).bind fun bt583=>((spec_MergeSheets.f k bt574.1 bt574.2.1 bt574.2.2).bind fun bt587=>((impl_ClashingHoles.f k bt574.1 bt574.2.1 bt574.2.2).bind fun bt591=>((spec_ClashingHoles.f k bt574.1 bt574.2.1 bt574.2.2).bind fun bt595=>((impl_MergeFirst.f k bt574.1 bt574.2.1 bt574.2.2).bind fun bt599=>((spec_MergeFirst.f k bt574.1 bt574.2.1 bt574.2.2).bind fun bt604=>(if(bt583.2 != bt587.2)=true then(laws_FnMerges.j0 k l1 bt574.1 bt574.2.1 bt574.2.2 bt583.2 bt587.1 bt591.2 bt595.1 bt599.1 bt599.2.2 bt604.1 bt604.2.1 true) else((laws_pSameHoles.f k bt583.1 bt587.1).bind fun t609=>(if t609=true then(if(bt591.2 != bt595.2)=true then(laws_FnMerges.j0 k l1 bt574.1 bt574.2.1 bt574.2.2 bt583.2 bt587.1 bt591.2 bt595.1 bt599.1 bt599.2.2 bt604.1 bt604.2.1 true) else((laws_pSameSheets.f k bt591.1 bt595.1).bind fun t610=>(if t610=true then(if(bt599.2.2 != bt604.2.2)=true then(laws_FnMerges.j0 k l1 bt574.1 bt574.2.1 bt574.2.2 bt583.2 bt587.1 bt591.2 bt595.1 bt599.1 bt599.2.2 bt604.1 bt604.2.1 true) else((laws_pSameHoles.f k bt599.1 bt604.1).bind fun t611=>(if t611=true then(if bt599.2.1=bt604.2.1 then(if bt583.2=true then(if bt591.2=true then(if bt599.2.2=true then(laws_FnMerges.j0 k l1 bt574.1 bt574.2.1 bt574.2.2 bt583.2 bt587.1 bt591.2 bt595.1 bt599.1 bt599.2.2 bt604.1 bt604.2.1 (decide ((bt595.1.length:Int)>0))) else(laws_FnMerges.j0 k l1 bt574.1 bt574.2.1 bt574.2.2 bt583.2 bt587.1 bt591.2 bt595.1 bt599.1 bt599.2.2 bt604.1 bt604.2.1 (decide ((bt595.1.length:Int)>0)))) else(laws_FnMerges.j0 k l1 bt574.1 bt574.2.1 bt574.2.2 bt583.2 bt587.1 bt591.2 bt595.1 bt599.1 bt599.2.2 bt604.1 bt604.2.1 true)) else(if bt599.2.2=true then(if bt591.2=true then(laws_FnMerges.j0 k l1 bt574.1 bt574.2.1 bt574.2.2 bt583.2 bt587.1 bt591.2 bt595.1 bt599.1 bt599.2.2 bt604.1 bt604.2.1 false) else(laws_FnMerges.j0 k l1 bt574.1 bt574.2.1 bt574.2.2 bt583.2 bt587.1 bt591.2 bt595.1 bt599.1 bt599.2.2 bt604.1 bt604.2.1 true)) else(laws_FnMerges.j0 k l1 bt574.1 bt574.2.1 bt574.2.2 bt583.2 bt587.1 bt591.2 bt595.1 bt599.1 bt599.2.2 bt604.1 bt604.2.1 false))) else(laws_FnMerges.j0 k l1 bt574.1 bt574.2.1 bt574.2.2 bt583.2 bt587.1 bt591.2 bt595.1 bt599.1 bt599.2.2 bt604.1 bt604.2.1 true)) else(laws_FnMerges.j0 k l1 bt574.1 bt574.2.1 bt574.2.2 bt583.2 bt587.1 bt591.2 bt595.1 bt599.1 bt599.2.2 bt604.1 bt604.2.1 true)))) else(laws_FnMerges.j0 k l1 bt574.1 bt574.2.1 bt574.2.2 bt583.2 bt587.1 bt591.2 bt595.1 bt599.1 bt599.2.2 bt604.1 bt604.2.1 true)))) else(laws_FnMerges.j0 k l1 bt574.1 bt574.2.1 bt574.2.2 bt583.2 bt587.1 bt591.2 bt595.1 bt599.1 bt599.2.2 bt604.1 bt604.2.1 true))))))))))))
theorem laws_FnMerges.mono_l:∀k,(∀y0 y1 y2 y3 y4 y5 y6 y7 y8 y9 y10 y11 y12,LeO (laws_FnMerges.j0 k y0 y1 y2 y3 y4 y5 y6 y7 y8 y9 y10 y11 y12) (laws_FnMerges.j0 (k+1) y0 y1 y2 y3 y4 y5 y6 y7 y8 y9 y10 y11 y12))∧(∀y0 y1 y2 y3 y4 y5 y6 y7 y8,LeO (laws_FnMerges.j1 k y0 y1 y2 y3 y4 y5 y6 y7 y8) (laws_FnMerges.j1 (k+1) y0 y1 y2 y3 y4 y5 y6 y7 y8))∧(∀y0 y1 y2 y3 y4,LeO (laws_FnMerges.j4 k y0 y1 y2 y3 y4) (laws_FnMerges.j4 (k+1) y0 y1 y2 y3 y4))∧(∀y0 y1,LeO (laws_FnMerges.j5 k y0 y1) (laws_FnMerges.j5 (k+1) y0 y1))∧(∀y0 y1 y2 y3 y4 y5 y6,LeO (laws_FnMerges.j2 k y0 y1 y2 y3 y4 y5 y6) (laws_FnMerges.j2 (k+1) y0 y1 y2 y3 y4 y5 y6))∧(∀y0 y1 y2 y3 y4 y5 y6 y7,LeO (laws_FnMerges.l0 k y0 y1 y2 y3 y4 y5 y6 y7) (laws_FnMerges.l0 (k+1) y0 y1 y2 y3 y4 y5 y6 y7))
 | 0=>⟨fun _ _ _ _ _ _ _ _ _ _ _ _ _ r h=>by simp[laws_FnMerges.j0]at h,fun _ _ _ _ _ _ _ _ _ r h=>by simp[laws_FnMerges.j1]at h,fun _ _ _ _ _ r h=>by simp[laws_FnMerges.j4]at h,fun _ _ r h=>by simp[laws_FnMerges.j5]at h,fun _ _ _ _ _ _ _ r h=>by simp[laws_FnMerges.j2]at h,fun _ _ _ _ _ _ _ _ r h=>by simp[laws_FnMerges.l0]at h⟩
 | k+1=>by
  obtain⟨ih0,ih1,ih2,ih3,ih4,ih5⟩:=laws_FnMerges.mono_l k
  refine⟨?_,?_,?_,?_,?_,?_⟩
  intros
  unfold laws_FnMerges.j0
  rotate_left
  intros
  unfold laws_FnMerges.j1
  rotate_left
  intros
  unfold laws_FnMerges.j4
  rotate_left
  intros
  unfold laws_FnMerges.j5
  rotate_left
  intros
  unfold laws_FnMerges.j2
  rotate_left
  intros
  unfold laws_FnMerges.l0
  rotate_left
  all_goals repeat' first|(with_reducible first|exact ih0 _ _ _ _ _ _ _ _ _ _ _ _ _|exact ih1 _ _ _ _ _ _ _ _ _|exact ih2 _ _ _ _ _|exact ih3 _ _|exact ih4 _ _ _ _ _ _ _|exact ih5 _ _ _ _ _ _ _ _|exact impl_ClashingHoles.mono _ _ _ _|exact impl_IsSheet.mono _ _|exact impl_MergeFirst.mono _ _ _ _|exact impl_MergeSheets.mono _ _ _ _|exact laws_pSameHoles.mono _ _ _|exact laws_pSameSheets.mono _ _ _|exact spec_ClashingHoles.mono _ _ _ _|exact spec_DrawMergeFirst.mono _ _|exact spec_DrawMergeSheets.mono _ _|exact spec_MergeFirst.mono _ _ _ _|exact spec_MergeSheets.mono _ _ _ _|exact LeO.refl _|exact LeO.none _|refine LeO.ite ?_ ?_|refine LeO.bind ?_ (fun _=>?_))|exact ih0 _ _ _ _ _ _ _ _ _ _ _ _ _|exact ih1 _ _ _ _ _ _ _ _ _|exact ih2 _ _ _ _ _|exact ih3 _ _|exact ih4 _ _ _ _ _ _ _|exact ih5 _ _ _ _ _ _ _ _|exact impl_ClashingHoles.mono _ _ _ _|exact impl_IsSheet.mono _ _|exact impl_MergeFirst.mono _ _ _ _|exact impl_MergeSheets.mono _ _ _ _|exact laws_pSameHoles.mono _ _ _|exact laws_pSameSheets.mono _ _ _|exact spec_ClashingHoles.mono _ _ _ _|exact spec_DrawMergeFirst.mono _ _|exact spec_DrawMergeSheets.mono _ _|exact spec_MergeFirst.mono _ _ _ _|exact spec_MergeSheets.mono _ _ _ _|exact LeO.none _|refine LeO.ite ?_ ?_|refine LeO.bind ?_ (fun _=>?_)
theorem laws_FnMerges.mono:∀a0 a1 k,LeO (laws_FnMerges.f k a0 a1) (laws_FnMerges.f (k+1) a0 a1):=by
 intro a0 a1 k
 obtain⟨ih0,ih1,ih2,ih3,ih4,ih5⟩:=laws_FnMerges.mono_l k
 unfold laws_FnMerges.f
 repeat' first
  |(with_reducible exact ih0 _ _ _ _ _ _ _ _ _ _ _ _ _)
  |(with_reducible exact ih1 _ _ _ _ _ _ _ _ _)
  |(with_reducible exact ih2 _ _ _ _ _)
  |(with_reducible exact ih3 _ _)
  |(with_reducible exact ih4 _ _ _ _ _ _ _)
  |(with_reducible exact ih5 _ _ _ _ _ _ _ _)
  |(with_reducible exact impl_ClashingHoles.mono _ _ _ _)
  |(with_reducible exact impl_IsSheet.mono _ _)
  |(with_reducible exact impl_MergeFirst.mono _ _ _ _)
  |(with_reducible exact impl_MergeSheets.mono _ _ _ _)
  |(with_reducible exact laws_pSameHoles.mono _ _ _)
  |(with_reducible exact laws_pSameSheets.mono _ _ _)
  |(with_reducible exact spec_ClashingHoles.mono _ _ _ _)
  |(with_reducible exact spec_DrawMergeFirst.mono _ _)
  |(with_reducible exact spec_DrawMergeSheets.mono _ _)
  |(with_reducible exact spec_MergeFirst.mono _ _ _ _)
  |(with_reducible exact spec_MergeSheets.mono _ _ _ _)
  |(with_reducible exact LeO.refl _)
  |(with_reducible exact LeO.none _)
  |(with_reducible refine LeO.ite ?_ ?_)
  |(with_reducible refine LeO.bind ?_ (fun _=>?_))
  |exact ih0 _ _ _ _ _ _ _ _ _ _ _ _ _
  |exact ih1 _ _ _ _ _ _ _ _ _
  |exact ih2 _ _ _ _ _
  |exact ih3 _ _
  |exact ih4 _ _ _ _ _ _ _
  |exact ih5 _ _ _ _ _ _ _ _
  |exact impl_ClashingHoles.mono _ _ _ _
  |exact impl_IsSheet.mono _ _
  |exact impl_MergeFirst.mono _ _ _ _
  |exact impl_MergeSheets.mono _ _ _ _
  |exact laws_pSameHoles.mono _ _ _
  |exact laws_pSameSheets.mono _ _ _
  |exact spec_ClashingHoles.mono _ _ _ _
  |exact spec_DrawMergeFirst.mono _ _
  |exact spec_DrawMergeSheets.mono _ _
  |exact spec_MergeFirst.mono _ _ _ _
  |exact spec_MergeSheets.mono _ _ _ _
  |exact LeO.none _
   | refine LeO.ite ?_ ?_
   | refine LeO.bind ?_ (fun _=>?_)
theorem laws_FnMerges.j0_true:∀ {k y0 y1 y2 y3 y4 y5 y6 y7 y8 y9 y10 y11},laws_FnMerges.j0 k y0 y1 y2 y3 y4 y5 y6 y7 y8 y9 y10 y11 true=some true→False:=by
 intro k y0 y1 y2 y3 y4 y5 y6 y7 y8 y9 y10 y11 h
 cases k with
 | zero=>simp only[laws_FnMerges.j0]at h;cases h
 | succ k=>rw[laws_FnMerges.j0,if_pos rfl]at h;cases h
theorem laws_FnMerges.j5_true:∀ {k y0},laws_FnMerges.j5 k y0 true=some true→False:=by
 intro k y0 h
 cases k with
 | zero=>simp only[laws_FnMerges.j5]at h;cases h
 | succ k=>rw[laws_FnMerges.j5,if_pos rfl]at h;cases h
theorem laws_FnMerges.j2_true:∀ {k y0 y1 y2 y3 y4 y5},laws_FnMerges.j2 k y0 y1 y2 y3 y4 y5 true=some true→False:=by
 intro k y0 y1 y2 y3 y4 y5 h
 cases k with
 | zero=>simp only[laws_FnMerges.j2]at h;cases h
 | succ k=>rw[laws_FnMerges.j2,if_pos rfl]at h;cases h
set_option maxHeartbeats 40000000 in
set_option maxRecDepth 100000 in
theorem laws_FnMerges.calls (k:Nat) (A0:Option Addr) (c0:Nat) (l0:List Int) (A1:Option Addr) (c1:Nat) (l1:List Int) (r:Bool) (w:World) (hr0:Kd.C (Kd.int .u8) w A0 l0.length l0) (hc0:l0.length≤c0) (hr1:Kd.C (Kd.int .u8) w A1 l1.length l1) (hc1:l1.length≤c1) (h:laws_FnMerges.f k l0 l1=some r) (hr_:r=true) :
 Calls Try.prog 7 #[.slice A0 l0.length c0, .slice A1 l1.length c1] w fun e w'=>e = .returned (.bool r)∧Below w.heap.size w w':=by
 have HR_:=am_ hr_
 clear hr_
 have hu42:=Try.underlying42
 have HR0:=am_ hr0
 have HC0:=am_ hc0
 clear hr0 hc0
 have HR1:=am_ hr1
 have HC1:=am_ hc1
 clear hr1 hc1
 have HB:=am_ (Below.refl w.heap.size w)
 have H:((laws_big.f l0 l1).bind fun t573=>(if t573=true then(some true) else((spec_DrawMergeSheets.f k l0).bind fun bt574=>((impl_MergeSheets.f k bt574.1 bt574.2.1 bt574.2.2).bind fun bt583=>((spec_MergeSheets.f k bt574.1 bt574.2.1 bt574.2.2).bind fun bt587=>((impl_ClashingHoles.f k bt574.1 bt574.2.1 bt574.2.2).bind fun bt591=>((spec_ClashingHoles.f k bt574.1 bt574.2.1 bt574.2.2).bind fun bt595=>((impl_MergeFirst.f k bt574.1 bt574.2.1 bt574.2.2).bind fun bt599=>((spec_MergeFirst.f k bt574.1 bt574.2.1 bt574.2.2).bind fun bt604=>(if(bt583.2 != bt587.2)=true then(laws_FnMerges.j0 k l1 bt574.1 bt574.2.1 bt574.2.2 bt583.2 bt587.1 bt591.2 bt595.1 bt599.1 bt599.2.2 bt604.1 bt604.2.1 true) else((laws_pSameHoles.f k bt583.1 bt587.1).bind fun t609=>(if t609=true then(if(bt591.2 != bt595.2)=true then(laws_FnMerges.j0 k l1 bt574.1 bt574.2.1 bt574.2.2 bt583.2 bt587.1 bt591.2 bt595.1 bt599.1 bt599.2.2 bt604.1 bt604.2.1 true) else((laws_pSameSheets.f k bt591.1 bt595.1).bind fun t610=>(if t610=true then(if(bt599.2.2 != bt604.2.2)=true then(laws_FnMerges.j0 k l1 bt574.1 bt574.2.1 bt574.2.2 bt583.2 bt587.1 bt591.2 bt595.1 bt599.1 bt599.2.2 bt604.1 bt604.2.1 true) else((laws_pSameHoles.f k bt599.1 bt604.1).bind fun t611=>(if t611=true then(if bt599.2.1=bt604.2.1 then(if bt583.2=true then(if bt591.2=true then(if bt599.2.2=true then(laws_FnMerges.j0 k l1 bt574.1 bt574.2.1 bt574.2.2 bt583.2 bt587.1 bt591.2 bt595.1 bt599.1 bt599.2.2 bt604.1 bt604.2.1 (decide ((bt595.1.length:Int)>0))) else(laws_FnMerges.j0 k l1 bt574.1 bt574.2.1 bt574.2.2 bt583.2 bt587.1 bt591.2 bt595.1 bt599.1 bt599.2.2 bt604.1 bt604.2.1 (decide ((bt595.1.length:Int)>0)))) else(laws_FnMerges.j0 k l1 bt574.1 bt574.2.1 bt574.2.2 bt583.2 bt587.1 bt591.2 bt595.1 bt599.1 bt599.2.2 bt604.1 bt604.2.1 true)) else(if bt599.2.2=true then(if bt591.2=true then(laws_FnMerges.j0 k l1 bt574.1 bt574.2.1 bt574.2.2 bt583.2 bt587.1 bt591.2 bt595.1 bt599.1 bt599.2.2 bt604.1 bt604.2.1 false) else(laws_FnMerges.j0 k l1 bt574.1 bt574.2.1 bt574.2.2 bt583.2 bt587.1 bt591.2 bt595.1 bt599.1 bt599.2.2 bt604.1 bt604.2.1 true)) else(laws_FnMerges.j0 k l1 bt574.1 bt574.2.1 bt574.2.2 bt583.2 bt587.1 bt591.2 bt595.1 bt599.1 bt599.2.2 bt604.1 bt604.2.1 false))) else(laws_FnMerges.j0 k l1 bt574.1 bt574.2.1 bt574.2.2 bt583.2 bt587.1 bt591.2 bt595.1 bt599.1 bt599.2.2 bt604.1 bt604.2.1 true)) else(laws_FnMerges.j0 k l1 bt574.1 bt574.2.1 bt574.2.2 bt583.2 bt587.1 bt591.2 bt595.1 bt599.1 bt599.2.2 bt604.1 bt604.2.1 true)))) else(laws_FnMerges.j0 k l1 bt574.1 bt574.2.1 bt574.2.2 bt583.2 bt587.1 bt591.2 bt595.1 bt599.1 bt599.2.2 bt604.1 bt604.2.1 true)))) else(laws_FnMerges.j0 k l1 bt574.1 bt574.2.1 bt574.2.2 bt583.2 bt587.1 bt591.2 bt595.1 bt599.1 bt599.2.2 bt604.1 bt604.2.1 true)))))))))))))=some r:=h
 clear h
 obtain⟨t573,A3,H⟩:=bo_ H
 try dsimp only at H
 by_cases c4:t573=true
 ·subst c4
  replace H:(some true)=some r:=by rw[if_pos rfl]at H;exact H
  obtain rfl:=Option.some.inj H
  go_enter Try.func7,Try.ntmps7
  iterate 6 (go_wp2_with (first|(go_at_call 9;(with_reducible refine(laws_big.calls _ _ l0 _ _ l1 true _ ?side1 ?side2 ?side3 ?side4 A3.out).mono ?_);(case side1=>exact(a16_ HR0.out));(case side2=>exact HC0.out);(case side3=>exact(a16_ HR1.out));(case side4=>exact HC1.out);rintro e w' ⟨rfl,⟨nd,rfl⟩⟩;(try first|exact⟨rfl,_,World.drewN_drewN _ _ _⟩|exact⟨rfl,_,Eq.trans (World.drewN_drewN _ _ _) (congrArg (World.drewN _) (Nat.add_assoc _ _ _))⟩)));try go_quiet (first|(go_at_call 9;(with_reducible refine(laws_big.calls _ _ l0 _ _ l1 true _ ?side1 ?side2 ?side3 ?side4 A3.out).mono ?_);(case side1=>exact(a16_ HR0.out));(case side2=>exact HC0.out);(case side3=>exact(a16_ HR1.out));(case side4=>exact HC1.out);rintro e w' ⟨rfl,⟨nd,rfl⟩⟩;(try first|exact⟨rfl,_,World.drewN_drewN _ _ _⟩|exact⟨rfl,_,Eq.trans (World.drewN_drewN _ _ _) (congrArg (World.drewN _) (Nat.add_assoc _ _ _))⟩))))
  go_ret
  exact⟨a12_,a1_⟩
 ·replace c4:=Bool.eq_false_iff.mpr c4
  subst c4
  replace H:((spec_DrawMergeSheets.f k l0).bind fun bt574=>((impl_MergeSheets.f k bt574.1 bt574.2.1 bt574.2.2).bind fun bt583=>((spec_MergeSheets.f k bt574.1 bt574.2.1 bt574.2.2).bind fun bt587=>((impl_ClashingHoles.f k bt574.1 bt574.2.1 bt574.2.2).bind fun bt591=>((spec_ClashingHoles.f k bt574.1 bt574.2.1 bt574.2.2).bind fun bt595=>((impl_MergeFirst.f k bt574.1 bt574.2.1 bt574.2.2).bind fun bt599=>((spec_MergeFirst.f k bt574.1 bt574.2.1 bt574.2.2).bind fun bt604=>(if(bt583.2 != bt587.2)=true then(laws_FnMerges.j0 k l1 bt574.1 bt574.2.1 bt574.2.2 bt583.2 bt587.1 bt591.2 bt595.1 bt599.1 bt599.2.2 bt604.1 bt604.2.1 true) else((laws_pSameHoles.f k bt583.1 bt587.1).bind fun t609=>(if t609=true then(if(bt591.2 != bt595.2)=true then(laws_FnMerges.j0 k l1 bt574.1 bt574.2.1 bt574.2.2 bt583.2 bt587.1 bt591.2 bt595.1 bt599.1 bt599.2.2 bt604.1 bt604.2.1 true) else((laws_pSameSheets.f k bt591.1 bt595.1).bind fun t610=>(if t610=true then(if(bt599.2.2 != bt604.2.2)=true then(laws_FnMerges.j0 k l1 bt574.1 bt574.2.1 bt574.2.2 bt583.2 bt587.1 bt591.2 bt595.1 bt599.1 bt599.2.2 bt604.1 bt604.2.1 true) else((laws_pSameHoles.f k bt599.1 bt604.1).bind fun t611=>(if t611=true then(if bt599.2.1=bt604.2.1 then(if bt583.2=true then(if bt591.2=true then(if bt599.2.2=true then(laws_FnMerges.j0 k l1 bt574.1 bt574.2.1 bt574.2.2 bt583.2 bt587.1 bt591.2 bt595.1 bt599.1 bt599.2.2 bt604.1 bt604.2.1 (decide ((bt595.1.length:Int)>0))) else(laws_FnMerges.j0 k l1 bt574.1 bt574.2.1 bt574.2.2 bt583.2 bt587.1 bt591.2 bt595.1 bt599.1 bt599.2.2 bt604.1 bt604.2.1 (decide ((bt595.1.length:Int)>0)))) else(laws_FnMerges.j0 k l1 bt574.1 bt574.2.1 bt574.2.2 bt583.2 bt587.1 bt591.2 bt595.1 bt599.1 bt599.2.2 bt604.1 bt604.2.1 true)) else(if bt599.2.2=true then(if bt591.2=true then(laws_FnMerges.j0 k l1 bt574.1 bt574.2.1 bt574.2.2 bt583.2 bt587.1 bt591.2 bt595.1 bt599.1 bt599.2.2 bt604.1 bt604.2.1 false) else(laws_FnMerges.j0 k l1 bt574.1 bt574.2.1 bt574.2.2 bt583.2 bt587.1 bt591.2 bt595.1 bt599.1 bt599.2.2 bt604.1 bt604.2.1 true)) else(laws_FnMerges.j0 k l1 bt574.1 bt574.2.1 bt574.2.2 bt583.2 bt587.1 bt591.2 bt595.1 bt599.1 bt599.2.2 bt604.1 bt604.2.1 false))) else(laws_FnMerges.j0 k l1 bt574.1 bt574.2.1 bt574.2.2 bt583.2 bt587.1 bt591.2 bt595.1 bt599.1 bt599.2.2 bt604.1 bt604.2.1 true)) else(laws_FnMerges.j0 k l1 bt574.1 bt574.2.1 bt574.2.2 bt583.2 bt587.1 bt591.2 bt595.1 bt599.1 bt599.2.2 bt604.1 bt604.2.1 true)))) else(laws_FnMerges.j0 k l1 bt574.1 bt574.2.1 bt574.2.2 bt583.2 bt587.1 bt591.2 bt595.1 bt599.1 bt599.2.2 bt604.1 bt604.2.1 true)))) else(laws_FnMerges.j0 k l1 bt574.1 bt574.2.1 bt574.2.2 bt583.2 bt587.1 bt591.2 bt595.1 bt599.1 bt599.2.2 bt604.1 bt604.2.1 true)))))))))))=some r:=by rw[if_neg (show ¬(false=true) by decide)]at H;exact H
  obtain⟨⟨t574,t575,t576⟩,A5,H⟩:=bo_ H
  try dsimp only at H
  obtain⟨⟨t583,t584⟩,A6,H⟩:=bo_ H
  try dsimp only at H
  obtain⟨⟨t587,t588⟩,A7,H⟩:=bo_ H
  try dsimp only at H
  obtain⟨⟨t591,t592⟩,A8,H⟩:=bo_ H
  try dsimp only at H
  obtain⟨⟨t595,t596⟩,A9,H⟩:=bo_ H
  try dsimp only at H
  obtain⟨⟨t599,t600,t601⟩,A10,H⟩:=bo_ H
  try dsimp only at H
  obtain⟨⟨t604,t605,t606⟩,A11,H⟩:=bo_ H
  try dsimp only at H
  have HC12:=am_ H
  clear H
  go_enter Try.func7,Try.ntmps7
  iterate 6 (go_upto_region 10 with (first|(go_at_call 9;(with_reducible refine(laws_big.calls _ _ l0 _ _ l1 false _ ?side1 ?side2 ?side3 ?side4 A3.out).mono ?_);(case side1=>exact(a16_ HR0.out));(case side2=>exact HC0.out);(case side3=>exact(a16_ HR1.out));(case side4=>exact HC1.out);rintro e w' ⟨rfl,⟨nd,rfl⟩⟩;(try first|exact⟨rfl,_,World.drewN_drewN _ _ _⟩|exact⟨rfl,_,Eq.trans (World.drewN_drewN _ _ _) (congrArg (World.drewN _) (Nat.add_assoc _ _ _))⟩))|(go_at_call 39;(with_reducible refine(spec_DrawMergeSheets.calls k _ _ l0 t574 t575 t576 _ ?side1 ?side2 A5.out).mono ?_);(case side1=>exact(a16_ HR0.out));(case side2=>exact HC0.out);rintro e w13 ⟨v577,v579,v581,rfl,ho0,ho1,ho2,hb⟩;have HO578:=am_ (Kd.R_lower (Kd.R_mono (ok':=fun _=>True) ho0 (fun _ _=>trivial)) (below_size (a1_)));have HO580:=am_ (Kd.R_lower (Kd.R_mono (ok':=fun _=>True) ho1 (fun _ _=>trivial)) (below_size (a1_)));have HO582:=am_ (Kd.R_lower (Kd.R_mono (ok':=fun _=>True) ho2 (fun _ _=>trivial)) (below_size (a1_)));replace HB:=am_ (below_step (a1_) hb);(try clear hb);(try clear hb2);(try clear hk);(try clear hi);(try clear ho0);(try clear ho1);(try clear ho2);obtain⟨Ao14,co14,eo14⟩:=Kd.R_slice HO578.out;subst eo14;obtain⟨Ao15,co15,eo15⟩:=Kd.R_slice HO580.out;subst eo15;obtain⟨Ao16,co16,eo16⟩:=Kd.R_slice HO582.out;subst eo16)|(go_at_call 36;(with_reducible refine(impl_MergeSheets.calls k _ _ t574 _ _ t575 _ _ t576 t583 t584 _ ?side1 ?side2 ?side3 ?side4 ?side5 ?side6 A6.out).mono ?_);(case side1=>exact(a4_ HO578.out));(case side2=>exact(Kd.R_reads' HO578.out).2.1);(case side3=>exact(a4_ HO580.out));(case side4=>exact(Kd.R_reads' HO580.out).2.1);(case side5=>exact(a4_ HO582.out));(case side6=>exact(Kd.R_reads' HO582.out).2.1);rintro e w17 ⟨v585,rfl,ho0,hb⟩;replace HO578:=am_ (Kd.R_below ((a0_ HO578.out)) hb);replace HO580:=am_ (Kd.R_below ((a0_ HO580.out)) hb);replace HO582:=am_ (Kd.R_below ((a0_ HO582.out)) hb);have HO586:=am_ (Kd.R_lower ho0 (below_size (a1_)));replace HB:=am_ (below_step (a1_) hb);(try clear hb);(try clear hb2);(try clear hk);(try clear hi);(try clear ho0))|(go_at_call 35;(with_reducible refine(spec_MergeSheets.calls k _ _ t574 _ _ t575 _ _ t576 t587 t588 _ ?side1 ?side2 ?side3 ?side4 ?side5 ?side6 A7.out).mono ?_);(case side1=>exact(a4_ HO578.out));(case side2=>exact(Kd.R_reads' HO578.out).2.1);(case side3=>exact(a4_ HO580.out));(case side4=>exact(Kd.R_reads' HO580.out).2.1);(case side5=>exact(a4_ HO582.out));(case side6=>exact(Kd.R_reads' HO582.out).2.1);rintro e w18 ⟨v589,rfl,ho0,hb⟩;replace HO578:=am_ (Kd.R_below ((a0_ HO578.out)) hb);replace HO580:=am_ (Kd.R_below ((a0_ HO580.out)) hb);replace HO582:=am_ (Kd.R_below ((a0_ HO582.out)) hb);replace HO586:=am_ (Kd.R_below ((a0_ HO586.out)) hb);have HO590:=am_ (Kd.R_lower ho0 (below_size (a1_)));replace HB:=am_ (below_step (a1_) hb);(try clear hb);(try clear hb2);(try clear hk);(try clear hi);(try clear ho0))|(go_at_call 40;(with_reducible refine(impl_ClashingHoles.calls k _ _ t574 _ _ t575 _ _ t576 t591 t592 _ ?side1 ?side2 ?side3 ?side4 ?side5 ?side6 A8.out).mono ?_);(case side1=>exact(a4_ HO578.out));(case side2=>exact(Kd.R_reads' HO578.out).2.1);(case side3=>exact(a4_ HO580.out));(case side4=>exact(Kd.R_reads' HO580.out).2.1);(case side5=>exact(a4_ HO582.out));(case side6=>exact(Kd.R_reads' HO582.out).2.1);rintro e w19 ⟨v593,rfl,ho0,hb⟩;replace HO578:=am_ (Kd.R_below ((a0_ HO578.out)) hb);replace HO580:=am_ (Kd.R_below ((a0_ HO580.out)) hb);replace HO582:=am_ (Kd.R_below ((a0_ HO582.out)) hb);replace HO586:=am_ (Kd.R_below ((a0_ HO586.out)) hb);replace HO590:=am_ (Kd.R_below ((a0_ HO590.out)) hb);have HO594:=am_ (Kd.S_lower ho0 (below_size (a1_)));replace HB:=am_ (below_step (a1_) hb);(try clear hb);(try clear hb2);(try clear hk);(try clear hi);(try clear ho0))|(go_at_call 41;(with_reducible refine(spec_ClashingHoles.calls k _ _ t574 _ _ t575 _ _ t576 t595 t596 _ ?side1 ?side2 ?side3 ?side4 ?side5 ?side6 A9.out).mono ?_);(case side1=>exact(a4_ HO578.out));(case side2=>exact(Kd.R_reads' HO578.out).2.1);(case side3=>exact(a4_ HO580.out));(case side4=>exact(Kd.R_reads' HO580.out).2.1);(case side5=>exact(a4_ HO582.out));(case side6=>exact(Kd.R_reads' HO582.out).2.1);rintro e w20 ⟨v597,rfl,ho0,hb⟩;replace HO578:=am_ (Kd.R_below ((a0_ HO578.out)) hb);replace HO580:=am_ (Kd.R_below ((a0_ HO580.out)) hb);replace HO582:=am_ (Kd.R_below ((a0_ HO582.out)) hb);replace HO586:=am_ (Kd.R_below ((a0_ HO586.out)) hb);replace HO590:=am_ (Kd.R_below ((a0_ HO590.out)) hb);replace HO594:=am_ (Kd.S_below ((a24_ HO594.out)) hb);have HO598:=am_ (Kd.S_lower ho0 (below_size (a1_)));replace HB:=am_ (below_step (a1_) hb);(try clear hb);(try clear hb2);(try clear hk);(try clear hi);(try clear ho0))|(go_at_call 38;(with_reducible refine(impl_MergeFirst.calls k _ _ t574 _ _ t575 _ _ t576 t599 t600 t601 _ ?side1 ?side2 ?side3 ?side4 ?side5 ?side6 A10.out).mono ?_);(case side1=>exact(a4_ HO578.out));(case side2=>exact(Kd.R_reads' HO578.out).2.1);(case side3=>exact(a4_ HO580.out));(case side4=>exact(Kd.R_reads' HO580.out).2.1);(case side5=>exact(a4_ HO582.out));(case side6=>exact(Kd.R_reads' HO582.out).2.1);rintro e w21 ⟨v602,rfl,ho0,hb⟩;replace HO578:=am_ (Kd.R_below ((a0_ HO578.out)) hb);replace HO580:=am_ (Kd.R_below ((a0_ HO580.out)) hb);replace HO582:=am_ (Kd.R_below ((a0_ HO582.out)) hb);replace HO586:=am_ (Kd.R_below ((a0_ HO586.out)) hb);replace HO590:=am_ (Kd.R_below ((a0_ HO590.out)) hb);replace HO594:=am_ (Kd.S_below ((a24_ HO594.out)) hb);replace HO598:=am_ (Kd.S_below ((a24_ HO598.out)) hb);have HO603:=am_ (Kd.R_lower ho0 (below_size (a1_)));replace HB:=am_ (below_step (a1_) hb);(try clear hb);(try clear hb2);(try clear hk);(try clear hi);(try clear ho0))|(go_at_call 37;(with_reducible refine(spec_MergeFirst.calls k _ _ t574 _ _ t575 _ _ t576 t604 t605 t606 _ ?side1 ?side2 ?side3 ?side4 ?side5 ?side6 A11.out).mono ?_);(case side1=>exact(a4_ HO578.out));(case side2=>exact(Kd.R_reads' HO578.out).2.1);(case side3=>exact(a4_ HO580.out));(case side4=>exact(Kd.R_reads' HO580.out).2.1);(case side5=>exact(a4_ HO582.out));(case side6=>exact(Kd.R_reads' HO582.out).2.1);rintro e w22 ⟨v607,rfl,ho0,hb⟩;replace HO578:=am_ (Kd.R_below ((a0_ HO578.out)) hb);replace HO580:=am_ (Kd.R_below ((a0_ HO580.out)) hb);replace HO582:=am_ (Kd.R_below ((a0_ HO582.out)) hb);replace HO586:=am_ (Kd.R_below ((a0_ HO586.out)) hb);replace HO590:=am_ (Kd.R_below ((a0_ HO590.out)) hb);replace HO594:=am_ (Kd.S_below ((a24_ HO594.out)) hb);replace HO598:=am_ (Kd.S_below ((a24_ HO598.out)) hb);replace HO603:=am_ (Kd.R_below ((a0_ HO603.out)) hb);have HO608:=am_ (Kd.R_lower ho0 (below_size (a1_)));replace HB:=am_ (below_step (a1_) hb);(try clear hb);(try clear hb2);(try clear hk);(try clear hi);(try clear ho0)));try go_quiet (first|(go_at_call 9;(with_reducible refine(laws_big.calls _ _ l0 _ _ l1 false _ ?side1 ?side2 ?side3 ?side4 A3.out).mono ?_);(case side1=>exact(a16_ HR0.out));(case side2=>exact HC0.out);(case side3=>exact(a16_ HR1.out));(case side4=>exact HC1.out);rintro e w' ⟨rfl,⟨nd,rfl⟩⟩;(try first|exact⟨rfl,_,World.drewN_drewN _ _ _⟩|exact⟨rfl,_,Eq.trans (World.drewN_drewN _ _ _) (congrArg (World.drewN _) (Nat.add_assoc _ _ _))⟩))))
  (try simp only[Act.put,List.setIfInBounds_toArray,List.set_cons_zero,List.set_cons_succ])
  go_cut [149] (fun v149 wc=>∃(kq:Nat) (x149_11:Bool),v149 = .bool x149_11∧Aside0 (laws_FnMerges.j0 kq l1 t574 t575 t576 t584 t587 t592 t595 t599 t601 t604 t605 x149_11=some r)∧Aside0 (kq≤k)∧Aside0 (Kd.R k42 42 wc w.heap.size (fun _=>True) (.slice Ao14 t574.length co14) t574)∧Aside0 (Kd.R k42 42 wc w.heap.size (fun _=>True) (.slice Ao15 t575.length co15) t575)∧Aside0 (Kd.R k42 42 wc w.heap.size (fun _=>True) (.slice Ao16 t576.length co16) t576)∧Aside0 (Kd.R k42 42 wc w.heap.size (fun _=>True) v589 t587)∧Aside0 (Kd.S (Kd.slice 42 k42) 32 wc w.heap.size (fun _=>True) v597 t595)∧Aside0 (Kd.R k42 42 wc w.heap.size (fun _=>True) v602 t599)∧Aside0 (Kd.R k42 42 wc w.heap.size (fun _=>True) v607 t604)∧Aside0 (Below w.heap.size w wc))
  case first=>
   as_aux_lemma=>
    have H:=HC12.out
    clear HC12
    by_cases c23:(t584 != t588)=true
    ·rw[if_pos c23]at H
     have c23b0:(t584 != t588)=true:=c23
     (try(have c23b1:decide (t584=t588)=false:=by simpa using c23))
     (try(have c23b2:(t584 == t588)=false:=by simpa using c23))
     (try(have c23b3:¬(t584=t588):=by simpa using c23))
     clear c23
     (first|rw[c23b0]|(simp only[i64_w,i32_w];rw[c23b0]) | skip)
     have H':=am_ H
     clear H
     go_wp2
     repeat (go_quiet (fail);try go_wp2)
     all_goals
      go_meet
      case rel=>exact⟨_,(true),(by first | rfl|(simp;done)|(simp[*];done)),H',⟨by first | omega|exact Nat.le_refl _⟩,⟨(a0_ HO578.out)⟩,⟨(a0_ HO580.out)⟩,⟨(a0_ HO582.out)⟩,⟨(a0_ HO590.out)⟩,⟨(a24_ HO598.out)⟩,⟨(a0_ HO603.out)⟩,⟨(a0_ HO608.out)⟩,⟨a1_⟩⟩
    ·rw[if_neg c23]at H
     have c23b0:(t584 != t588)=false:=by simpa using c23
     (try(have c23b1:decide (t584=t588)=true:=by simpa using c23))
     (try(have c23b2:(t584 == t588)=true:=by simpa using c23))
     clear c23
     (first|rw[c23b0]|(simp only[i64_w,i32_w];rw[c23b0]) | skip)
     obtain⟨t609,A24,H⟩:=bo_ H
     try dsimp only at H
     by_cases c25:t609=true
     ·subst c25
      replace H:(if(t592 != t596)=true then(laws_FnMerges.j0 k l1 t574 t575 t576 t584 t587 t592 t595 t599 t601 t604 t605 true) else((laws_pSameSheets.f k t591 t595).bind fun t610=>(if t610=true then(if(t601 != t606)=true then(laws_FnMerges.j0 k l1 t574 t575 t576 t584 t587 t592 t595 t599 t601 t604 t605 true) else((laws_pSameHoles.f k t599 t604).bind fun t611=>(if t611=true then(if t600=t605 then(if t584=true then(if t592=true then(if t601=true then(laws_FnMerges.j0 k l1 t574 t575 t576 t584 t587 t592 t595 t599 t601 t604 t605 (decide ((t595.length:Int)>0))) else(laws_FnMerges.j0 k l1 t574 t575 t576 t584 t587 t592 t595 t599 t601 t604 t605 (decide ((t595.length:Int)>0)))) else(laws_FnMerges.j0 k l1 t574 t575 t576 t584 t587 t592 t595 t599 t601 t604 t605 true)) else(if t601=true then(if t592=true then(laws_FnMerges.j0 k l1 t574 t575 t576 t584 t587 t592 t595 t599 t601 t604 t605 false) else(laws_FnMerges.j0 k l1 t574 t575 t576 t584 t587 t592 t595 t599 t601 t604 t605 true)) else(laws_FnMerges.j0 k l1 t574 t575 t576 t584 t587 t592 t595 t599 t601 t604 t605 false))) else(laws_FnMerges.j0 k l1 t574 t575 t576 t584 t587 t592 t595 t599 t601 t604 t605 true)) else(laws_FnMerges.j0 k l1 t574 t575 t576 t584 t587 t592 t595 t599 t601 t604 t605 true)))) else(laws_FnMerges.j0 k l1 t574 t575 t576 t584 t587 t592 t595 t599 t601 t604 t605 true))))=some r:=by rw[if_pos rfl]at H;exact H
      by_cases c26:(t592 != t596)=true
      ·rw[if_pos c26]at H
       have c26b0:(t592 != t596)=true:=c26
       (try(have c26b1:decide (t592=t596)=false:=by simpa using c26))
       (try(have c26b2:(t592 == t596)=false:=by simpa using c26))
       (try(have c26b3:¬(t592=t596):=by simpa using c26))
       clear c26
       exact(laws_FnMerges.j0_true (H.trans (congrArg some HR_.out))).elim
      ·rw[if_neg c26]at H
       have c26b0:(t592 != t596)=false:=by simpa using c26
       (try(have c26b1:decide (t592=t596)=true:=by simpa using c26))
       (try(have c26b2:(t592 == t596)=true:=by simpa using c26))
       clear c26
       obtain⟨t610,A29,H⟩:=bo_ H
       try dsimp only at H
       by_cases c30:t610=true
       ·subst c30
        replace H:(if(t601 != t606)=true then(laws_FnMerges.j0 k l1 t574 t575 t576 t584 t587 t592 t595 t599 t601 t604 t605 true) else((laws_pSameHoles.f k t599 t604).bind fun t611=>(if t611=true then(if t600=t605 then(if t584=true then(if t592=true then(if t601=true then(laws_FnMerges.j0 k l1 t574 t575 t576 t584 t587 t592 t595 t599 t601 t604 t605 (decide ((t595.length:Int)>0))) else(laws_FnMerges.j0 k l1 t574 t575 t576 t584 t587 t592 t595 t599 t601 t604 t605 (decide ((t595.length:Int)>0)))) else(laws_FnMerges.j0 k l1 t574 t575 t576 t584 t587 t592 t595 t599 t601 t604 t605 true)) else(if t601=true then(if t592=true then(laws_FnMerges.j0 k l1 t574 t575 t576 t584 t587 t592 t595 t599 t601 t604 t605 false) else(laws_FnMerges.j0 k l1 t574 t575 t576 t584 t587 t592 t595 t599 t601 t604 t605 true)) else(laws_FnMerges.j0 k l1 t574 t575 t576 t584 t587 t592 t595 t599 t601 t604 t605 false))) else(laws_FnMerges.j0 k l1 t574 t575 t576 t584 t587 t592 t595 t599 t601 t604 t605 true)) else(laws_FnMerges.j0 k l1 t574 t575 t576 t584 t587 t592 t595 t599 t601 t604 t605 true))))=some r:=by rw[if_pos rfl]at H;exact H
        by_cases c31:(t601 != t606)=true
        ·rw[if_pos c31]at H
         have c31b0:(t601 != t606)=true:=c31
         (try(have c31b1:decide (t601=t606)=false:=by simpa using c31))
         (try(have c31b2:(t601 == t606)=false:=by simpa using c31))
         (try(have c31b3:¬(t601=t606):=by simpa using c31))
         clear c31
         exact(laws_FnMerges.j0_true (H.trans (congrArg some HR_.out))).elim
        ·rw[if_neg c31]at H
         have c31b0:(t601 != t606)=false:=by simpa using c31
         (try(have c31b1:decide (t601=t606)=true:=by simpa using c31))
         (try(have c31b2:(t601 == t606)=true:=by simpa using c31))
         clear c31
         obtain⟨t611,A36,H⟩:=bo_ H
         try dsimp only at H
         by_cases c37:t611=true
         ·subst c37
          replace H:(if t600=t605 then(if t584=true then(if t592=true then(if t601=true then(laws_FnMerges.j0 k l1 t574 t575 t576 t584 t587 t592 t595 t599 t601 t604 t605 (decide ((t595.length:Int)>0))) else(laws_FnMerges.j0 k l1 t574 t575 t576 t584 t587 t592 t595 t599 t601 t604 t605 (decide ((t595.length:Int)>0)))) else(laws_FnMerges.j0 k l1 t574 t575 t576 t584 t587 t592 t595 t599 t601 t604 t605 true)) else(if t601=true then(if t592=true then(laws_FnMerges.j0 k l1 t574 t575 t576 t584 t587 t592 t595 t599 t601 t604 t605 false) else(laws_FnMerges.j0 k l1 t574 t575 t576 t584 t587 t592 t595 t599 t601 t604 t605 true)) else(laws_FnMerges.j0 k l1 t574 t575 t576 t584 t587 t592 t595 t599 t601 t604 t605 false))) else(laws_FnMerges.j0 k l1 t574 t575 t576 t584 t587 t592 t595 t599 t601 t604 t605 true))=some r:=by rw[if_pos rfl]at H;exact H
          by_cases c38:t600=t605
          ·rw[if_pos c38]at H
           have c38b0:(t600 == t605)=true:=beq_iff_eq.mpr c38
           have c38b1:(t600 != t605)=false:=bne_eq_false_iff_eq.mpr c38
           clear c38
           by_cases c39:t584=true
           ·subst c39
            replace H:(if t592=true then(if t601=true then(laws_FnMerges.j0 k l1 t574 t575 t576 true t587 t592 t595 t599 t601 t604 t605 (decide ((t595.length:Int)>0))) else(laws_FnMerges.j0 k l1 t574 t575 t576 true t587 t592 t595 t599 t601 t604 t605 (decide ((t595.length:Int)>0)))) else(laws_FnMerges.j0 k l1 t574 t575 t576 true t587 t592 t595 t599 t601 t604 t605 true))=some r:=by rw[if_pos rfl]at H;exact H
            by_cases c40:t592=true
            ·subst c40
             replace H:(if t601=true then(laws_FnMerges.j0 k l1 t574 t575 t576 true t587 true t595 t599 t601 t604 t605 (decide ((t595.length:Int)>0))) else(laws_FnMerges.j0 k l1 t574 t575 t576 true t587 true t595 t599 t601 t604 t605 (decide ((t595.length:Int)>0))))=some r:=by rw[if_pos rfl]at H;exact H
             by_cases c41:t601=true
             ·subst c41
              replace H:(laws_FnMerges.j0 k l1 t574 t575 t576 true t587 true t595 t599 true t604 t605 (decide ((t595.length:Int)>0)))=some r:=by rw[if_pos rfl]at H;exact H
              have H':=am_ H
              clear H
              obtain⟨Ao42,co42,eo42⟩:=Kd.R_slice HO586.out
              subst eo42
              obtain⟨Ao43,co43,eo43⟩:=Kd.R_slice HO590.out
              subst eo43
              iterate 6 (go_wp2_with (first|(go_at_call 42;(with_reducible refine(laws_pSameHoles.calls k _ _ t583 _ _ t587 true _ ?side1 ?side2 ?side3 ?side4 A24.out).mono ?_);(case side1=>exact(a4_ HO586.out));(case side2=>exact(Kd.R_reads' HO586.out).2.1);(case side3=>exact(a4_ HO590.out));(case side4=>exact(Kd.R_reads' HO590.out).2.1);rintro e w' ⟨rfl,⟨nd,rfl⟩⟩;(try first|exact⟨rfl,_,World.drewN_drewN _ _ _⟩|exact⟨rfl,_,Eq.trans (World.drewN_drewN _ _ _) (congrArg (World.drewN _) (Nat.add_assoc _ _ _))⟩);obtain⟨Ao44,co44,eo44⟩:=Kd.S_slice HO594.out;subst eo44;obtain⟨Ao45,co45,eo45⟩:=Kd.S_slice HO598.out;subst eo45)|(go_at_call 19;(with_reducible refine(laws_pSameSheets.calls k _ _ t591 _ _ t595 true _ ?side1 ?side2 ?side3 ?side4 A29.out).mono ?_);(case side1=>exact(a26_ HO594.out));(case side2=>exact(Kd.S_reads' HO594.out).2.1);(case side3=>exact(a26_ HO598.out));(case side4=>exact(Kd.S_reads' HO598.out).2.1);rintro e w' ⟨rfl,⟨nd,rfl⟩⟩;(try first|exact⟨rfl,_,World.drewN_drewN _ _ _⟩|exact⟨rfl,_,Eq.trans (World.drewN_drewN _ _ _) (congrArg (World.drewN _) (Nat.add_assoc _ _ _))⟩);obtain⟨Ao46,co46,eo46⟩:=Kd.R_slice HO603.out;subst eo46;obtain⟨Ao47,co47,eo47⟩:=Kd.R_slice HO608.out;subst eo47)|(go_at_call 42;(with_reducible refine(laws_pSameHoles.calls k _ _ t599 _ _ t604 true _ ?side1 ?side2 ?side3 ?side4 A36.out).mono ?_);(case side1=>exact(a4_ HO603.out));(case side2=>exact(Kd.R_reads' HO603.out).2.1);(case side3=>exact(a4_ HO608.out));(case side4=>exact(Kd.R_reads' HO608.out).2.1);rintro e w' ⟨rfl,⟨nd,rfl⟩⟩;(try first|exact⟨rfl,_,World.drewN_drewN _ _ _⟩|exact⟨rfl,_,Eq.trans (World.drewN_drewN _ _ _) (congrArg (World.drewN _) (Nat.add_assoc _ _ _))⟩)));try go_quiet (first|(go_at_call 42;(with_reducible refine(laws_pSameHoles.calls k _ _ t583 _ _ t587 true _ ?side1 ?side2 ?side3 ?side4 A24.out).mono ?_);(case side1=>exact(a4_ HO586.out));(case side2=>exact(Kd.R_reads' HO586.out).2.1);(case side3=>exact(a4_ HO590.out));(case side4=>exact(Kd.R_reads' HO590.out).2.1);rintro e w' ⟨rfl,⟨nd,rfl⟩⟩;(try first|exact⟨rfl,_,World.drewN_drewN _ _ _⟩|exact⟨rfl,_,Eq.trans (World.drewN_drewN _ _ _) (congrArg (World.drewN _) (Nat.add_assoc _ _ _))⟩);obtain⟨Ao44,co44,eo44⟩:=Kd.S_slice HO594.out;subst eo44;obtain⟨Ao45,co45,eo45⟩:=Kd.S_slice HO598.out;subst eo45)|(go_at_call 19;(with_reducible refine(laws_pSameSheets.calls k _ _ t591 _ _ t595 true _ ?side1 ?side2 ?side3 ?side4 A29.out).mono ?_);(case side1=>exact(a26_ HO594.out));(case side2=>exact(Kd.S_reads' HO594.out).2.1);(case side3=>exact(a26_ HO598.out));(case side4=>exact(Kd.S_reads' HO598.out).2.1);rintro e w' ⟨rfl,⟨nd,rfl⟩⟩;(try first|exact⟨rfl,_,World.drewN_drewN _ _ _⟩|exact⟨rfl,_,Eq.trans (World.drewN_drewN _ _ _) (congrArg (World.drewN _) (Nat.add_assoc _ _ _))⟩);obtain⟨Ao46,co46,eo46⟩:=Kd.R_slice HO603.out;subst eo46;obtain⟨Ao47,co47,eo47⟩:=Kd.R_slice HO608.out;subst eo47)|(go_at_call 42;(with_reducible refine(laws_pSameHoles.calls k _ _ t599 _ _ t604 true _ ?side1 ?side2 ?side3 ?side4 A36.out).mono ?_);(case side1=>exact(a4_ HO603.out));(case side2=>exact(Kd.R_reads' HO603.out).2.1);(case side3=>exact(a4_ HO608.out));(case side4=>exact(Kd.R_reads' HO608.out).2.1);rintro e w' ⟨rfl,⟨nd,rfl⟩⟩;(try first|exact⟨rfl,_,World.drewN_drewN _ _ _⟩|exact⟨rfl,_,Eq.trans (World.drewN_drewN _ _ _) (congrArg (World.drewN _) (Nat.add_assoc _ _ _))⟩))))
              all_goals
               go_meet
               case rel=>exact⟨_,(decide ((t595.length:Int)>0)),(by first | rfl|(simp;done)|(simp[*];done)),H',⟨by first | omega|exact Nat.le_refl _⟩,⟨(a0_ HO578.out)⟩,⟨(a0_ HO580.out)⟩,⟨(a0_ HO582.out)⟩,⟨(a0_ HO590.out)⟩,⟨(a24_ HO598.out)⟩,⟨(a0_ HO603.out)⟩,⟨(a0_ HO608.out)⟩,⟨a1_⟩⟩
             ·replace c41:=Bool.eq_false_iff.mpr c41
              subst c41
              replace H:(laws_FnMerges.j0 k l1 t574 t575 t576 true t587 true t595 t599 false t604 t605 (decide ((t595.length:Int)>0)))=some r:=by rw[if_neg (show ¬(false=true) by decide)]at H;exact H
              have H':=am_ H
              clear H
              obtain⟨Ao48,co48,eo48⟩:=Kd.R_slice HO586.out
              subst eo48
              obtain⟨Ao49,co49,eo49⟩:=Kd.R_slice HO590.out
              subst eo49
              iterate 6 (go_wp2_with (first|(go_at_call 42;(with_reducible refine(laws_pSameHoles.calls k _ _ t583 _ _ t587 true _ ?side1 ?side2 ?side3 ?side4 A24.out).mono ?_);(case side1=>exact(a4_ HO586.out));(case side2=>exact(Kd.R_reads' HO586.out).2.1);(case side3=>exact(a4_ HO590.out));(case side4=>exact(Kd.R_reads' HO590.out).2.1);rintro e w' ⟨rfl,⟨nd,rfl⟩⟩;(try first|exact⟨rfl,_,World.drewN_drewN _ _ _⟩|exact⟨rfl,_,Eq.trans (World.drewN_drewN _ _ _) (congrArg (World.drewN _) (Nat.add_assoc _ _ _))⟩);obtain⟨Ao50,co50,eo50⟩:=Kd.S_slice HO594.out;subst eo50;obtain⟨Ao51,co51,eo51⟩:=Kd.S_slice HO598.out;subst eo51)|(go_at_call 19;(with_reducible refine(laws_pSameSheets.calls k _ _ t591 _ _ t595 true _ ?side1 ?side2 ?side3 ?side4 A29.out).mono ?_);(case side1=>exact(a26_ HO594.out));(case side2=>exact(Kd.S_reads' HO594.out).2.1);(case side3=>exact(a26_ HO598.out));(case side4=>exact(Kd.S_reads' HO598.out).2.1);rintro e w' ⟨rfl,⟨nd,rfl⟩⟩;(try first|exact⟨rfl,_,World.drewN_drewN _ _ _⟩|exact⟨rfl,_,Eq.trans (World.drewN_drewN _ _ _) (congrArg (World.drewN _) (Nat.add_assoc _ _ _))⟩);obtain⟨Ao52,co52,eo52⟩:=Kd.R_slice HO603.out;subst eo52;obtain⟨Ao53,co53,eo53⟩:=Kd.R_slice HO608.out;subst eo53)|(go_at_call 42;(with_reducible refine(laws_pSameHoles.calls k _ _ t599 _ _ t604 true _ ?side1 ?side2 ?side3 ?side4 A36.out).mono ?_);(case side1=>exact(a4_ HO603.out));(case side2=>exact(Kd.R_reads' HO603.out).2.1);(case side3=>exact(a4_ HO608.out));(case side4=>exact(Kd.R_reads' HO608.out).2.1);rintro e w' ⟨rfl,⟨nd,rfl⟩⟩;(try first|exact⟨rfl,_,World.drewN_drewN _ _ _⟩|exact⟨rfl,_,Eq.trans (World.drewN_drewN _ _ _) (congrArg (World.drewN _) (Nat.add_assoc _ _ _))⟩)));try go_quiet (first|(go_at_call 42;(with_reducible refine(laws_pSameHoles.calls k _ _ t583 _ _ t587 true _ ?side1 ?side2 ?side3 ?side4 A24.out).mono ?_);(case side1=>exact(a4_ HO586.out));(case side2=>exact(Kd.R_reads' HO586.out).2.1);(case side3=>exact(a4_ HO590.out));(case side4=>exact(Kd.R_reads' HO590.out).2.1);rintro e w' ⟨rfl,⟨nd,rfl⟩⟩;(try first|exact⟨rfl,_,World.drewN_drewN _ _ _⟩|exact⟨rfl,_,Eq.trans (World.drewN_drewN _ _ _) (congrArg (World.drewN _) (Nat.add_assoc _ _ _))⟩);obtain⟨Ao50,co50,eo50⟩:=Kd.S_slice HO594.out;subst eo50;obtain⟨Ao51,co51,eo51⟩:=Kd.S_slice HO598.out;subst eo51)|(go_at_call 19;(with_reducible refine(laws_pSameSheets.calls k _ _ t591 _ _ t595 true _ ?side1 ?side2 ?side3 ?side4 A29.out).mono ?_);(case side1=>exact(a26_ HO594.out));(case side2=>exact(Kd.S_reads' HO594.out).2.1);(case side3=>exact(a26_ HO598.out));(case side4=>exact(Kd.S_reads' HO598.out).2.1);rintro e w' ⟨rfl,⟨nd,rfl⟩⟩;(try first|exact⟨rfl,_,World.drewN_drewN _ _ _⟩|exact⟨rfl,_,Eq.trans (World.drewN_drewN _ _ _) (congrArg (World.drewN _) (Nat.add_assoc _ _ _))⟩);obtain⟨Ao52,co52,eo52⟩:=Kd.R_slice HO603.out;subst eo52;obtain⟨Ao53,co53,eo53⟩:=Kd.R_slice HO608.out;subst eo53)|(go_at_call 42;(with_reducible refine(laws_pSameHoles.calls k _ _ t599 _ _ t604 true _ ?side1 ?side2 ?side3 ?side4 A36.out).mono ?_);(case side1=>exact(a4_ HO603.out));(case side2=>exact(Kd.R_reads' HO603.out).2.1);(case side3=>exact(a4_ HO608.out));(case side4=>exact(Kd.R_reads' HO608.out).2.1);rintro e w' ⟨rfl,⟨nd,rfl⟩⟩;(try first|exact⟨rfl,_,World.drewN_drewN _ _ _⟩|exact⟨rfl,_,Eq.trans (World.drewN_drewN _ _ _) (congrArg (World.drewN _) (Nat.add_assoc _ _ _))⟩))))
              all_goals
               go_meet
               case rel=>exact⟨_,(decide ((t595.length:Int)>0)),(by first | rfl|(simp;done)|(simp[*];done)),H',⟨by first | omega|exact Nat.le_refl _⟩,⟨(a0_ HO578.out)⟩,⟨(a0_ HO580.out)⟩,⟨(a0_ HO582.out)⟩,⟨(a0_ HO590.out)⟩,⟨(a24_ HO598.out)⟩,⟨(a0_ HO603.out)⟩,⟨(a0_ HO608.out)⟩,⟨a1_⟩⟩
            ·replace c40:=Bool.eq_false_iff.mpr c40
             subst c40
             replace H:(laws_FnMerges.j0 k l1 t574 t575 t576 true t587 false t595 t599 t601 t604 t605 true)=some r:=by rw[if_neg (show ¬(false=true) by decide)]at H;exact H
             exact(laws_FnMerges.j0_true (H.trans (congrArg some HR_.out))).elim
           ·replace c39:=Bool.eq_false_iff.mpr c39
            subst c39
            replace H:(if t601=true then(if t592=true then(laws_FnMerges.j0 k l1 t574 t575 t576 false t587 t592 t595 t599 t601 t604 t605 false) else(laws_FnMerges.j0 k l1 t574 t575 t576 false t587 t592 t595 t599 t601 t604 t605 true)) else(laws_FnMerges.j0 k l1 t574 t575 t576 false t587 t592 t595 t599 t601 t604 t605 false))=some r:=by rw[if_neg (show ¬(false=true) by decide)]at H;exact H
            by_cases c60:t601=true
            ·subst c60
             replace H:(if t592=true then(laws_FnMerges.j0 k l1 t574 t575 t576 false t587 t592 t595 t599 true t604 t605 false) else(laws_FnMerges.j0 k l1 t574 t575 t576 false t587 t592 t595 t599 true t604 t605 true))=some r:=by rw[if_pos rfl]at H;exact H
             by_cases c61:t592=true
             ·subst c61
              replace H:(laws_FnMerges.j0 k l1 t574 t575 t576 false t587 true t595 t599 true t604 t605 false)=some r:=by rw[if_pos rfl]at H;exact H
              have H':=am_ H
              clear H
              obtain⟨Ao62,co62,eo62⟩:=Kd.R_slice HO586.out
              subst eo62
              obtain⟨Ao63,co63,eo63⟩:=Kd.R_slice HO590.out
              subst eo63
              iterate 6 (go_wp2_with (first|(go_at_call 42;(with_reducible refine(laws_pSameHoles.calls k _ _ t583 _ _ t587 true _ ?side1 ?side2 ?side3 ?side4 A24.out).mono ?_);(case side1=>exact(a4_ HO586.out));(case side2=>exact(Kd.R_reads' HO586.out).2.1);(case side3=>exact(a4_ HO590.out));(case side4=>exact(Kd.R_reads' HO590.out).2.1);rintro e w' ⟨rfl,⟨nd,rfl⟩⟩;(try first|exact⟨rfl,_,World.drewN_drewN _ _ _⟩|exact⟨rfl,_,Eq.trans (World.drewN_drewN _ _ _) (congrArg (World.drewN _) (Nat.add_assoc _ _ _))⟩);obtain⟨Ao64,co64,eo64⟩:=Kd.S_slice HO594.out;subst eo64;obtain⟨Ao65,co65,eo65⟩:=Kd.S_slice HO598.out;subst eo65)|(go_at_call 19;(with_reducible refine(laws_pSameSheets.calls k _ _ t591 _ _ t595 true _ ?side1 ?side2 ?side3 ?side4 A29.out).mono ?_);(case side1=>exact(a26_ HO594.out));(case side2=>exact(Kd.S_reads' HO594.out).2.1);(case side3=>exact(a26_ HO598.out));(case side4=>exact(Kd.S_reads' HO598.out).2.1);rintro e w' ⟨rfl,⟨nd,rfl⟩⟩;(try first|exact⟨rfl,_,World.drewN_drewN _ _ _⟩|exact⟨rfl,_,Eq.trans (World.drewN_drewN _ _ _) (congrArg (World.drewN _) (Nat.add_assoc _ _ _))⟩);obtain⟨Ao66,co66,eo66⟩:=Kd.R_slice HO603.out;subst eo66;obtain⟨Ao67,co67,eo67⟩:=Kd.R_slice HO608.out;subst eo67)|(go_at_call 42;(with_reducible refine(laws_pSameHoles.calls k _ _ t599 _ _ t604 true _ ?side1 ?side2 ?side3 ?side4 A36.out).mono ?_);(case side1=>exact(a4_ HO603.out));(case side2=>exact(Kd.R_reads' HO603.out).2.1);(case side3=>exact(a4_ HO608.out));(case side4=>exact(Kd.R_reads' HO608.out).2.1);rintro e w' ⟨rfl,⟨nd,rfl⟩⟩;(try first|exact⟨rfl,_,World.drewN_drewN _ _ _⟩|exact⟨rfl,_,Eq.trans (World.drewN_drewN _ _ _) (congrArg (World.drewN _) (Nat.add_assoc _ _ _))⟩)));try go_quiet (first|(go_at_call 42;(with_reducible refine(laws_pSameHoles.calls k _ _ t583 _ _ t587 true _ ?side1 ?side2 ?side3 ?side4 A24.out).mono ?_);(case side1=>exact(a4_ HO586.out));(case side2=>exact(Kd.R_reads' HO586.out).2.1);(case side3=>exact(a4_ HO590.out));(case side4=>exact(Kd.R_reads' HO590.out).2.1);rintro e w' ⟨rfl,⟨nd,rfl⟩⟩;(try first|exact⟨rfl,_,World.drewN_drewN _ _ _⟩|exact⟨rfl,_,Eq.trans (World.drewN_drewN _ _ _) (congrArg (World.drewN _) (Nat.add_assoc _ _ _))⟩);obtain⟨Ao64,co64,eo64⟩:=Kd.S_slice HO594.out;subst eo64;obtain⟨Ao65,co65,eo65⟩:=Kd.S_slice HO598.out;subst eo65)|(go_at_call 19;(with_reducible refine(laws_pSameSheets.calls k _ _ t591 _ _ t595 true _ ?side1 ?side2 ?side3 ?side4 A29.out).mono ?_);(case side1=>exact(a26_ HO594.out));(case side2=>exact(Kd.S_reads' HO594.out).2.1);(case side3=>exact(a26_ HO598.out));(case side4=>exact(Kd.S_reads' HO598.out).2.1);rintro e w' ⟨rfl,⟨nd,rfl⟩⟩;(try first|exact⟨rfl,_,World.drewN_drewN _ _ _⟩|exact⟨rfl,_,Eq.trans (World.drewN_drewN _ _ _) (congrArg (World.drewN _) (Nat.add_assoc _ _ _))⟩);obtain⟨Ao66,co66,eo66⟩:=Kd.R_slice HO603.out;subst eo66;obtain⟨Ao67,co67,eo67⟩:=Kd.R_slice HO608.out;subst eo67)|(go_at_call 42;(with_reducible refine(laws_pSameHoles.calls k _ _ t599 _ _ t604 true _ ?side1 ?side2 ?side3 ?side4 A36.out).mono ?_);(case side1=>exact(a4_ HO603.out));(case side2=>exact(Kd.R_reads' HO603.out).2.1);(case side3=>exact(a4_ HO608.out));(case side4=>exact(Kd.R_reads' HO608.out).2.1);rintro e w' ⟨rfl,⟨nd,rfl⟩⟩;(try first|exact⟨rfl,_,World.drewN_drewN _ _ _⟩|exact⟨rfl,_,Eq.trans (World.drewN_drewN _ _ _) (congrArg (World.drewN _) (Nat.add_assoc _ _ _))⟩))))
              all_goals
               go_meet
               case rel=>exact⟨_,(false),(by first | rfl|(simp;done)|(simp[*];done)),H',⟨by first | omega|exact Nat.le_refl _⟩,⟨(a0_ HO578.out)⟩,⟨(a0_ HO580.out)⟩,⟨(a0_ HO582.out)⟩,⟨(a0_ HO590.out)⟩,⟨(a24_ HO598.out)⟩,⟨(a0_ HO603.out)⟩,⟨(a0_ HO608.out)⟩,⟨a1_⟩⟩
             ·replace c61:=Bool.eq_false_iff.mpr c61
              subst c61
              replace H:(laws_FnMerges.j0 k l1 t574 t575 t576 false t587 false t595 t599 true t604 t605 true)=some r:=by rw[if_neg (show ¬(false=true) by decide)]at H;exact H
              exact(laws_FnMerges.j0_true (H.trans (congrArg some HR_.out))).elim
            ·replace c60:=Bool.eq_false_iff.mpr c60
             subst c60
             replace H:(laws_FnMerges.j0 k l1 t574 t575 t576 false t587 t592 t595 t599 false t604 t605 false)=some r:=by rw[if_neg (show ¬(false=true) by decide)]at H;exact H
             have H':=am_ H
             clear H
             obtain⟨Ao74,co74,eo74⟩:=Kd.R_slice HO586.out
             subst eo74
             obtain⟨Ao75,co75,eo75⟩:=Kd.R_slice HO590.out
             subst eo75
             iterate 6 (go_wp2_with (first|(go_at_call 42;(with_reducible refine(laws_pSameHoles.calls k _ _ t583 _ _ t587 true _ ?side1 ?side2 ?side3 ?side4 A24.out).mono ?_);(case side1=>exact(a4_ HO586.out));(case side2=>exact(Kd.R_reads' HO586.out).2.1);(case side3=>exact(a4_ HO590.out));(case side4=>exact(Kd.R_reads' HO590.out).2.1);rintro e w' ⟨rfl,⟨nd,rfl⟩⟩;(try first|exact⟨rfl,_,World.drewN_drewN _ _ _⟩|exact⟨rfl,_,Eq.trans (World.drewN_drewN _ _ _) (congrArg (World.drewN _) (Nat.add_assoc _ _ _))⟩);obtain⟨Ao76,co76,eo76⟩:=Kd.S_slice HO594.out;subst eo76;obtain⟨Ao77,co77,eo77⟩:=Kd.S_slice HO598.out;subst eo77)|(go_at_call 19;(with_reducible refine(laws_pSameSheets.calls k _ _ t591 _ _ t595 true _ ?side1 ?side2 ?side3 ?side4 A29.out).mono ?_);(case side1=>exact(a26_ HO594.out));(case side2=>exact(Kd.S_reads' HO594.out).2.1);(case side3=>exact(a26_ HO598.out));(case side4=>exact(Kd.S_reads' HO598.out).2.1);rintro e w' ⟨rfl,⟨nd,rfl⟩⟩;(try first|exact⟨rfl,_,World.drewN_drewN _ _ _⟩|exact⟨rfl,_,Eq.trans (World.drewN_drewN _ _ _) (congrArg (World.drewN _) (Nat.add_assoc _ _ _))⟩);obtain⟨Ao78,co78,eo78⟩:=Kd.R_slice HO603.out;subst eo78;obtain⟨Ao79,co79,eo79⟩:=Kd.R_slice HO608.out;subst eo79)|(go_at_call 42;(with_reducible refine(laws_pSameHoles.calls k _ _ t599 _ _ t604 true _ ?side1 ?side2 ?side3 ?side4 A36.out).mono ?_);(case side1=>exact(a4_ HO603.out));(case side2=>exact(Kd.R_reads' HO603.out).2.1);(case side3=>exact(a4_ HO608.out));(case side4=>exact(Kd.R_reads' HO608.out).2.1);rintro e w' ⟨rfl,⟨nd,rfl⟩⟩;(try first|exact⟨rfl,_,World.drewN_drewN _ _ _⟩|exact⟨rfl,_,Eq.trans (World.drewN_drewN _ _ _) (congrArg (World.drewN _) (Nat.add_assoc _ _ _))⟩)));try go_quiet (first|(go_at_call 42;(with_reducible refine(laws_pSameHoles.calls k _ _ t583 _ _ t587 true _ ?side1 ?side2 ?side3 ?side4 A24.out).mono ?_);(case side1=>exact(a4_ HO586.out));(case side2=>exact(Kd.R_reads' HO586.out).2.1);(case side3=>exact(a4_ HO590.out));(case side4=>exact(Kd.R_reads' HO590.out).2.1);rintro e w' ⟨rfl,⟨nd,rfl⟩⟩;(try first|exact⟨rfl,_,World.drewN_drewN _ _ _⟩|exact⟨rfl,_,Eq.trans (World.drewN_drewN _ _ _) (congrArg (World.drewN _) (Nat.add_assoc _ _ _))⟩);obtain⟨Ao76,co76,eo76⟩:=Kd.S_slice HO594.out;subst eo76;obtain⟨Ao77,co77,eo77⟩:=Kd.S_slice HO598.out;subst eo77)|(go_at_call 19;(with_reducible refine(laws_pSameSheets.calls k _ _ t591 _ _ t595 true _ ?side1 ?side2 ?side3 ?side4 A29.out).mono ?_);(case side1=>exact(a26_ HO594.out));(case side2=>exact(Kd.S_reads' HO594.out).2.1);(case side3=>exact(a26_ HO598.out));(case side4=>exact(Kd.S_reads' HO598.out).2.1);rintro e w' ⟨rfl,⟨nd,rfl⟩⟩;(try first|exact⟨rfl,_,World.drewN_drewN _ _ _⟩|exact⟨rfl,_,Eq.trans (World.drewN_drewN _ _ _) (congrArg (World.drewN _) (Nat.add_assoc _ _ _))⟩);obtain⟨Ao78,co78,eo78⟩:=Kd.R_slice HO603.out;subst eo78;obtain⟨Ao79,co79,eo79⟩:=Kd.R_slice HO608.out;subst eo79)|(go_at_call 42;(with_reducible refine(laws_pSameHoles.calls k _ _ t599 _ _ t604 true _ ?side1 ?side2 ?side3 ?side4 A36.out).mono ?_);(case side1=>exact(a4_ HO603.out));(case side2=>exact(Kd.R_reads' HO603.out).2.1);(case side3=>exact(a4_ HO608.out));(case side4=>exact(Kd.R_reads' HO608.out).2.1);rintro e w' ⟨rfl,⟨nd,rfl⟩⟩;(try first|exact⟨rfl,_,World.drewN_drewN _ _ _⟩|exact⟨rfl,_,Eq.trans (World.drewN_drewN _ _ _) (congrArg (World.drewN _) (Nat.add_assoc _ _ _))⟩))))
             all_goals
              go_meet
              case rel=>exact⟨_,(false),(by first | rfl|(simp;done)|(simp[*];done)),H',⟨by first | omega|exact Nat.le_refl _⟩,⟨(a0_ HO578.out)⟩,⟨(a0_ HO580.out)⟩,⟨(a0_ HO582.out)⟩,⟨(a0_ HO590.out)⟩,⟨(a24_ HO598.out)⟩,⟨(a0_ HO603.out)⟩,⟨(a0_ HO608.out)⟩,⟨a1_⟩⟩
          ·rw[if_neg c38]at H
           have c38b0:(t600 == t605)=false:=beq_eq_false_iff_ne.mpr c38
           have c38b1:(t600 != t605)=true:=bne_iff_ne.mpr c38
           exact(laws_FnMerges.j0_true (H.trans (congrArg some HR_.out))).elim
         ·replace c37:=Bool.eq_false_iff.mpr c37
          subst c37
          replace H:(laws_FnMerges.j0 k l1 t574 t575 t576 t584 t587 t592 t595 t599 t601 t604 t605 true)=some r:=by rw[if_neg (show ¬(false=true) by decide)]at H;exact H
          exact(laws_FnMerges.j0_true (H.trans (congrArg some HR_.out))).elim
       ·replace c30:=Bool.eq_false_iff.mpr c30
        subst c30
        replace H:(laws_FnMerges.j0 k l1 t574 t575 t576 t584 t587 t592 t595 t599 t601 t604 t605 true)=some r:=by rw[if_neg (show ¬(false=true) by decide)]at H;exact H
        exact(laws_FnMerges.j0_true (H.trans (congrArg some HR_.out))).elim
     ·replace c25:=Bool.eq_false_iff.mpr c25
      subst c25
      replace H:(laws_FnMerges.j0 k l1 t574 t575 t576 t584 t587 t592 t595 t599 t601 t604 t605 true)=some r:=by rw[if_neg (show ¬(false=true) by decide)]at H;exact H
      exact(laws_FnMerges.j0_true (H.trans (congrArg some HR_.out))).elim
  case rest=>
   as_aux_lemma=>
    clear HC12
    try clear c1
    try clear c2
    try clear p2
    try clear c3
    try clear c4
    try clear c6
    try clear c7
    try clear c23
    try clear c23b0
    try clear c23b1
    try clear c23b2
    try clear c25
    try clear c26
    try clear c26b0
    try clear c26b1
    try clear c26b2
    try clear c30
    try clear c31
    try clear c31b0
    try clear c31b1
    try clear c31b2
    try clear c37
    try clear c38
    try clear c38b0
    try clear c38b1
    try clear c39
    try clear c40
    try clear c41
    try clear c60
    try clear c61
    obtain⟨kq,x149_11,rfl,HA,HJ11,HO_5,HO_6,HO_7,HO_10,HO_14,HO_16,HO_19,HB⟩:=hcut
    cases kq with
    | zero=>exact absurd HA.out (by simp[laws_FnMerges.j0])
    | succ kj11=>
     have H:=HA.out
     clear HA
     simp only[laws_FnMerges.j0]at H
     by_cases c98:x149_11=true
     ·subst c98
      replace H:(some false)=some r:=by rw[if_pos rfl]at H;exact H
      exact absurd ((Option.some.inj H).trans HR_.out) (by decide)
     ·replace c98:=Bool.eq_false_iff.mpr c98
      subst c98
      replace H:(if t584=true then((impl_MergeSheets.f kj11 t574 t576 t575).bind fun bt612=>(if bt612.2=true then((laws_pSameHoles.f kj11 bt612.1 t587).bind fun t616=>(if t616=true then(if t601=true then(if t605=0 then((laws_pSameHoles.f kj11 t604 t587).bind fun t617=>(if t617=true then(laws_FnMerges.j1 kj11 l1 t574 t575 t576 t592 t595 t599 t601 t605) else(some false))) else(some false)) else(some false)) else(some false))) else(some false))) else(laws_FnMerges.j1 kj11 l1 t574 t575 t576 t592 t595 t599 t601 t605))=some r:=by rw[if_neg (show ¬(false=true) by decide)]at H;exact H
      have HC99:=am_ H
      clear H
      go_upto_if 150 with (fail)
      repeat (go_quiet (fail);go_upto_if 150 with (fail))
      go_cut [] (fun wc=>∃(kq:Nat),Aside0 (laws_FnMerges.j1 kq l1 t574 t575 t576 t592 t595 t599 t601 t605=some r)∧Aside0 (kq≤kj11)∧Aside0 (Kd.R k42 42 wc w.heap.size (fun _=>True) (.slice Ao14 t574.length co14) t574)∧Aside0 (Kd.R k42 42 wc w.heap.size (fun _=>True) (.slice Ao15 t575.length co15) t575)∧Aside0 (Kd.R k42 42 wc w.heap.size (fun _=>True) (.slice Ao16 t576.length co16) t576)∧Aside0 (Kd.S (Kd.slice 42 k42) 32 wc w.heap.size (fun _=>True) v597 t595)∧Aside0 (Kd.R k42 42 wc w.heap.size (fun _=>True) v602 t599)∧Aside0 (Below w.heap.size w wc))
      case first=>
       as_aux_lemma=>
        have H:=HC99.out
        clear HC99
        by_cases c100:t584=true
        ·subst c100
         replace H:((impl_MergeSheets.f kj11 t574 t576 t575).bind fun bt612=>(if bt612.2=true then((laws_pSameHoles.f kj11 bt612.1 t587).bind fun t616=>(if t616=true then(if t601=true then(if t605=0 then((laws_pSameHoles.f kj11 t604 t587).bind fun t617=>(if t617=true then(laws_FnMerges.j1 kj11 l1 t574 t575 t576 t592 t595 t599 t601 t605) else(some false))) else(some false)) else(some false)) else(some false))) else(some false)))=some r:=by rw[if_pos rfl]at H;exact H
         obtain⟨⟨t612,t613⟩,A101,H⟩:=bo_ H
         try dsimp only at H
         by_cases c102:t613=true
         ·subst c102
          replace H:((laws_pSameHoles.f kj11 t612 t587).bind fun t616=>(if t616=true then(if t601=true then(if t605=0 then((laws_pSameHoles.f kj11 t604 t587).bind fun t617=>(if t617=true then(laws_FnMerges.j1 kj11 l1 t574 t575 t576 t592 t595 t599 t601 t605) else(some false))) else(some false)) else(some false)) else(some false)))=some r:=by rw[if_pos rfl]at H;exact H
          obtain⟨t616,A103,H⟩:=bo_ H
          try dsimp only at H
          by_cases c104:t616=true
          ·subst c104
           replace H:(if t601=true then(if t605=0 then((laws_pSameHoles.f kj11 t604 t587).bind fun t617=>(if t617=true then(laws_FnMerges.j1 kj11 l1 t574 t575 t576 t592 t595 t599 t601 t605) else(some false))) else(some false)) else(some false))=some r:=by rw[if_pos rfl]at H;exact H
           by_cases c105:t601=true
           ·subst c105
            replace H:(if t605=0 then((laws_pSameHoles.f kj11 t604 t587).bind fun t617=>(if t617=true then(laws_FnMerges.j1 kj11 l1 t574 t575 t576 t592 t595 t599 true t605) else(some false))) else(some false))=some r:=by rw[if_pos rfl]at H;exact H
            by_cases c106:t605=0
            ·rw[if_pos c106]at H
             have c106b0:(t605 == 0)=true:=beq_iff_eq.mpr c106
             have c106b1:(t605 != 0)=false:=bne_eq_false_iff_eq.mpr c106
             clear c106
             (first|rw[c106b0]|(simp only[i64_w,i32_w];rw[c106b0]) | skip)
             obtain⟨t617,A107,H⟩:=bo_ H
             try dsimp only at H
             by_cases c108:t617=true
             ·subst c108
              replace H:(laws_FnMerges.j1 kj11 l1 t574 t575 t576 t592 t595 t599 true t605)=some r:=by rw[if_pos rfl]at H;exact H
              have H':=am_ H
              clear H
              iterate 6 (go_wp2_with (first|(go_at_call 36;(with_reducible refine(impl_MergeSheets.calls kj11 _ _ t574 _ _ t576 _ _ t575 t612 true _ ?side1 ?side2 ?side3 ?side4 ?side5 ?side6 A101.out).mono ?_);(case side1=>exact(a4_ HO_5.out));(case side2=>exact(Kd.R_reads' HO_5.out).2.1);(case side3=>exact(a4_ HO_7.out));(case side4=>exact(Kd.R_reads' HO_7.out).2.1);(case side5=>exact(a4_ HO_6.out));(case side6=>exact(Kd.R_reads' HO_6.out).2.1);rintro e w109 ⟨v614,rfl,ho0,hb⟩;replace HO_5:=am_ (Kd.R_below ((a0_ HO_5.out)) hb);replace HO_6:=am_ (Kd.R_below ((a0_ HO_6.out)) hb);replace HO_7:=am_ (Kd.R_below ((a0_ HO_7.out)) hb);replace HO_10:=am_ (Kd.R_below ((a0_ HO_10.out)) hb);replace HO_14:=am_ (Kd.S_below ((a24_ HO_14.out)) hb);replace HO_16:=am_ (Kd.R_below ((a0_ HO_16.out)) hb);replace HO_19:=am_ (Kd.R_below ((a0_ HO_19.out)) hb);have HO615:=am_ (Kd.R_lower ho0 (below_size (a1_)));replace HB:=am_ (below_step (a1_) hb);(try clear hb);(try clear hb2);(try clear hk);(try clear hi);(try clear ho0);obtain⟨Ao110,co110,eo110⟩:=Kd.R_slice HO615.out;subst eo110;obtain⟨Ao111,co111,eo111⟩:=Kd.R_slice HO_10.out;subst eo111)|(go_at_call 42;(with_reducible refine(laws_pSameHoles.calls kj11 _ _ t612 _ _ t587 true _ ?side1 ?side2 ?side3 ?side4 A103.out).mono ?_);(case side1=>exact(a4_ HO615.out));(case side2=>exact(Kd.R_reads' HO615.out).2.1);(case side3=>exact(a4_ HO_10.out));(case side4=>exact(Kd.R_reads' HO_10.out).2.1);rintro e w' ⟨rfl,⟨nd,rfl⟩⟩;(try first|exact⟨rfl,_,World.drewN_drewN _ _ _⟩|exact⟨rfl,_,Eq.trans (World.drewN_drewN _ _ _) (congrArg (World.drewN _) (Nat.add_assoc _ _ _))⟩);obtain⟨Ao112,co112,eo112⟩:=Kd.R_slice HO_19.out;subst eo112)|(go_at_call 42;(with_reducible refine(laws_pSameHoles.calls kj11 _ _ t604 _ _ t587 true _ ?side1 ?side2 ?side3 ?side4 A107.out).mono ?_);(case side1=>exact(a4_ HO_19.out));(case side2=>exact(Kd.R_reads' HO_19.out).2.1);(case side3=>exact(a4_ HO_10.out));(case side4=>exact(Kd.R_reads' HO_10.out).2.1);rintro e w' ⟨rfl,⟨nd,rfl⟩⟩;(try first|exact⟨rfl,_,World.drewN_drewN _ _ _⟩|exact⟨rfl,_,Eq.trans (World.drewN_drewN _ _ _) (congrArg (World.drewN _) (Nat.add_assoc _ _ _))⟩)));try go_quiet (first|(go_at_call 42;(with_reducible refine(laws_pSameHoles.calls kj11 _ _ t612 _ _ t587 true _ ?side1 ?side2 ?side3 ?side4 A103.out).mono ?_);(case side1=>exact(a4_ HO615.out));(case side2=>exact(Kd.R_reads' HO615.out).2.1);(case side3=>exact(a4_ HO_10.out));(case side4=>exact(Kd.R_reads' HO_10.out).2.1);rintro e w' ⟨rfl,⟨nd,rfl⟩⟩;(try first|exact⟨rfl,_,World.drewN_drewN _ _ _⟩|exact⟨rfl,_,Eq.trans (World.drewN_drewN _ _ _) (congrArg (World.drewN _) (Nat.add_assoc _ _ _))⟩);obtain⟨Ao112,co112,eo112⟩:=Kd.R_slice HO_19.out;subst eo112)|(go_at_call 42;(with_reducible refine(laws_pSameHoles.calls kj11 _ _ t604 _ _ t587 true _ ?side1 ?side2 ?side3 ?side4 A107.out).mono ?_);(case side1=>exact(a4_ HO_19.out));(case side2=>exact(Kd.R_reads' HO_19.out).2.1);(case side3=>exact(a4_ HO_10.out));(case side4=>exact(Kd.R_reads' HO_10.out).2.1);rintro e w' ⟨rfl,⟨nd,rfl⟩⟩;(try first|exact⟨rfl,_,World.drewN_drewN _ _ _⟩|exact⟨rfl,_,Eq.trans (World.drewN_drewN _ _ _) (congrArg (World.drewN _) (Nat.add_assoc _ _ _))⟩))))
              all_goals
               go_meet
               case rel=>exact⟨_,H',⟨by have:=HJ11.out;first | omega|exact Nat.le_refl _⟩,⟨(a0_ HO_5.out)⟩,⟨(a0_ HO_6.out)⟩,⟨(a0_ HO_7.out)⟩,⟨(a24_ HO_14.out)⟩,⟨(a0_ HO_16.out)⟩,⟨a1_⟩⟩
             ·replace c108:=Bool.eq_false_iff.mpr c108
              subst c108
              replace H:(some false)=some r:=by rw[if_neg (show ¬(false=true) by decide)]at H;exact H
              exact absurd ((Option.some.inj H).trans HR_.out) (by decide)
            ·rw[if_neg c106]at H
             have c106b0:(t605 == 0)=false:=beq_eq_false_iff_ne.mpr c106
             have c106b1:(t605 != 0)=true:=bne_iff_ne.mpr c106
             (first|rw[c106b0]|(simp only[i64_w,i32_w];rw[c106b0]) | skip)
             exact absurd ((Option.some.inj H).trans HR_.out) (by decide)
           ·replace c105:=Bool.eq_false_iff.mpr c105
            subst c105
            replace H:(some false)=some r:=by rw[if_neg (show ¬(false=true) by decide)]at H;exact H
            exact absurd ((Option.some.inj H).trans HR_.out) (by decide)
          ·replace c104:=Bool.eq_false_iff.mpr c104
           subst c104
           replace H:(some false)=some r:=by rw[if_neg (show ¬(false=true) by decide)]at H;exact H
           exact absurd ((Option.some.inj H).trans HR_.out) (by decide)
         ·replace c102:=Bool.eq_false_iff.mpr c102
          subst c102
          replace H:(some false)=some r:=by rw[if_neg (show ¬(false=true) by decide)]at H;exact H
          exact absurd ((Option.some.inj H).trans HR_.out) (by decide)
        ·replace c100:=Bool.eq_false_iff.mpr c100
         subst c100
         replace H:(laws_FnMerges.j1 kj11 l1 t574 t575 t576 t592 t595 t599 t601 t605)=some r:=by rw[if_neg (show ¬(false=true) by decide)]at H;exact H
         have H':=am_ H
         clear H
         go_wp2
         repeat (go_quiet (fail);try go_wp2)
         all_goals
          go_meet
          case rel=>exact⟨_,H',⟨by have:=HJ11.out;first | omega|exact Nat.le_refl _⟩,⟨(a0_ HO_5.out)⟩,⟨(a0_ HO_6.out)⟩,⟨(a0_ HO_7.out)⟩,⟨(a24_ HO_14.out)⟩,⟨(a0_ HO_16.out)⟩,⟨a1_⟩⟩
      case rest=>
       as_aux_lemma=>
        clear HC99
        try clear c1
        try clear c2
        try clear p2
        try clear c3
        try clear c4
        try clear c6
        try clear c7
        try clear c9
        try clear c10
        try clear c23
        try clear c23b0
        try clear c23b1
        try clear c23b2
        try clear c25
        try clear c26
        try clear c26b0
        try clear c26b1
        try clear c26b2
        try clear c30
        try clear c31
        try clear c31b0
        try clear c31b1
        try clear c31b2
        try clear c37
        try clear c38
        try clear c38b0
        try clear c38b1
        try clear c39
        try clear c40
        try clear c41
        try clear c60
        try clear c61
        try clear c98
        try clear c100
        try clear c102
        try clear c104
        try clear c105
        try clear c106
        try clear c106b0
        try clear c106b1
        try clear c108
        try clear p2
        obtain⟨kq,HA,HJ98,HO_5,HO_6,HO_7,HO_14,HO_16,HB⟩:=hcut
        cases kq with
        | zero=>exact absurd HA.out (by simp[laws_FnMerges.j1])
        | succ kj98=>
         have H:=HA.out
         clear HA
         simp only[laws_FnMerges.j1]at H
         have HC127:=am_ H
         clear H
         go_upto_if 180 with (fail)
         repeat (go_quiet (fail);go_upto_if 180 with (fail))
         go_cut [] (fun wc=>∃(kq:Nat),Aside0 (laws_FnMerges.j4 kq l1 t576 t599 t601 t605=some r)∧Aside0 (kq≤kj98)∧Aside0 (Kd.R k42 42 wc w.heap.size (fun _=>True) (.slice Ao16 t576.length co16) t576)∧Aside0 (Kd.R k42 42 wc w.heap.size (fun _=>True) v602 t599)∧Aside0 (Below w.heap.size w wc))
         case first=>
          as_aux_lemma=>
           have H:=HC127.out
           clear HC127
           by_cases c128:t592=true
           ·subst c128
            replace H:((impl_MergeSheets.f kj98 t574 t575 t574).bind fun bt618=>((impl_MergeSheets.f kj98 t574 t576 t576).bind fun bt622=>(if bt618.2=true then((laws_pSameHoles.f kj98 bt618.1 t575).bind fun t626=>(if t626=true then(if bt622.2=true then((laws_pSameHoles.f kj98 bt622.1 t576).bind fun t627=>(laws_FnMerges.j2 kj98 l1 t576 t595 t599 t601 t605 (!t627))) else(laws_FnMerges.j2 kj98 l1 t576 t595 t599 t601 t605 true)) else(laws_FnMerges.j2 kj98 l1 t576 t595 t599 t601 t605 true))) else(laws_FnMerges.j2 kj98 l1 t576 t595 t599 t601 t605 true))))=some r:=by rw[if_pos rfl]at H;exact H
            obtain⟨⟨t618,t619⟩,A129,H⟩:=bo_ H
            try dsimp only at H
            obtain⟨⟨t622,t623⟩,A130,H⟩:=bo_ H
            try dsimp only at H
            have HC131:=am_ H
            clear H
            iterate 6 (go_upto_region 19 with (first|(go_at_call 36;(with_reducible refine(impl_MergeSheets.calls kj98 _ _ t574 _ _ t575 _ _ t574 t618 t619 _ ?side1 ?side2 ?side3 ?side4 ?side5 ?side6 A129.out).mono ?_);(case side1=>exact(a4_ HO_5.out));(case side2=>exact(Kd.R_reads' HO_5.out).2.1);(case side3=>exact(a4_ HO_6.out));(case side4=>exact(Kd.R_reads' HO_6.out).2.1);(case side5=>exact(a4_ HO_5.out));(case side6=>exact(Kd.R_reads' HO_5.out).2.1);rintro e w132 ⟨v620,rfl,ho0,hb⟩;replace HO_5:=am_ (Kd.R_below ((a0_ HO_5.out)) hb);replace HO_6:=am_ (Kd.R_below ((a0_ HO_6.out)) hb);replace HO_7:=am_ (Kd.R_below ((a0_ HO_7.out)) hb);replace HO_14:=am_ (Kd.S_below ((a24_ HO_14.out)) hb);replace HO_16:=am_ (Kd.R_below ((a0_ HO_16.out)) hb);have HO621:=am_ (Kd.R_lower ho0 (below_size (a1_)));replace HB:=am_ (below_step (a1_) hb);(try clear hb);(try clear hb2);(try clear hk);(try clear hi);(try clear ho0))|(go_at_call 36;(with_reducible refine(impl_MergeSheets.calls kj98 _ _ t574 _ _ t576 _ _ t576 t622 t623 _ ?side1 ?side2 ?side3 ?side4 ?side5 ?side6 A130.out).mono ?_);(case side1=>exact(a4_ HO_5.out));(case side2=>exact(Kd.R_reads' HO_5.out).2.1);(case side3=>exact(a4_ HO_7.out));(case side4=>exact(Kd.R_reads' HO_7.out).2.1);(case side5=>exact(a4_ HO_7.out));(case side6=>exact(Kd.R_reads' HO_7.out).2.1);rintro e w133 ⟨v624,rfl,ho0,hb⟩;replace HO_5:=am_ (Kd.R_below ((a0_ HO_5.out)) hb);replace HO_6:=am_ (Kd.R_below ((a0_ HO_6.out)) hb);replace HO_7:=am_ (Kd.R_below ((a0_ HO_7.out)) hb);replace HO_14:=am_ (Kd.S_below ((a24_ HO_14.out)) hb);replace HO_16:=am_ (Kd.R_below ((a0_ HO_16.out)) hb);replace HO621:=am_ (Kd.R_below ((a0_ HO621.out)) hb);have HO625:=am_ (Kd.R_lower ho0 (below_size (a1_)));replace HB:=am_ (below_step (a1_) hb);(try clear hb);(try clear hb2);(try clear hk);(try clear hi);(try clear ho0)));try go_quiet (fail))
            (try simp only[Act.put,List.setIfInBounds_toArray,List.set_cons_zero,List.set_cons_succ])
            go_cut [212] (fun v212 wc=>∃(kq:Nat) (x212_130:Bool),v212 = .bool x212_130∧Aside0 (laws_FnMerges.j2 kq l1 t576 t595 t599 t601 t605 x212_130=some r)∧Aside0 (kq≤kj98)∧Aside0 (Kd.R k42 42 wc w.heap.size (fun _=>True) (.slice Ao16 t576.length co16) t576)∧Aside0 (Kd.S (Kd.slice 42 k42) 32 wc w.heap.size (fun _=>True) v597 t595)∧Aside0 (Kd.R k42 42 wc w.heap.size (fun _=>True) v602 t599)∧Aside0 (Below w.heap.size w wc))
            case first=>
             as_aux_lemma=>
              have H:=HC131.out
              clear HC131
              by_cases c134:t619=true
              ·subst c134
               replace H:((laws_pSameHoles.f kj98 t618 t575).bind fun t626=>(if t626=true then(if t623=true then((laws_pSameHoles.f kj98 t622 t576).bind fun t627=>(laws_FnMerges.j2 kj98 l1 t576 t595 t599 t601 t605 (!t627))) else(laws_FnMerges.j2 kj98 l1 t576 t595 t599 t601 t605 true)) else(laws_FnMerges.j2 kj98 l1 t576 t595 t599 t601 t605 true)))=some r:=by rw[if_pos rfl]at H;exact H
               obtain⟨t626,A135,H⟩:=bo_ H
               try dsimp only at H
               by_cases c136:t626=true
               ·subst c136
                replace H:(if t623=true then((laws_pSameHoles.f kj98 t622 t576).bind fun t627=>(laws_FnMerges.j2 kj98 l1 t576 t595 t599 t601 t605 (!t627))) else(laws_FnMerges.j2 kj98 l1 t576 t595 t599 t601 t605 true))=some r:=by rw[if_pos rfl]at H;exact H
                by_cases c137:t623=true
                ·subst c137
                 replace H:((laws_pSameHoles.f kj98 t622 t576).bind fun t627=>(laws_FnMerges.j2 kj98 l1 t576 t595 t599 t601 t605 (!t627)))=some r:=by rw[if_pos rfl]at H;exact H
                 obtain⟨t627,A138,H⟩:=bo_ H
                 try dsimp only at H
                 have H':=am_ H
                 clear H
                 obtain⟨Ao139,co139,eo139⟩:=Kd.R_slice HO621.out
                 subst eo139
                 iterate 6 (go_wp2_with (first|(go_at_call 42;(with_reducible refine(laws_pSameHoles.calls kj98 _ _ t618 _ _ t575 true _ ?side1 ?side2 ?side3 ?side4 A135.out).mono ?_);(case side1=>exact(a4_ HO621.out));(case side2=>exact(Kd.R_reads' HO621.out).2.1);(case side3=>exact(a4_ HO_6.out));(case side4=>exact(Kd.R_reads' HO_6.out).2.1);rintro e w' ⟨rfl,⟨nd,rfl⟩⟩;(try first|exact⟨rfl,_,World.drewN_drewN _ _ _⟩|exact⟨rfl,_,Eq.trans (World.drewN_drewN _ _ _) (congrArg (World.drewN _) (Nat.add_assoc _ _ _))⟩);obtain⟨Ao140,co140,eo140⟩:=Kd.R_slice HO625.out;subst eo140)|(go_at_call 42;(with_reducible refine(laws_pSameHoles.calls kj98 _ _ t622 _ _ t576 t627 _ ?side1 ?side2 ?side3 ?side4 A138.out).mono ?_);(case side1=>exact(a4_ HO625.out));(case side2=>exact(Kd.R_reads' HO625.out).2.1);(case side3=>exact(a4_ HO_7.out));(case side4=>exact(Kd.R_reads' HO_7.out).2.1);rintro e w' ⟨rfl,⟨nd,rfl⟩⟩;(try first|exact⟨rfl,_,World.drewN_drewN _ _ _⟩|exact⟨rfl,_,Eq.trans (World.drewN_drewN _ _ _) (congrArg (World.drewN _) (Nat.add_assoc _ _ _))⟩)));try go_quiet (first|(go_at_call 42;(with_reducible refine(laws_pSameHoles.calls kj98 _ _ t618 _ _ t575 true _ ?side1 ?side2 ?side3 ?side4 A135.out).mono ?_);(case side1=>exact(a4_ HO621.out));(case side2=>exact(Kd.R_reads' HO621.out).2.1);(case side3=>exact(a4_ HO_6.out));(case side4=>exact(Kd.R_reads' HO_6.out).2.1);rintro e w' ⟨rfl,⟨nd,rfl⟩⟩;(try first|exact⟨rfl,_,World.drewN_drewN _ _ _⟩|exact⟨rfl,_,Eq.trans (World.drewN_drewN _ _ _) (congrArg (World.drewN _) (Nat.add_assoc _ _ _))⟩);obtain⟨Ao140,co140,eo140⟩:=Kd.R_slice HO625.out;subst eo140)|(go_at_call 42;(with_reducible refine(laws_pSameHoles.calls kj98 _ _ t622 _ _ t576 t627 _ ?side1 ?side2 ?side3 ?side4 A138.out).mono ?_);(case side1=>exact(a4_ HO625.out));(case side2=>exact(Kd.R_reads' HO625.out).2.1);(case side3=>exact(a4_ HO_7.out));(case side4=>exact(Kd.R_reads' HO_7.out).2.1);rintro e w' ⟨rfl,⟨nd,rfl⟩⟩;(try first|exact⟨rfl,_,World.drewN_drewN _ _ _⟩|exact⟨rfl,_,Eq.trans (World.drewN_drewN _ _ _) (congrArg (World.drewN _) (Nat.add_assoc _ _ _))⟩))))
                 all_goals
                  go_meet
                  case rel=>exact⟨_,(!t627),(by first | rfl|(simp;done)|(simp[*];done)),H',⟨by have:=HJ11.out;have:=HJ98.out;first | omega|exact Nat.le_refl _⟩,⟨(a0_ HO_7.out)⟩,⟨(a24_ HO_14.out)⟩,⟨(a0_ HO_16.out)⟩,⟨a1_⟩⟩
                ·replace c137:=Bool.eq_false_iff.mpr c137
                 subst c137
                 replace H:(laws_FnMerges.j2 kj98 l1 t576 t595 t599 t601 t605 true)=some r:=by rw[if_neg (show ¬(false=true) by decide)]at H;exact H
                 exact(laws_FnMerges.j2_true (H.trans (congrArg some HR_.out))).elim
               ·replace c136:=Bool.eq_false_iff.mpr c136
                subst c136
                replace H:(laws_FnMerges.j2 kj98 l1 t576 t595 t599 t601 t605 true)=some r:=by rw[if_neg (show ¬(false=true) by decide)]at H;exact H
                exact(laws_FnMerges.j2_true (H.trans (congrArg some HR_.out))).elim
              ·replace c134:=Bool.eq_false_iff.mpr c134
               subst c134
               replace H:(laws_FnMerges.j2 kj98 l1 t576 t595 t599 t601 t605 true)=some r:=by rw[if_neg (show ¬(false=true) by decide)]at H;exact H
               exact(laws_FnMerges.j2_true (H.trans (congrArg some HR_.out))).elim
            case rest=>
             as_aux_lemma=>
              clear HC131
              try clear c1
              try clear c2
              try clear p2
              try clear c3
              try clear c4
              try clear c6
              try clear c7
              try clear c9
              try clear c10
              try clear c12
              try clear c13
              try clear c23
              try clear c23b0
              try clear c23b1
              try clear c23b2
              try clear c25
              try clear c26
              try clear c26b0
              try clear c26b1
              try clear c26b2
              try clear c30
              try clear c31
              try clear c31b0
              try clear c31b1
              try clear c31b2
              try clear c37
              try clear c38
              try clear c38b0
              try clear c38b1
              try clear c39
              try clear c40
              try clear c41
              try clear c60
              try clear c61
              try clear c98
              try clear c100
              try clear c102
              try clear c104
              try clear c105
              try clear c106
              try clear c106b0
              try clear c106b1
              try clear c108
              try clear c128
              try clear c134
              try clear c136
              try clear c137
              try clear p2
              obtain⟨kq,x212_130,rfl,HA,HJ130,HO_7,HO_14,HO_16,HB⟩:=hcut
              cases kq with
              | zero=>exact absurd HA.out (by simp[laws_FnMerges.j2])
              | succ kj130=>
               have H:=HA.out
               clear HA
               simp only[laws_FnMerges.j2]at H
               by_cases c143:x212_130=true
               ·subst c143
                replace H:(some false)=some r:=by rw[if_pos rfl]at H;exact H
                exact absurd ((Option.some.inj H).trans HR_.out) (by decide)
               ·replace c143:=Bool.eq_false_iff.mpr c143
                subst c143
                replace H:(laws_FnMerges.l0 kj130 l1 t576 t599 t601 t605 t595 (t595.length:Int) 0)=some r:=by rw[if_neg (show ¬(false=true) by decide)]at H;exact H
                have H':=am_ H
                clear H
                obtain⟨Ao144,co144,eo144⟩:=Kd.S_slice HO_14.out
                subst eo144
                go_wp2
                repeat (go_quiet (fail);try go_wp2)
                go_loopg [215] kj130 (fun kq v215 w'=>∃(x215_4:Int),v215 = .int .i64 x215_4∧Aside0 (laws_FnMerges.l0 kq l1 t576 t599 t601 t605 t595 (t595.length:Int) x215_4=some r)∧Aside0 (kq≤kj130)∧Aside0 (Kd.R k42 42 w' w.heap.size (fun _=>True) (.slice Ao16 t576.length co16) t576)∧Aside0 (Kd.R k42 42 w' w.heap.size (fun _=>True) v602 t599)∧Aside0 (Kd.S (Kd.slice 42 k42) 32 w' w.heap.size (fun _=>True) (.slice Ao144 t595.length co144) t595)∧Aside0 (Below w.heap.size w w'))
                case atStart=>exact⟨(0),(by first | rfl|(simp;done)|(simp[*];done)),H',⟨Nat.le_refl _⟩,⟨(a0_ HO_7.out)⟩,⟨(a0_ HO_16.out)⟩,⟨(a24_ HO_14.out)⟩,⟨a1_⟩⟩
                case round=>
                 clear H'
                 try clear c1
                 try clear c2
                 try clear p2
                 try clear c3
                 try clear c4
                 try clear c6
                 try clear c7
                 try clear c9
                 try clear c10
                 try clear c12
                 try clear c13
                 try clear c14
                 try clear c23
                 try clear c23b0
                 try clear c23b1
                 try clear c23b2
                 try clear c25
                 try clear c26
                 try clear c26b0
                 try clear c26b1
                 try clear c26b2
                 try clear c30
                 try clear c31
                 try clear c31b0
                 try clear c31b1
                 try clear c31b2
                 try clear c37
                 try clear c38
                 try clear c38b0
                 try clear c38b1
                 try clear c39
                 try clear c40
                 try clear c41
                 try clear c60
                 try clear c61
                 try clear c98
                 try clear c100
                 try clear c102
                 try clear c104
                 try clear c105
                 try clear c106
                 try clear c106b0
                 try clear c106b1
                 try clear c108
                 try clear c128
                 try clear c134
                 try clear c136
                 try clear c137
                 try clear c143
                 try clear p2
                 obtain⟨x215_4,rfl,HA,HK4,HO_7,HO_16,HO_213,HB⟩:=hrel
                 cases gk with
                 | zero=>exact absurd HA.out (by simp[laws_FnMerges.l0])
                 | succ k4=>
                  have H:=HA.out
                  clear HA
                  simp only[laws_FnMerges.l0]at H
                  by_cases c145:x215_4<(t595.length:Int)
                  ·rw[if_pos c145]at H
                   have c145b0:decide (x215_4<(t595.length:Int))=true:=decide_eq_true c145
                   clear c145
                   by_cases c146:0≤x215_4
                   ·rw[if_pos c146]at H
                    have c146b0:decide (0≤x215_4)=true:=decide_eq_true c146
                    clear c146
                    by_cases c147:x215_4<(t595.length:Int)
                    ·rw[if_pos c147]at H
                     have c147b0:decide (x215_4<(t595.length:Int))=true:=decide_eq_true c147
                     clear c147
                     by_cases c148:((rd_L3 t595 x215_4).length:Int)=2
                     ·rw[if_pos c148]at H
                      have c148b0:(((rd_L3 t595 x215_4).length:Int) == 2)=true:=beq_iff_eq.mpr c148
                      have c148b1:(((rd_L3 t595 x215_4).length:Int) != 2)=false:=bne_eq_false_iff_eq.mpr c148
                      clear c148
                      by_cases c149:0<((rd_L3 t595 x215_4).length:Int)
                      ·rw[if_pos c149]at H
                       have c149b0:decide (0<((rd_L3 t595 x215_4).length:Int))=true:=decide_eq_true c149
                       have c149b1:decide (0<(rd_L3 t595 x215_4).length)=true:=decide_eq_true (by omega)
                       clear c149
                       by_cases c150:1<((rd_L3 t595 x215_4).length:Int)
                       ·rw[if_pos c150]at H
                        have c150b0:decide (1<((rd_L3 t595 x215_4).length:Int))=true:=decide_eq_true c150
                        have c150b1:decide (1<(rd_L3 t595 x215_4).length)=true:=decide_eq_true (by omega)
                        clear c150
                        by_cases c151:(((rd_T42 (rd_L3 t595 x215_4) 0).f0) == ((rd_T42 (rd_L3 t595 x215_4) 1).f0) && (((rd_T42 (rd_L3 t595 x215_4) 0).f1) == ((rd_T42 (rd_L3 t595 x215_4) 1).f1) && (((rd_T42 (rd_L3 t595 x215_4) 0).f2) == ((rd_T42 (rd_L3 t595 x215_4) 1).f2))))=true
                        ·rw[if_pos c151]at H
                         have c151b0:(((rd_T42 (rd_L3 t595 x215_4) 0).f0) == ((rd_T42 (rd_L3 t595 x215_4) 1).f0) && (((rd_T42 (rd_L3 t595 x215_4) 0).f1) == ((rd_T42 (rd_L3 t595 x215_4) 1).f1) && (((rd_T42 (rd_L3 t595 x215_4) 0).f2) == ((rd_T42 (rd_L3 t595 x215_4) 1).f2))))=true:=c151
                         (try(have c151b1:decide (((rd_T42 (rd_L3 t595 x215_4) 0).f0)=((rd_T42 (rd_L3 t595 x215_4) 1).f0) && (((rd_T42 (rd_L3 t595 x215_4) 0).f1) == ((rd_T42 (rd_L3 t595 x215_4) 1).f1) && (((rd_T42 (rd_L3 t595 x215_4) 0).f2) == ((rd_T42 (rd_L3 t595 x215_4) 1).f2))))=true:=by simpa using c151))
                         (try(have c151b2:(((rd_T42 (rd_L3 t595 x215_4) 0).f0) == ((rd_T42 (rd_L3 t595 x215_4) 1).f0) && (((rd_T42 (rd_L3 t595 x215_4) 0).f1) == ((rd_T42 (rd_L3 t595 x215_4) 1).f1) && (((rd_T42 (rd_L3 t595 x215_4) 0).f2) == ((rd_T42 (rd_L3 t595 x215_4) 1).f2))))=true:=by simpa using c151))
                         clear c151
                         obtain rfl:=Option.some.inj H
                         have p628:0≤(x215_4:Int):=of_decide_eq_true (a13_)
                         have q628:x215_4<(t595.length:Int):=of_decide_eq_true (a13_)
                         obtain⟨ad628,A628_0,c628_0,e628,hx628_0,hl628_0,hi628_0⟩:=at_L3 (Kd.S_reads' HO_213.out).2.2 x215_4 p628 q628
                         cases e628
                         obtain⟨ce628,hce628,hMe628,hcc628⟩:=Kd.S_get HO_213.out [] x215_4 p628 ((a54_ HO_213.out))
                         obtain⟨ve628_0,rfl,ge628_0⟩:=hMe628
                         have hv628_0:=hcc628 0 _ rfl
                         rw[Nat.add_zero,show((Kd.slice 42 k42)).sz=1 from rfl,Nat.mul_one]at hv628_0
                         replace hv628_0:=Option.some.inj (hv628_0.symm.trans hx628_0)
                         rw[hv628_0]at ge628_0
                         have HL628_0:=am_ (show Kd.R k42 42 _ _ _ _ (rd_L3 t595 x215_4) from ge628_0)
                         clear hv628_0 ge628_0 hcc628 hce628
                         have HR628_0:=am_ hi628_0
                         have HC628_0:=am_ hl628_0
                         clear hi628_0 hl628_0
                         replace p628:=eq_true p628
                         replace q628:=eq_true q628
                         have p629:0≤(0:Int):=(by omega)
                         have q629:0<((rd_L3 t595 x215_4).length:Int):=of_decide_eq_true (a13_)
                         obtain⟨ad629,e629,hx629_0,hx629_1,hx629_2⟩:=at_T42 ((a10_ HR628_0.out)) 0 p629 q629
                         cases e629
                         have qi629:(0<(rd_L3 t595 x215_4).length)=True:=eq_true (by omega)
                         (try rw[show((0:Int)).toNat=0 from rfl]at hx629_0)
                         (try rw[show 0*3=0 from rfl]at hx629_0)
                         (try rw[Addr.add_zero']at hx629_0)
                         (try rw[show((0:Int)).toNat=0 from rfl]at hx629_1)
                         (try rw[show 0*3=0 from rfl]at hx629_1)
                         (try rw[Addr.add_zero']at hx629_1)
                         (try rw[show((0:Int)).toNat=0 from rfl]at hx629_2)
                         (try rw[show 0*3=0 from rfl]at hx629_2)
                         (try rw[Addr.add_zero']at hx629_2)
                         replace p629:=eq_true p629
                         replace q629:=eq_true q629
                         have p630:0≤(1:Int):=(by omega)
                         have q630:1<((rd_L3 t595 x215_4).length:Int):=of_decide_eq_true (a13_)
                         obtain⟨ad630,e630,hx630_0,hx630_1,hx630_2⟩:=at_T42 ((a10_ HR628_0.out)) 1 p630 q630
                         obtain rfl:ad629=ad630:=(by injection e630)
                         (try simp only[show(1:Int).toNat=1 from rfl,Nat.reduceMul,Nat.reduceEqDiff,Go.Addr.add, ↓reduceIte]at hx630_0)
                         (try simp only[show(1:Int).toNat=1 from rfl,Nat.reduceMul,Nat.reduceEqDiff,Go.Addr.add, ↓reduceIte]at hx630_1)
                         (try simp only[show(1:Int).toNat=1 from rfl,Nat.reduceMul,Nat.reduceEqDiff,Go.Addr.add, ↓reduceIte]at hx630_2)
                         have qi630:(1<(rd_L3 t595 x215_4).length)=True:=eq_true (by omega)
                         (try rw[show((1:Int)).toNat=1 from rfl]at hx630_0)
                         (try rw[show 1*3=3 from rfl]at hx630_0)
                         (try rw[show((1:Int)).toNat=1 from rfl]at hx630_1)
                         (try rw[show 1*3=3 from rfl]at hx630_1)
                         (try rw[show((1:Int)).toNat=1 from rfl]at hx630_2)
                         (try rw[show 1*3=3 from rfl]at hx630_2)
                         replace p630:=eq_true p630
                         replace q630:=eq_true q630
                         go_wp2
                         repeat (go_quiet (fail);try go_wp2)
                         go_ret
                         exact⟨a12_,a1_⟩
                        ·rw[if_neg c151]at H
                         have c151b0:(((rd_T42 (rd_L3 t595 x215_4) 0).f0) == ((rd_T42 (rd_L3 t595 x215_4) 1).f0) && (((rd_T42 (rd_L3 t595 x215_4) 0).f1) == ((rd_T42 (rd_L3 t595 x215_4) 1).f1) && (((rd_T42 (rd_L3 t595 x215_4) 0).f2) == ((rd_T42 (rd_L3 t595 x215_4) 1).f2))))=false:=by simpa using c151
                         (try(have c151b1:decide (((rd_T42 (rd_L3 t595 x215_4) 0).f0)=((rd_T42 (rd_L3 t595 x215_4) 1).f0) && (((rd_T42 (rd_L3 t595 x215_4) 0).f1) == ((rd_T42 (rd_L3 t595 x215_4) 1).f1) && (((rd_T42 (rd_L3 t595 x215_4) 0).f2) == ((rd_T42 (rd_L3 t595 x215_4) 1).f2))))=false:=by simpa using c151))
                         (try(have c151b2:(((rd_T42 (rd_L3 t595 x215_4) 0).f0) == ((rd_T42 (rd_L3 t595 x215_4) 1).f0) && (((rd_T42 (rd_L3 t595 x215_4) 0).f1) == ((rd_T42 (rd_L3 t595 x215_4) 1).f1) && (((rd_T42 (rd_L3 t595 x215_4) 0).f2) == ((rd_T42 (rd_L3 t595 x215_4) 1).f2))))=false:=by simpa using c151))
                         (try(have c151b3:¬(((rd_T42 (rd_L3 t595 x215_4) 0).f0)=((rd_T42 (rd_L3 t595 x215_4) 1).f0) && (((rd_T42 (rd_L3 t595 x215_4) 0).f1) == ((rd_T42 (rd_L3 t595 x215_4) 1).f1) && (((rd_T42 (rd_L3 t595 x215_4) 0).f2) == ((rd_T42 (rd_L3 t595 x215_4) 1).f2)))):=by simpa using c151))
                         clear c151
                         by_cases c152:((rd_T42 (rd_L3 t595 x215_4) 0).f0)=((rd_T42 (rd_L3 t595 x215_4) 1).f0)
                         ·rw[if_pos c152]at H
                          have c152b0:(((rd_T42 (rd_L3 t595 x215_4) 0).f0) == ((rd_T42 (rd_L3 t595 x215_4) 1).f0))=true:=beq_iff_eq.mpr c152
                          have c152b1:(((rd_T42 (rd_L3 t595 x215_4) 0).f0) != ((rd_T42 (rd_L3 t595 x215_4) 1).f0))=false:=bne_eq_false_iff_eq.mpr c152
                          have c151b4:(((rd_T42 (rd_L3 t595 x215_4) 0).f1) == ((rd_T42 (rd_L3 t595 x215_4) 1).f1) && (((rd_T42 (rd_L3 t595 x215_4) 0).f2) == ((rd_T42 (rd_L3 t595 x215_4) 1).f2)))=false:=by have h_:=c151b0;rw[c152b0,Bool.true_and]at h_;exact h_
                          clear c152
                          by_cases c153:((rd_T42 (rd_L3 t595 x215_4) 0).f2)<((rd_T42 (rd_L3 t595 x215_4) 1).f1)
                          ·rw[if_pos c153]at H
                           have c153b0:decide (((rd_T42 (rd_L3 t595 x215_4) 0).f2)<((rd_T42 (rd_L3 t595 x215_4) 1).f1))=true:=decide_eq_true c153
                           clear c153
                           obtain rfl:=Option.some.inj H
                           have p628:0≤(x215_4:Int):=of_decide_eq_true (a13_)
                           have q628:x215_4<(t595.length:Int):=of_decide_eq_true (a13_)
                           obtain⟨ad628,A628_0,c628_0,e628,hx628_0,hl628_0,hi628_0⟩:=at_L3 (Kd.S_reads' HO_213.out).2.2 x215_4 p628 q628
                           cases e628
                           obtain⟨ce628,hce628,hMe628,hcc628⟩:=Kd.S_get HO_213.out [] x215_4 p628 ((a54_ HO_213.out))
                           obtain⟨ve628_0,rfl,ge628_0⟩:=hMe628
                           have hv628_0:=hcc628 0 _ rfl
                           rw[Nat.add_zero,show((Kd.slice 42 k42)).sz=1 from rfl,Nat.mul_one]at hv628_0
                           replace hv628_0:=Option.some.inj (hv628_0.symm.trans hx628_0)
                           rw[hv628_0]at ge628_0
                           have HL628_0:=am_ (show Kd.R k42 42 _ _ _ _ (rd_L3 t595 x215_4) from ge628_0)
                           clear hv628_0 ge628_0 hcc628 hce628
                           have HR628_0:=am_ hi628_0
                           have HC628_0:=am_ hl628_0
                           clear hi628_0 hl628_0
                           replace p628:=eq_true p628
                           replace q628:=eq_true q628
                           have p629:0≤(0:Int):=(by omega)
                           have q629:0<((rd_L3 t595 x215_4).length:Int):=of_decide_eq_true (a13_)
                           obtain⟨ad629,e629,hx629_0,hx629_1,hx629_2⟩:=at_T42 ((a10_ HR628_0.out)) 0 p629 q629
                           cases e629
                           have qi629:(0<(rd_L3 t595 x215_4).length)=True:=eq_true (by omega)
                           (try rw[show((0:Int)).toNat=0 from rfl]at hx629_0)
                           (try rw[show 0*3=0 from rfl]at hx629_0)
                           (try rw[Addr.add_zero']at hx629_0)
                           (try rw[show((0:Int)).toNat=0 from rfl]at hx629_1)
                           (try rw[show 0*3=0 from rfl]at hx629_1)
                           (try rw[Addr.add_zero']at hx629_1)
                           (try rw[show((0:Int)).toNat=0 from rfl]at hx629_2)
                           (try rw[show 0*3=0 from rfl]at hx629_2)
                           (try rw[Addr.add_zero']at hx629_2)
                           replace p629:=eq_true p629
                           replace q629:=eq_true q629
                           have p630:0≤(1:Int):=(by omega)
                           have q630:1<((rd_L3 t595 x215_4).length:Int):=of_decide_eq_true (a13_)
                           obtain⟨ad630,e630,hx630_0,hx630_1,hx630_2⟩:=at_T42 ((a10_ HR628_0.out)) 1 p630 q630
                           obtain rfl:ad629=ad630:=(by injection e630)
                           (try simp only[show(1:Int).toNat=1 from rfl,Nat.reduceMul,Nat.reduceEqDiff,Go.Addr.add, ↓reduceIte]at hx630_0)
                           (try simp only[show(1:Int).toNat=1 from rfl,Nat.reduceMul,Nat.reduceEqDiff,Go.Addr.add, ↓reduceIte]at hx630_1)
                           (try simp only[show(1:Int).toNat=1 from rfl,Nat.reduceMul,Nat.reduceEqDiff,Go.Addr.add, ↓reduceIte]at hx630_2)
                           have qi630:(1<(rd_L3 t595 x215_4).length)=True:=eq_true (by omega)
                           (try rw[show((1:Int)).toNat=1 from rfl]at hx630_0)
                           (try rw[show 1*3=3 from rfl]at hx630_0)
                           (try rw[show((1:Int)).toNat=1 from rfl]at hx630_1)
                           (try rw[show 1*3=3 from rfl]at hx630_1)
                           (try rw[show((1:Int)).toNat=1 from rfl]at hx630_2)
                           (try rw[show 1*3=3 from rfl]at hx630_2)
                           replace p630:=eq_true p630
                           replace q630:=eq_true q630
                           have p631:0≤(0:Int):=(by omega)
                           have q631:0<((rd_L3 t595 x215_4).length:Int):=of_decide_eq_true (a13_)
                           obtain⟨ad631,e631,hx631_0,hx631_1,hx631_2⟩:=at_T42 ((a10_ HR628_0.out)) 0 p631 q631
                           obtain rfl:ad629=ad631:=(by injection e631)
                           have qi631:(0<(rd_L3 t595 x215_4).length)=True:=eq_true (by omega)
                           (try rw[show((0:Int)).toNat=0 from rfl]at hx631_0)
                           (try rw[show 0*3=0 from rfl]at hx631_0)
                           (try rw[Addr.add_zero']at hx631_0)
                           (try rw[show((0:Int)).toNat=0 from rfl]at hx631_1)
                           (try rw[show 0*3=0 from rfl]at hx631_1)
                           (try rw[Addr.add_zero']at hx631_1)
                           (try rw[show((0:Int)).toNat=0 from rfl]at hx631_2)
                           (try rw[show 0*3=0 from rfl]at hx631_2)
                           (try rw[Addr.add_zero']at hx631_2)
                           replace p631:=eq_true p631
                           replace q631:=eq_true q631
                           have p632:0≤(1:Int):=(by omega)
                           have q632:1<((rd_L3 t595 x215_4).length:Int):=of_decide_eq_true (a13_)
                           obtain⟨ad632,e632,hx632_0,hx632_1,hx632_2⟩:=at_T42 ((a10_ HR628_0.out)) 1 p632 q632
                           obtain rfl:ad629=ad632:=(by injection e632)
                           (try simp only[show(1:Int).toNat=1 from rfl,Nat.reduceMul,Nat.reduceEqDiff,Go.Addr.add, ↓reduceIte]at hx632_0)
                           (try simp only[show(1:Int).toNat=1 from rfl,Nat.reduceMul,Nat.reduceEqDiff,Go.Addr.add, ↓reduceIte]at hx632_1)
                           (try simp only[show(1:Int).toNat=1 from rfl,Nat.reduceMul,Nat.reduceEqDiff,Go.Addr.add, ↓reduceIte]at hx632_2)
                           have qi632:(1<(rd_L3 t595 x215_4).length)=True:=eq_true (by omega)
                           (try rw[show((1:Int)).toNat=1 from rfl]at hx632_0)
                           (try rw[show 1*3=3 from rfl]at hx632_0)
                           (try rw[show((1:Int)).toNat=1 from rfl]at hx632_1)
                           (try rw[show 1*3=3 from rfl]at hx632_1)
                           (try rw[show((1:Int)).toNat=1 from rfl]at hx632_2)
                           (try rw[show 1*3=3 from rfl]at hx632_2)
                           replace p632:=eq_true p632
                           replace q632:=eq_true q632
                           have p633:0≤(0:Int):=(by omega)
                           have q633:0<((rd_L3 t595 x215_4).length:Int):=of_decide_eq_true (a13_)
                           obtain⟨ad633,e633,hx633_0,hx633_1,hx633_2⟩:=at_T42 ((a10_ HR628_0.out)) 0 p633 q633
                           obtain rfl:ad629=ad633:=(by injection e633)
                           have qi633:(0<(rd_L3 t595 x215_4).length)=True:=eq_true (by omega)
                           (try rw[show((0:Int)).toNat=0 from rfl]at hx633_0)
                           (try rw[show 0*3=0 from rfl]at hx633_0)
                           (try rw[Addr.add_zero']at hx633_0)
                           (try rw[show((0:Int)).toNat=0 from rfl]at hx633_1)
                           (try rw[show 0*3=0 from rfl]at hx633_1)
                           (try rw[Addr.add_zero']at hx633_1)
                           (try rw[show((0:Int)).toNat=0 from rfl]at hx633_2)
                           (try rw[show 0*3=0 from rfl]at hx633_2)
                           (try rw[Addr.add_zero']at hx633_2)
                           replace p633:=eq_true p633
                           replace q633:=eq_true q633
                           have p634:0≤(1:Int):=(by omega)
                           have q634:1<((rd_L3 t595 x215_4).length:Int):=of_decide_eq_true (a13_)
                           obtain⟨ad634,e634,hx634_0,hx634_1,hx634_2⟩:=at_T42 ((a10_ HR628_0.out)) 1 p634 q634
                           obtain rfl:ad629=ad634:=(by injection e634)
                           (try simp only[show(1:Int).toNat=1 from rfl,Nat.reduceMul,Nat.reduceEqDiff,Go.Addr.add, ↓reduceIte]at hx634_0)
                           (try simp only[show(1:Int).toNat=1 from rfl,Nat.reduceMul,Nat.reduceEqDiff,Go.Addr.add, ↓reduceIte]at hx634_1)
                           (try simp only[show(1:Int).toNat=1 from rfl,Nat.reduceMul,Nat.reduceEqDiff,Go.Addr.add, ↓reduceIte]at hx634_2)
                           have qi634:(1<(rd_L3 t595 x215_4).length)=True:=eq_true (by omega)
                           (try rw[show((1:Int)).toNat=1 from rfl]at hx634_0)
                           (try rw[show 1*3=3 from rfl]at hx634_0)
                           (try rw[show((1:Int)).toNat=1 from rfl]at hx634_1)
                           (try rw[show 1*3=3 from rfl]at hx634_1)
                           (try rw[show((1:Int)).toNat=1 from rfl]at hx634_2)
                           (try rw[show 1*3=3 from rfl]at hx634_2)
                           replace p634:=eq_true p634
                           replace q634:=eq_true q634
                           go_wp2
                           repeat (go_quiet (fail);try go_wp2)
                           go_ret
                           exact⟨a12_,a1_⟩
                          ·rw[if_neg c153]at H
                           have c153b0:decide (((rd_T42 (rd_L3 t595 x215_4) 0).f2)<((rd_T42 (rd_L3 t595 x215_4) 1).f1))=false:=decide_eq_false c153
                           clear c153
                           by_cases c154:((rd_T42 (rd_L3 t595 x215_4) 1).f2)<((rd_T42 (rd_L3 t595 x215_4) 0).f1)
                           ·rw[if_pos c154]at H
                            have c154b0:decide (((rd_T42 (rd_L3 t595 x215_4) 1).f2)<((rd_T42 (rd_L3 t595 x215_4) 0).f1))=true:=decide_eq_true c154
                            clear c154
                            obtain rfl:=Option.some.inj H
                            have p628:0≤(x215_4:Int):=of_decide_eq_true (a13_)
                            have q628:x215_4<(t595.length:Int):=of_decide_eq_true (a13_)
                            obtain⟨ad628,A628_0,c628_0,e628,hx628_0,hl628_0,hi628_0⟩:=at_L3 (Kd.S_reads' HO_213.out).2.2 x215_4 p628 q628
                            cases e628
                            obtain⟨ce628,hce628,hMe628,hcc628⟩:=Kd.S_get HO_213.out [] x215_4 p628 ((a54_ HO_213.out))
                            obtain⟨ve628_0,rfl,ge628_0⟩:=hMe628
                            have hv628_0:=hcc628 0 _ rfl
                            rw[Nat.add_zero,show((Kd.slice 42 k42)).sz=1 from rfl,Nat.mul_one]at hv628_0
                            replace hv628_0:=Option.some.inj (hv628_0.symm.trans hx628_0)
                            rw[hv628_0]at ge628_0
                            have HL628_0:=am_ (show Kd.R k42 42 _ _ _ _ (rd_L3 t595 x215_4) from ge628_0)
                            clear hv628_0 ge628_0 hcc628 hce628
                            have HR628_0:=am_ hi628_0
                            have HC628_0:=am_ hl628_0
                            clear hi628_0 hl628_0
                            replace p628:=eq_true p628
                            replace q628:=eq_true q628
                            have p629:0≤(0:Int):=(by omega)
                            have q629:0<((rd_L3 t595 x215_4).length:Int):=of_decide_eq_true (a13_)
                            obtain⟨ad629,e629,hx629_0,hx629_1,hx629_2⟩:=at_T42 ((a10_ HR628_0.out)) 0 p629 q629
                            cases e629
                            have qi629:(0<(rd_L3 t595 x215_4).length)=True:=eq_true (by omega)
                            (try rw[show((0:Int)).toNat=0 from rfl]at hx629_0)
                            (try rw[show 0*3=0 from rfl]at hx629_0)
                            (try rw[Addr.add_zero']at hx629_0)
                            (try rw[show((0:Int)).toNat=0 from rfl]at hx629_1)
                            (try rw[show 0*3=0 from rfl]at hx629_1)
                            (try rw[Addr.add_zero']at hx629_1)
                            (try rw[show((0:Int)).toNat=0 from rfl]at hx629_2)
                            (try rw[show 0*3=0 from rfl]at hx629_2)
                            (try rw[Addr.add_zero']at hx629_2)
                            replace p629:=eq_true p629
                            replace q629:=eq_true q629
                            have p630:0≤(1:Int):=(by omega)
                            have q630:1<((rd_L3 t595 x215_4).length:Int):=of_decide_eq_true (a13_)
                            obtain⟨ad630,e630,hx630_0,hx630_1,hx630_2⟩:=at_T42 ((a10_ HR628_0.out)) 1 p630 q630
                            obtain rfl:ad629=ad630:=(by injection e630)
                            (try simp only[show(1:Int).toNat=1 from rfl,Nat.reduceMul,Nat.reduceEqDiff,Go.Addr.add, ↓reduceIte]at hx630_0)
                            (try simp only[show(1:Int).toNat=1 from rfl,Nat.reduceMul,Nat.reduceEqDiff,Go.Addr.add, ↓reduceIte]at hx630_1)
                            (try simp only[show(1:Int).toNat=1 from rfl,Nat.reduceMul,Nat.reduceEqDiff,Go.Addr.add, ↓reduceIte]at hx630_2)
                            have qi630:(1<(rd_L3 t595 x215_4).length)=True:=eq_true (by omega)
                            (try rw[show((1:Int)).toNat=1 from rfl]at hx630_0)
                            (try rw[show 1*3=3 from rfl]at hx630_0)
                            (try rw[show((1:Int)).toNat=1 from rfl]at hx630_1)
                            (try rw[show 1*3=3 from rfl]at hx630_1)
                            (try rw[show((1:Int)).toNat=1 from rfl]at hx630_2)
                            (try rw[show 1*3=3 from rfl]at hx630_2)
                            replace p630:=eq_true p630
                            replace q630:=eq_true q630
                            have p631:0≤(0:Int):=(by omega)
                            have q631:0<((rd_L3 t595 x215_4).length:Int):=of_decide_eq_true (a13_)
                            obtain⟨ad631,e631,hx631_0,hx631_1,hx631_2⟩:=at_T42 ((a10_ HR628_0.out)) 0 p631 q631
                            obtain rfl:ad629=ad631:=(by injection e631)
                            have qi631:(0<(rd_L3 t595 x215_4).length)=True:=eq_true (by omega)
                            (try rw[show((0:Int)).toNat=0 from rfl]at hx631_0)
                            (try rw[show 0*3=0 from rfl]at hx631_0)
                            (try rw[Addr.add_zero']at hx631_0)
                            (try rw[show((0:Int)).toNat=0 from rfl]at hx631_1)
                            (try rw[show 0*3=0 from rfl]at hx631_1)
                            (try rw[Addr.add_zero']at hx631_1)
                            (try rw[show((0:Int)).toNat=0 from rfl]at hx631_2)
                            (try rw[show 0*3=0 from rfl]at hx631_2)
                            (try rw[Addr.add_zero']at hx631_2)
                            replace p631:=eq_true p631
                            replace q631:=eq_true q631
                            have p632:0≤(1:Int):=(by omega)
                            have q632:1<((rd_L3 t595 x215_4).length:Int):=of_decide_eq_true (a13_)
                            obtain⟨ad632,e632,hx632_0,hx632_1,hx632_2⟩:=at_T42 ((a10_ HR628_0.out)) 1 p632 q632
                            obtain rfl:ad629=ad632:=(by injection e632)
                            (try simp only[show(1:Int).toNat=1 from rfl,Nat.reduceMul,Nat.reduceEqDiff,Go.Addr.add, ↓reduceIte]at hx632_0)
                            (try simp only[show(1:Int).toNat=1 from rfl,Nat.reduceMul,Nat.reduceEqDiff,Go.Addr.add, ↓reduceIte]at hx632_1)
                            (try simp only[show(1:Int).toNat=1 from rfl,Nat.reduceMul,Nat.reduceEqDiff,Go.Addr.add, ↓reduceIte]at hx632_2)
                            have qi632:(1<(rd_L3 t595 x215_4).length)=True:=eq_true (by omega)
                            (try rw[show((1:Int)).toNat=1 from rfl]at hx632_0)
                            (try rw[show 1*3=3 from rfl]at hx632_0)
                            (try rw[show((1:Int)).toNat=1 from rfl]at hx632_1)
                            (try rw[show 1*3=3 from rfl]at hx632_1)
                            (try rw[show((1:Int)).toNat=1 from rfl]at hx632_2)
                            (try rw[show 1*3=3 from rfl]at hx632_2)
                            replace p632:=eq_true p632
                            replace q632:=eq_true q632
                            have p633:0≤(0:Int):=(by omega)
                            have q633:0<((rd_L3 t595 x215_4).length:Int):=of_decide_eq_true (a13_)
                            obtain⟨ad633,e633,hx633_0,hx633_1,hx633_2⟩:=at_T42 ((a10_ HR628_0.out)) 0 p633 q633
                            obtain rfl:ad629=ad633:=(by injection e633)
                            have qi633:(0<(rd_L3 t595 x215_4).length)=True:=eq_true (by omega)
                            (try rw[show((0:Int)).toNat=0 from rfl]at hx633_0)
                            (try rw[show 0*3=0 from rfl]at hx633_0)
                            (try rw[Addr.add_zero']at hx633_0)
                            (try rw[show((0:Int)).toNat=0 from rfl]at hx633_1)
                            (try rw[show 0*3=0 from rfl]at hx633_1)
                            (try rw[Addr.add_zero']at hx633_1)
                            (try rw[show((0:Int)).toNat=0 from rfl]at hx633_2)
                            (try rw[show 0*3=0 from rfl]at hx633_2)
                            (try rw[Addr.add_zero']at hx633_2)
                            replace p633:=eq_true p633
                            replace q633:=eq_true q633
                            have p634:0≤(1:Int):=(by omega)
                            have q634:1<((rd_L3 t595 x215_4).length:Int):=of_decide_eq_true (a13_)
                            obtain⟨ad634,e634,hx634_0,hx634_1,hx634_2⟩:=at_T42 ((a10_ HR628_0.out)) 1 p634 q634
                            obtain rfl:ad629=ad634:=(by injection e634)
                            (try simp only[show(1:Int).toNat=1 from rfl,Nat.reduceMul,Nat.reduceEqDiff,Go.Addr.add, ↓reduceIte]at hx634_0)
                            (try simp only[show(1:Int).toNat=1 from rfl,Nat.reduceMul,Nat.reduceEqDiff,Go.Addr.add, ↓reduceIte]at hx634_1)
                            (try simp only[show(1:Int).toNat=1 from rfl,Nat.reduceMul,Nat.reduceEqDiff,Go.Addr.add, ↓reduceIte]at hx634_2)
                            have qi634:(1<(rd_L3 t595 x215_4).length)=True:=eq_true (by omega)
                            (try rw[show((1:Int)).toNat=1 from rfl]at hx634_0)
                            (try rw[show 1*3=3 from rfl]at hx634_0)
                            (try rw[show((1:Int)).toNat=1 from rfl]at hx634_1)
                            (try rw[show 1*3=3 from rfl]at hx634_1)
                            (try rw[show((1:Int)).toNat=1 from rfl]at hx634_2)
                            (try rw[show 1*3=3 from rfl]at hx634_2)
                            replace p634:=eq_true p634
                            replace q634:=eq_true q634
                            have p635:0≤(1:Int):=(by omega)
                            have q635:1<((rd_L3 t595 x215_4).length:Int):=of_decide_eq_true (a13_)
                            obtain⟨ad635,e635,hx635_0,hx635_1,hx635_2⟩:=at_T42 ((a10_ HR628_0.out)) 1 p635 q635
                            obtain rfl:ad629=ad635:=(by injection e635)
                            (try simp only[show(1:Int).toNat=1 from rfl,Nat.reduceMul,Nat.reduceEqDiff,Go.Addr.add, ↓reduceIte]at hx635_0)
                            (try simp only[show(1:Int).toNat=1 from rfl,Nat.reduceMul,Nat.reduceEqDiff,Go.Addr.add, ↓reduceIte]at hx635_1)
                            (try simp only[show(1:Int).toNat=1 from rfl,Nat.reduceMul,Nat.reduceEqDiff,Go.Addr.add, ↓reduceIte]at hx635_2)
                            have qi635:(1<(rd_L3 t595 x215_4).length)=True:=eq_true (by omega)
                            (try rw[show((1:Int)).toNat=1 from rfl]at hx635_0)
                            (try rw[show 1*3=3 from rfl]at hx635_0)
                            (try rw[show((1:Int)).toNat=1 from rfl]at hx635_1)
                            (try rw[show 1*3=3 from rfl]at hx635_1)
                            (try rw[show((1:Int)).toNat=1 from rfl]at hx635_2)
                            (try rw[show 1*3=3 from rfl]at hx635_2)
                            replace p635:=eq_true p635
                            replace q635:=eq_true q635
                            have p636:0≤(0:Int):=(by omega)
                            have q636:0<((rd_L3 t595 x215_4).length:Int):=of_decide_eq_true (a13_)
                            obtain⟨ad636,e636,hx636_0,hx636_1,hx636_2⟩:=at_T42 ((a10_ HR628_0.out)) 0 p636 q636
                            obtain rfl:ad629=ad636:=(by injection e636)
                            have qi636:(0<(rd_L3 t595 x215_4).length)=True:=eq_true (by omega)
                            (try rw[show((0:Int)).toNat=0 from rfl]at hx636_0)
                            (try rw[show 0*3=0 from rfl]at hx636_0)
                            (try rw[Addr.add_zero']at hx636_0)
                            (try rw[show((0:Int)).toNat=0 from rfl]at hx636_1)
                            (try rw[show 0*3=0 from rfl]at hx636_1)
                            (try rw[Addr.add_zero']at hx636_1)
                            (try rw[show((0:Int)).toNat=0 from rfl]at hx636_2)
                            (try rw[show 0*3=0 from rfl]at hx636_2)
                            (try rw[Addr.add_zero']at hx636_2)
                            replace p636:=eq_true p636
                            replace q636:=eq_true q636
                            go_wp2
                            repeat (go_quiet (fail);try go_wp2)
                            go_ret
                            exact⟨a12_,a1_⟩
                           ·rw[if_neg c154]at H
                            have c154b0:decide (((rd_T42 (rd_L3 t595 x215_4) 1).f2)<((rd_T42 (rd_L3 t595 x215_4) 0).f1))=false:=decide_eq_false c154
                            clear c154
                            have H':=am_ H
                            clear H
                            have p628:0≤(x215_4:Int):=of_decide_eq_true (a13_)
                            have q628:x215_4<(t595.length:Int):=of_decide_eq_true (a13_)
                            obtain⟨ad628,A628_0,c628_0,e628,hx628_0,hl628_0,hi628_0⟩:=at_L3 (Kd.S_reads' HO_213.out).2.2 x215_4 p628 q628
                            cases e628
                            obtain⟨ce628,hce628,hMe628,hcc628⟩:=Kd.S_get HO_213.out [] x215_4 p628 ((a54_ HO_213.out))
                            obtain⟨ve628_0,rfl,ge628_0⟩:=hMe628
                            have hv628_0:=hcc628 0 _ rfl
                            rw[Nat.add_zero,show((Kd.slice 42 k42)).sz=1 from rfl,Nat.mul_one]at hv628_0
                            replace hv628_0:=Option.some.inj (hv628_0.symm.trans hx628_0)
                            rw[hv628_0]at ge628_0
                            have HL628_0:=am_ (show Kd.R k42 42 _ _ _ _ (rd_L3 t595 x215_4) from ge628_0)
                            clear hv628_0 ge628_0 hcc628 hce628
                            have HR628_0:=am_ hi628_0
                            have HC628_0:=am_ hl628_0
                            clear hi628_0 hl628_0
                            replace p628:=eq_true p628
                            replace q628:=eq_true q628
                            have p629:0≤(0:Int):=(by omega)
                            have q629:0<((rd_L3 t595 x215_4).length:Int):=of_decide_eq_true (a13_)
                            obtain⟨ad629,e629,hx629_0,hx629_1,hx629_2⟩:=at_T42 ((a10_ HR628_0.out)) 0 p629 q629
                            cases e629
                            have qi629:(0<(rd_L3 t595 x215_4).length)=True:=eq_true (by omega)
                            (try rw[show((0:Int)).toNat=0 from rfl]at hx629_0)
                            (try rw[show 0*3=0 from rfl]at hx629_0)
                            (try rw[Addr.add_zero']at hx629_0)
                            (try rw[show((0:Int)).toNat=0 from rfl]at hx629_1)
                            (try rw[show 0*3=0 from rfl]at hx629_1)
                            (try rw[Addr.add_zero']at hx629_1)
                            (try rw[show((0:Int)).toNat=0 from rfl]at hx629_2)
                            (try rw[show 0*3=0 from rfl]at hx629_2)
                            (try rw[Addr.add_zero']at hx629_2)
                            replace p629:=eq_true p629
                            replace q629:=eq_true q629
                            have p630:0≤(1:Int):=(by omega)
                            have q630:1<((rd_L3 t595 x215_4).length:Int):=of_decide_eq_true (a13_)
                            obtain⟨ad630,e630,hx630_0,hx630_1,hx630_2⟩:=at_T42 ((a10_ HR628_0.out)) 1 p630 q630
                            obtain rfl:ad629=ad630:=(by injection e630)
                            (try simp only[show(1:Int).toNat=1 from rfl,Nat.reduceMul,Nat.reduceEqDiff,Go.Addr.add, ↓reduceIte]at hx630_0)
                            (try simp only[show(1:Int).toNat=1 from rfl,Nat.reduceMul,Nat.reduceEqDiff,Go.Addr.add, ↓reduceIte]at hx630_1)
                            (try simp only[show(1:Int).toNat=1 from rfl,Nat.reduceMul,Nat.reduceEqDiff,Go.Addr.add, ↓reduceIte]at hx630_2)
                            have qi630:(1<(rd_L3 t595 x215_4).length)=True:=eq_true (by omega)
                            (try rw[show((1:Int)).toNat=1 from rfl]at hx630_0)
                            (try rw[show 1*3=3 from rfl]at hx630_0)
                            (try rw[show((1:Int)).toNat=1 from rfl]at hx630_1)
                            (try rw[show 1*3=3 from rfl]at hx630_1)
                            (try rw[show((1:Int)).toNat=1 from rfl]at hx630_2)
                            (try rw[show 1*3=3 from rfl]at hx630_2)
                            replace p630:=eq_true p630
                            replace q630:=eq_true q630
                            have p631:0≤(0:Int):=(by omega)
                            have q631:0<((rd_L3 t595 x215_4).length:Int):=of_decide_eq_true (a13_)
                            obtain⟨ad631,e631,hx631_0,hx631_1,hx631_2⟩:=at_T42 ((a10_ HR628_0.out)) 0 p631 q631
                            obtain rfl:ad629=ad631:=(by injection e631)
                            have qi631:(0<(rd_L3 t595 x215_4).length)=True:=eq_true (by omega)
                            (try rw[show((0:Int)).toNat=0 from rfl]at hx631_0)
                            (try rw[show 0*3=0 from rfl]at hx631_0)
                            (try rw[Addr.add_zero']at hx631_0)
                            (try rw[show((0:Int)).toNat=0 from rfl]at hx631_1)
                            (try rw[show 0*3=0 from rfl]at hx631_1)
                            (try rw[Addr.add_zero']at hx631_1)
                            (try rw[show((0:Int)).toNat=0 from rfl]at hx631_2)
                            (try rw[show 0*3=0 from rfl]at hx631_2)
                            (try rw[Addr.add_zero']at hx631_2)
                            replace p631:=eq_true p631
                            replace q631:=eq_true q631
                            have p632:0≤(1:Int):=(by omega)
                            have q632:1<((rd_L3 t595 x215_4).length:Int):=of_decide_eq_true (a13_)
                            obtain⟨ad632,e632,hx632_0,hx632_1,hx632_2⟩:=at_T42 ((a10_ HR628_0.out)) 1 p632 q632
                            obtain rfl:ad629=ad632:=(by injection e632)
                            (try simp only[show(1:Int).toNat=1 from rfl,Nat.reduceMul,Nat.reduceEqDiff,Go.Addr.add, ↓reduceIte]at hx632_0)
                            (try simp only[show(1:Int).toNat=1 from rfl,Nat.reduceMul,Nat.reduceEqDiff,Go.Addr.add, ↓reduceIte]at hx632_1)
                            (try simp only[show(1:Int).toNat=1 from rfl,Nat.reduceMul,Nat.reduceEqDiff,Go.Addr.add, ↓reduceIte]at hx632_2)
                            have qi632:(1<(rd_L3 t595 x215_4).length)=True:=eq_true (by omega)
                            (try rw[show((1:Int)).toNat=1 from rfl]at hx632_0)
                            (try rw[show 1*3=3 from rfl]at hx632_0)
                            (try rw[show((1:Int)).toNat=1 from rfl]at hx632_1)
                            (try rw[show 1*3=3 from rfl]at hx632_1)
                            (try rw[show((1:Int)).toNat=1 from rfl]at hx632_2)
                            (try rw[show 1*3=3 from rfl]at hx632_2)
                            replace p632:=eq_true p632
                            replace q632:=eq_true q632
                            have p633:0≤(0:Int):=(by omega)
                            have q633:0<((rd_L3 t595 x215_4).length:Int):=of_decide_eq_true (a13_)
                            obtain⟨ad633,e633,hx633_0,hx633_1,hx633_2⟩:=at_T42 ((a10_ HR628_0.out)) 0 p633 q633
                            obtain rfl:ad629=ad633:=(by injection e633)
                            have qi633:(0<(rd_L3 t595 x215_4).length)=True:=eq_true (by omega)
                            (try rw[show((0:Int)).toNat=0 from rfl]at hx633_0)
                            (try rw[show 0*3=0 from rfl]at hx633_0)
                            (try rw[Addr.add_zero']at hx633_0)
                            (try rw[show((0:Int)).toNat=0 from rfl]at hx633_1)
                            (try rw[show 0*3=0 from rfl]at hx633_1)
                            (try rw[Addr.add_zero']at hx633_1)
                            (try rw[show((0:Int)).toNat=0 from rfl]at hx633_2)
                            (try rw[show 0*3=0 from rfl]at hx633_2)
                            (try rw[Addr.add_zero']at hx633_2)
                            replace p633:=eq_true p633
                            replace q633:=eq_true q633
                            have p634:0≤(1:Int):=(by omega)
                            have q634:1<((rd_L3 t595 x215_4).length:Int):=of_decide_eq_true (a13_)
                            obtain⟨ad634,e634,hx634_0,hx634_1,hx634_2⟩:=at_T42 ((a10_ HR628_0.out)) 1 p634 q634
                            obtain rfl:ad629=ad634:=(by injection e634)
                            (try simp only[show(1:Int).toNat=1 from rfl,Nat.reduceMul,Nat.reduceEqDiff,Go.Addr.add, ↓reduceIte]at hx634_0)
                            (try simp only[show(1:Int).toNat=1 from rfl,Nat.reduceMul,Nat.reduceEqDiff,Go.Addr.add, ↓reduceIte]at hx634_1)
                            (try simp only[show(1:Int).toNat=1 from rfl,Nat.reduceMul,Nat.reduceEqDiff,Go.Addr.add, ↓reduceIte]at hx634_2)
                            have qi634:(1<(rd_L3 t595 x215_4).length)=True:=eq_true (by omega)
                            (try rw[show((1:Int)).toNat=1 from rfl]at hx634_0)
                            (try rw[show 1*3=3 from rfl]at hx634_0)
                            (try rw[show((1:Int)).toNat=1 from rfl]at hx634_1)
                            (try rw[show 1*3=3 from rfl]at hx634_1)
                            (try rw[show((1:Int)).toNat=1 from rfl]at hx634_2)
                            (try rw[show 1*3=3 from rfl]at hx634_2)
                            replace p634:=eq_true p634
                            replace q634:=eq_true q634
                            have p635:0≤(1:Int):=(by omega)
                            have q635:1<((rd_L3 t595 x215_4).length:Int):=of_decide_eq_true (a13_)
                            obtain⟨ad635,e635,hx635_0,hx635_1,hx635_2⟩:=at_T42 ((a10_ HR628_0.out)) 1 p635 q635
                            obtain rfl:ad629=ad635:=(by injection e635)
                            (try simp only[show(1:Int).toNat=1 from rfl,Nat.reduceMul,Nat.reduceEqDiff,Go.Addr.add, ↓reduceIte]at hx635_0)
                            (try simp only[show(1:Int).toNat=1 from rfl,Nat.reduceMul,Nat.reduceEqDiff,Go.Addr.add, ↓reduceIte]at hx635_1)
                            (try simp only[show(1:Int).toNat=1 from rfl,Nat.reduceMul,Nat.reduceEqDiff,Go.Addr.add, ↓reduceIte]at hx635_2)
                            have qi635:(1<(rd_L3 t595 x215_4).length)=True:=eq_true (by omega)
                            (try rw[show((1:Int)).toNat=1 from rfl]at hx635_0)
                            (try rw[show 1*3=3 from rfl]at hx635_0)
                            (try rw[show((1:Int)).toNat=1 from rfl]at hx635_1)
                            (try rw[show 1*3=3 from rfl]at hx635_1)
                            (try rw[show((1:Int)).toNat=1 from rfl]at hx635_2)
                            (try rw[show 1*3=3 from rfl]at hx635_2)
                            replace p635:=eq_true p635
                            replace q635:=eq_true q635
                            have p636:0≤(0:Int):=(by omega)
                            have q636:0<((rd_L3 t595 x215_4).length:Int):=of_decide_eq_true (a13_)
                            obtain⟨ad636,e636,hx636_0,hx636_1,hx636_2⟩:=at_T42 ((a10_ HR628_0.out)) 0 p636 q636
                            obtain rfl:ad629=ad636:=(by injection e636)
                            have qi636:(0<(rd_L3 t595 x215_4).length)=True:=eq_true (by omega)
                            (try rw[show((0:Int)).toNat=0 from rfl]at hx636_0)
                            (try rw[show 0*3=0 from rfl]at hx636_0)
                            (try rw[Addr.add_zero']at hx636_0)
                            (try rw[show((0:Int)).toNat=0 from rfl]at hx636_1)
                            (try rw[show 0*3=0 from rfl]at hx636_1)
                            (try rw[Addr.add_zero']at hx636_1)
                            (try rw[show((0:Int)).toNat=0 from rfl]at hx636_2)
                            (try rw[show 0*3=0 from rfl]at hx636_2)
                            (try rw[Addr.add_zero']at hx636_2)
                            replace p636:=eq_true p636
                            replace q636:=eq_true q636
                            go_wp2
                            repeat (go_quiet (fail);try go_wp2)
                            go_roundg k4
                            case measure=>have:=HJ11.out;have:=HJ98.out;have:=HJ130.out;have:=HK4.out;omega
                            case rel=>exact⟨(wrap64 (x215_4+1)),(by first | rfl|(simp;done)|(simp[*];done)),H',⟨by have:=HJ11.out;have:=HJ98.out;have:=HJ130.out;have:=HK4.out;omega⟩,⟨(a0_ HO_7.out)⟩,⟨(a0_ HO_16.out)⟩,⟨(a24_ HO_213.out)⟩,⟨a1_⟩⟩
                         ·rw[if_neg c152]at H
                          have c152b0:(((rd_T42 (rd_L3 t595 x215_4) 0).f0) == ((rd_T42 (rd_L3 t595 x215_4) 1).f0))=false:=beq_eq_false_iff_ne.mpr c152
                          have c152b1:(((rd_T42 (rd_L3 t595 x215_4) 0).f0) != ((rd_T42 (rd_L3 t595 x215_4) 1).f0))=true:=bne_iff_ne.mpr c152
                          obtain rfl:=Option.some.inj H
                          have p628:0≤(x215_4:Int):=of_decide_eq_true (a13_)
                          have q628:x215_4<(t595.length:Int):=of_decide_eq_true (a13_)
                          obtain⟨ad628,A628_0,c628_0,e628,hx628_0,hl628_0,hi628_0⟩:=at_L3 (Kd.S_reads' HO_213.out).2.2 x215_4 p628 q628
                          cases e628
                          obtain⟨ce628,hce628,hMe628,hcc628⟩:=Kd.S_get HO_213.out [] x215_4 p628 ((a54_ HO_213.out))
                          obtain⟨ve628_0,rfl,ge628_0⟩:=hMe628
                          have hv628_0:=hcc628 0 _ rfl
                          rw[Nat.add_zero,show((Kd.slice 42 k42)).sz=1 from rfl,Nat.mul_one]at hv628_0
                          replace hv628_0:=Option.some.inj (hv628_0.symm.trans hx628_0)
                          rw[hv628_0]at ge628_0
                          have HL628_0:=am_ (show Kd.R k42 42 _ _ _ _ (rd_L3 t595 x215_4) from ge628_0)
                          clear hv628_0 ge628_0 hcc628 hce628
                          have HR628_0:=am_ hi628_0
                          have HC628_0:=am_ hl628_0
                          clear hi628_0 hl628_0
                          replace p628:=eq_true p628
                          replace q628:=eq_true q628
                          have p629:0≤(0:Int):=(by omega)
                          have q629:0<((rd_L3 t595 x215_4).length:Int):=of_decide_eq_true (a13_)
                          obtain⟨ad629,e629,hx629_0,hx629_1,hx629_2⟩:=at_T42 ((a10_ HR628_0.out)) 0 p629 q629
                          cases e629
                          have qi629:(0<(rd_L3 t595 x215_4).length)=True:=eq_true (by omega)
                          (try rw[show((0:Int)).toNat=0 from rfl]at hx629_0)
                          (try rw[show 0*3=0 from rfl]at hx629_0)
                          (try rw[Addr.add_zero']at hx629_0)
                          (try rw[show((0:Int)).toNat=0 from rfl]at hx629_1)
                          (try rw[show 0*3=0 from rfl]at hx629_1)
                          (try rw[Addr.add_zero']at hx629_1)
                          (try rw[show((0:Int)).toNat=0 from rfl]at hx629_2)
                          (try rw[show 0*3=0 from rfl]at hx629_2)
                          (try rw[Addr.add_zero']at hx629_2)
                          replace p629:=eq_true p629
                          replace q629:=eq_true q629
                          have p630:0≤(1:Int):=(by omega)
                          have q630:1<((rd_L3 t595 x215_4).length:Int):=of_decide_eq_true (a13_)
                          obtain⟨ad630,e630,hx630_0,hx630_1,hx630_2⟩:=at_T42 ((a10_ HR628_0.out)) 1 p630 q630
                          obtain rfl:ad629=ad630:=(by injection e630)
                          (try simp only[show(1:Int).toNat=1 from rfl,Nat.reduceMul,Nat.reduceEqDiff,Go.Addr.add, ↓reduceIte]at hx630_0)
                          (try simp only[show(1:Int).toNat=1 from rfl,Nat.reduceMul,Nat.reduceEqDiff,Go.Addr.add, ↓reduceIte]at hx630_1)
                          (try simp only[show(1:Int).toNat=1 from rfl,Nat.reduceMul,Nat.reduceEqDiff,Go.Addr.add, ↓reduceIte]at hx630_2)
                          have qi630:(1<(rd_L3 t595 x215_4).length)=True:=eq_true (by omega)
                          (try rw[show((1:Int)).toNat=1 from rfl]at hx630_0)
                          (try rw[show 1*3=3 from rfl]at hx630_0)
                          (try rw[show((1:Int)).toNat=1 from rfl]at hx630_1)
                          (try rw[show 1*3=3 from rfl]at hx630_1)
                          (try rw[show((1:Int)).toNat=1 from rfl]at hx630_2)
                          (try rw[show 1*3=3 from rfl]at hx630_2)
                          replace p630:=eq_true p630
                          replace q630:=eq_true q630
                          have p631:0≤(0:Int):=(by omega)
                          have q631:0<((rd_L3 t595 x215_4).length:Int):=of_decide_eq_true (a13_)
                          obtain⟨ad631,e631,hx631_0,hx631_1,hx631_2⟩:=at_T42 ((a10_ HR628_0.out)) 0 p631 q631
                          obtain rfl:ad629=ad631:=(by injection e631)
                          have qi631:(0<(rd_L3 t595 x215_4).length)=True:=eq_true (by omega)
                          (try rw[show((0:Int)).toNat=0 from rfl]at hx631_0)
                          (try rw[show 0*3=0 from rfl]at hx631_0)
                          (try rw[Addr.add_zero']at hx631_0)
                          (try rw[show((0:Int)).toNat=0 from rfl]at hx631_1)
                          (try rw[show 0*3=0 from rfl]at hx631_1)
                          (try rw[Addr.add_zero']at hx631_1)
                          (try rw[show((0:Int)).toNat=0 from rfl]at hx631_2)
                          (try rw[show 0*3=0 from rfl]at hx631_2)
                          (try rw[Addr.add_zero']at hx631_2)
                          replace p631:=eq_true p631
                          replace q631:=eq_true q631
                          have p632:0≤(1:Int):=(by omega)
                          have q632:1<((rd_L3 t595 x215_4).length:Int):=of_decide_eq_true (a13_)
                          obtain⟨ad632,e632,hx632_0,hx632_1,hx632_2⟩:=at_T42 ((a10_ HR628_0.out)) 1 p632 q632
                          obtain rfl:ad629=ad632:=(by injection e632)
                          (try simp only[show(1:Int).toNat=1 from rfl,Nat.reduceMul,Nat.reduceEqDiff,Go.Addr.add, ↓reduceIte]at hx632_0)
                          (try simp only[show(1:Int).toNat=1 from rfl,Nat.reduceMul,Nat.reduceEqDiff,Go.Addr.add, ↓reduceIte]at hx632_1)
                          (try simp only[show(1:Int).toNat=1 from rfl,Nat.reduceMul,Nat.reduceEqDiff,Go.Addr.add, ↓reduceIte]at hx632_2)
                          have qi632:(1<(rd_L3 t595 x215_4).length)=True:=eq_true (by omega)
                          (try rw[show((1:Int)).toNat=1 from rfl]at hx632_0)
                          (try rw[show 1*3=3 from rfl]at hx632_0)
                          (try rw[show((1:Int)).toNat=1 from rfl]at hx632_1)
                          (try rw[show 1*3=3 from rfl]at hx632_1)
                          (try rw[show((1:Int)).toNat=1 from rfl]at hx632_2)
                          (try rw[show 1*3=3 from rfl]at hx632_2)
                          replace p632:=eq_true p632
                          replace q632:=eq_true q632
                          go_wp2
                          repeat (go_quiet (fail);try go_wp2)
                          go_ret
                          exact⟨a12_,a1_⟩
                       ·rw[if_neg c150]at H
                        exact absurd H (by simp)
                      ·rw[if_neg c149]at H
                       exact absurd H (by simp)
                     ·rw[if_neg c148]at H
                      have c148b0:(((rd_L3 t595 x215_4).length:Int) == 2)=false:=beq_eq_false_iff_ne.mpr c148
                      have c148b1:(((rd_L3 t595 x215_4).length:Int) != 2)=true:=bne_iff_ne.mpr c148
                      obtain rfl:=Option.some.inj H
                      have p628:0≤(x215_4:Int):=of_decide_eq_true (a13_)
                      have q628:x215_4<(t595.length:Int):=of_decide_eq_true (a13_)
                      obtain⟨ad628,A628_0,c628_0,e628,hx628_0,hl628_0,hi628_0⟩:=at_L3 (Kd.S_reads' HO_213.out).2.2 x215_4 p628 q628
                      cases e628
                      obtain⟨ce628,hce628,hMe628,hcc628⟩:=Kd.S_get HO_213.out [] x215_4 p628 ((a54_ HO_213.out))
                      obtain⟨ve628_0,rfl,ge628_0⟩:=hMe628
                      have hv628_0:=hcc628 0 _ rfl
                      rw[Nat.add_zero,show((Kd.slice 42 k42)).sz=1 from rfl,Nat.mul_one]at hv628_0
                      replace hv628_0:=Option.some.inj (hv628_0.symm.trans hx628_0)
                      rw[hv628_0]at ge628_0
                      have HL628_0:=am_ (show Kd.R k42 42 _ _ _ _ (rd_L3 t595 x215_4) from ge628_0)
                      clear hv628_0 ge628_0 hcc628 hce628
                      have HR628_0:=am_ hi628_0
                      have HC628_0:=am_ hl628_0
                      clear hi628_0 hl628_0
                      replace p628:=eq_true p628
                      replace q628:=eq_true q628
                      go_wp2
                      repeat (go_quiet (fail);try go_wp2)
                      go_ret
                      exact⟨a12_,a1_⟩
                    ·rw[if_neg c147]at H
                     exact absurd H (by simp)
                   ·rw[if_neg c146]at H
                    exact absurd H (by simp)
                  ·rw[if_neg c145]at H
                   have c145b0:decide (x215_4<(t595.length:Int))=false:=decide_eq_false c145
                   clear c145
                   have H':=am_ H
                   clear H
                   go_wp2
                   repeat (go_quiet (fail);try go_wp2)
                   all_goals
                    go_meet
                    case rel=>exact⟨_,H',⟨by have:=HJ11.out;have:=HJ98.out;have:=HJ130.out;have:=HK4.out;first | omega|exact Nat.le_refl _⟩,⟨(a0_ HO_7.out)⟩,⟨(a0_ HO_16.out)⟩,⟨a1_⟩⟩
           ·replace c128:=Bool.eq_false_iff.mpr c128
            subst c128
            replace H:(laws_FnMerges.j4 kj98 l1 t576 t599 t601 t605)=some r:=by rw[if_neg (show ¬(false=true) by decide)]at H;exact H
            have H':=am_ H
            clear H
            go_wp2
            repeat (go_quiet (fail);try go_wp2)
            all_goals
             go_meet
             case rel=>exact⟨_,H',⟨by have:=HJ11.out;have:=HJ98.out;first | omega|exact Nat.le_refl _⟩,⟨(a0_ HO_7.out)⟩,⟨(a0_ HO_16.out)⟩,⟨a1_⟩⟩
         case rest=>
          as_aux_lemma=>
           clear HC127
           try clear c1
           try clear p2
           try clear c6
           try clear p6
           try clear q6
           try clear hx6
           try clear qi6
           try clear c12
           try clear c14
           try clear c15
           try clear c62
           try clear p62
           try clear q62
           try clear hx62
           try clear qi62
           try clear p63
           try clear q63
           try clear hx63
           try clear qi63
           try clear p64
           try clear c128
           try clear c145
           try clear c145b0
           try clear c146
           try clear c147
           try clear c148
           try clear c148b0
           try clear c148b1
           try clear c149
           try clear c150
           try clear c151
           try clear c151b0
           try clear c151b1
           try clear c151b2
           try clear c152
           try clear c152b0
           try clear c152b1
           try clear c153
           try clear c153b0
           try clear c154
           try clear c154b0
           try clear hx628_0
           try clear hx629_0
           try clear hx629_1
           try clear hx629_2
           try clear hx630_0
           try clear hx630_1
           try clear hx630_2
           try clear hx631_0
           try clear hx631_1
           try clear hx631_2
           try clear hx632_0
           try clear hx632_1
           try clear hx632_2
           try clear hx633_0
           try clear hx633_1
           try clear hx633_2
           try clear hx634_0
           try clear hx634_1
           try clear hx634_2
           try clear hx635_0
           try clear hx635_1
           try clear hx635_2
           try clear hx636_0
           try clear hx636_1
           try clear hx636_2
           try clear p628
           try clear p629
           try clear p630
           try clear p631
           try clear p632
           try clear p633
           try clear p634
           try clear p635
           try clear p636
           try clear q628
           try clear q629
           try clear q630
           try clear q631
           try clear q632
           try clear q633
           try clear q634
           try clear q635
           try clear q636
           obtain⟨kq,HA,HJ126,HO_7,HO_16,HB⟩:=hcut
           cases kq with
           | zero=>exact absurd HA.out (by simp[laws_FnMerges.j4])
           | succ kj126=>
            have H:=HA.out
            clear HA
            simp only[laws_FnMerges.j4]at H
            have HC155:=am_ H
            clear H
            go_upto_region 27 with (fail)
            repeat (go_quiet (fail);go_upto_region 27 with (fail))
            go_cut [280] (fun v280 wc=>∃(kq:Nat) (x280_154:Bool),v280 = .bool x280_154∧Aside0 (laws_FnMerges.j5 kq l1 x280_154=some r)∧Aside0 (kq≤kj126)∧Aside0 (Below w.heap.size w wc))
            case first=>
             as_aux_lemma=>
              have H:=HC155.out
              clear HC155
              by_cases c156:t601=true
              ·subst c156
               replace H:((impl_IsSheet.f kj126 t599).bind fun t637=>(if t637=true then(if t605<0 then(laws_FnMerges.j5 kj126 l1 true) else(laws_FnMerges.j5 kj126 l1 (decide (t605>(t576.length:Int))))) else(laws_FnMerges.j5 kj126 l1 true)))=some r:=by rw[if_pos rfl]at H;exact H
               obtain⟨t637,A157,H⟩:=bo_ H
               try dsimp only at H
               by_cases c158:t637=true
               ·subst c158
                replace H:(if t605<0 then(laws_FnMerges.j5 kj126 l1 true) else(laws_FnMerges.j5 kj126 l1 (decide (t605>(t576.length:Int)))))=some r:=by rw[if_pos rfl]at H;exact H
                by_cases c159:t605<0
                ·rw[if_pos c159]at H
                 have c159b0:decide (t605<0)=true:=decide_eq_true c159
                 clear c159
                 (first|rw[c159b0]|(simp only[i64_w,i32_w];rw[c159b0]) | skip)
                 exact(laws_FnMerges.j5_true (H.trans (congrArg some HR_.out))).elim
                ·rw[if_neg c159]at H
                 have c159b0:decide (t605<0)=false:=decide_eq_false c159
                 clear c159
                 (first|rw[c159b0]|(simp only[i64_w,i32_w];rw[c159b0]) | skip)
                 have H':=am_ H
                 clear H
                 obtain⟨Ao162,co162,eo162⟩:=Kd.R_slice HO_16.out
                 subst eo162
                 iterate 6 (go_wp2_with (first|(go_at_call 21;(with_reducible refine(impl_IsSheet.calls kj126 _ _ t599 true _ ?side1 ?side2 A157.out).mono ?_);(case side1=>exact(a4_ HO_16.out));(case side2=>exact(Kd.R_reads' HO_16.out).2.1);rintro e w163 ⟨rfl,hb⟩;replace HO_7:=am_ (Kd.R_below ((a0_ HO_7.out)) hb);replace HO_16:=am_ (Kd.R_below ((a0_ HO_16.out)) hb);replace HB:=am_ (below_step (a1_) hb);(try clear hb);(try clear hb2);(try clear hk);(try clear hi)));try go_quiet (fail))
                 all_goals
                  go_meet
                  case rel=>exact⟨_,(decide (t605>(t576.length:Int))),(by first | rfl|(simp;done)|(simp[*];done)),H',⟨by have:=HJ11.out;have:=HJ98.out;have:=HJ126.out;first | omega|exact Nat.le_refl _⟩,⟨a1_⟩⟩
               ·replace c158:=Bool.eq_false_iff.mpr c158
                subst c158
                replace H:(laws_FnMerges.j5 kj126 l1 true)=some r:=by rw[if_neg (show ¬(false=true) by decide)]at H;exact H
                exact(laws_FnMerges.j5_true (H.trans (congrArg some HR_.out))).elim
              ·replace c156:=Bool.eq_false_iff.mpr c156
               subst c156
               replace H:(laws_FnMerges.j5 kj126 l1 false)=some r:=by rw[if_neg (show ¬(false=true) by decide)]at H;exact H
               have H':=am_ H
               clear H
               go_wp2
               repeat (go_quiet (fail);try go_wp2)
               all_goals
                go_meet
                case rel=>exact⟨_,(false),(by first | rfl|(simp;done)|(simp[*];done)),H',⟨by have:=HJ11.out;have:=HJ98.out;have:=HJ126.out;first | omega|exact Nat.le_refl _⟩,⟨a1_⟩⟩
            case rest=>
             as_aux_lemma=>
              clear HC155
              try clear c1
              try clear p2
              try clear c6
              try clear p6
              try clear q6
              try clear hx6
              try clear qi6
              try clear c12
              try clear c14
              try clear c15
              try clear c62
              try clear p62
              try clear q62
              try clear hx62
              try clear qi62
              try clear p63
              try clear q63
              try clear hx63
              try clear qi63
              try clear p64
              try clear c128
              try clear c145
              try clear c145b0
              try clear c146
              try clear c147
              try clear c148
              try clear c148b0
              try clear c148b1
              try clear c149
              try clear c150
              try clear c151
              try clear c151b0
              try clear c151b1
              try clear c151b2
              try clear c152
              try clear c152b0
              try clear c152b1
              try clear c153
              try clear c153b0
              try clear c154
              try clear c154b0
              try clear c156
              try clear c158
              try clear c159
              try clear c159b0
              try clear hx628_0
              try clear hx629_0
              try clear hx629_1
              try clear hx629_2
              try clear hx630_0
              try clear hx630_1
              try clear hx630_2
              try clear hx631_0
              try clear hx631_1
              try clear hx631_2
              try clear hx632_0
              try clear hx632_1
              try clear hx632_2
              try clear hx633_0
              try clear hx633_1
              try clear hx633_2
              try clear hx634_0
              try clear hx634_1
              try clear hx634_2
              try clear hx635_0
              try clear hx635_1
              try clear hx635_2
              try clear hx636_0
              try clear hx636_1
              try clear hx636_2
              try clear p2
              try clear p6
              try clear p62
              try clear p628
              try clear p629
              try clear p63
              try clear p630
              try clear p631
              try clear p632
              try clear p633
              try clear p634
              try clear p635
              try clear p636
              try clear p64
              try clear q6
              try clear q62
              try clear q628
              try clear q629
              try clear q63
              try clear q630
              try clear q631
              try clear q632
              try clear q633
              try clear q634
              try clear q635
              try clear q636
              obtain⟨kq,x280_154,rfl,HA,HJ154,HB⟩:=hcut
              cases kq with
              | zero=>exact absurd HA.out (by simp[laws_FnMerges.j5])
              | succ kj154=>
               have H:=HA.out
               clear HA
               simp only[laws_FnMerges.j5]at H
               by_cases c166:x280_154=true
               ·subst c166
                replace H:(some false)=some r:=by rw[if_pos rfl]at H;exact H
                exact absurd ((Option.some.inj H).trans HR_.out) (by decide)
               ·replace c166:=Bool.eq_false_iff.mpr c166
                subst c166
                replace H:((spec_DrawMergeFirst.f kj154 l1).bind fun bt638=>((impl_MergeFirst.f kj154 bt638.1 bt638.2.1 bt638.2.2).bind fun bt647=>((spec_MergeFirst.f kj154 bt638.1 bt638.2.1 bt638.2.2).bind fun bt652=>(if(bt647.2.2 == bt652.2.2)=true then((laws_pSameHoles.f kj154 bt647.1 bt652.1).bind fun t657=>(if t657=true then(some (bt647.2.1 == bt652.2.1)) else(some false))) else(some false)))))=some r:=by rw[if_neg (show ¬(false=true) by decide)]at H;exact H
                obtain⟨⟨t638,t639,t640⟩,A167,H⟩:=bo_ H
                try dsimp only at H
                obtain⟨⟨t647,t648,t649⟩,A168,H⟩:=bo_ H
                try dsimp only at H
                obtain⟨⟨t652,t653,t654⟩,A169,H⟩:=bo_ H
                try dsimp only at H
                by_cases c170:(t649 == t654)=true
                ·rw[if_pos c170]at H
                 have c170b0:(t649 == t654)=true:=c170
                 (try(have c170b1:decide (t649=t654)=true:=by simpa using c170))
                 (try(have c170b2:(t649 == t654)=true:=by simpa using c170))
                 clear c170
                 obtain⟨t657,A171,H⟩:=bo_ H
                 try dsimp only at H
                 by_cases c172:t657=true
                 ·subst c172
                  replace H:(some (t648 == t653))=some r:=by rw[if_pos rfl]at H;exact H
                  obtain rfl:=Option.some.inj H
                  iterate 6 (go_wp2_with (first|(go_at_call 43;(with_reducible refine(spec_DrawMergeFirst.calls kj154 _ _ l1 t638 t639 t640 _ ?side1 ?side2 A167.out).mono ?_);(case side1=>exact(a8_ HR1.out));(case side2=>exact HC1.out);rintro e w173 ⟨v641,v643,v645,rfl,ho0,ho1,ho2,hb⟩;have HO642:=am_ (Kd.R_lower (Kd.R_mono (ok':=fun _=>True) ho0 (fun _ _=>trivial)) (below_size (a1_)));have HO644:=am_ (Kd.R_lower (Kd.R_mono (ok':=fun _=>True) ho1 (fun _ _=>trivial)) (below_size (a1_)));have HO646:=am_ (Kd.R_lower (Kd.R_mono (ok':=fun _=>True) ho2 (fun _ _=>trivial)) (below_size (a1_)));replace HB:=am_ (below_step (a1_) hb);(try clear hb);(try clear hb2);(try clear hk);(try clear hi);(try clear ho0);(try clear ho1);(try clear ho2);obtain⟨Ao174,co174,eo174⟩:=Kd.R_slice HO642.out;subst eo174;obtain⟨Ao175,co175,eo175⟩:=Kd.R_slice HO644.out;subst eo175;obtain⟨Ao176,co176,eo176⟩:=Kd.R_slice HO646.out;subst eo176)|(go_at_call 38;(with_reducible refine(impl_MergeFirst.calls kj154 _ _ t638 _ _ t639 _ _ t640 t647 t648 t649 _ ?side1 ?side2 ?side3 ?side4 ?side5 ?side6 A168.out).mono ?_);(case side1=>exact(a4_ HO642.out));(case side2=>exact(Kd.R_reads' HO642.out).2.1);(case side3=>exact(a4_ HO644.out));(case side4=>exact(Kd.R_reads' HO644.out).2.1);(case side5=>exact(a4_ HO646.out));(case side6=>exact(Kd.R_reads' HO646.out).2.1);rintro e w177 ⟨v650,rfl,ho0,hb⟩;replace HO642:=am_ (Kd.R_below ((a0_ HO642.out)) hb);replace HO644:=am_ (Kd.R_below ((a0_ HO644.out)) hb);replace HO646:=am_ (Kd.R_below ((a0_ HO646.out)) hb);have HO651:=am_ (Kd.R_lower ho0 (below_size (a1_)));replace HB:=am_ (below_step (a1_) hb);(try clear hb);(try clear hb2);(try clear hk);(try clear hi);(try clear ho0))|(go_at_call 37;(with_reducible refine(spec_MergeFirst.calls kj154 _ _ t638 _ _ t639 _ _ t640 t652 t653 t654 _ ?side1 ?side2 ?side3 ?side4 ?side5 ?side6 A169.out).mono ?_);(case side1=>exact(a4_ HO642.out));(case side2=>exact(Kd.R_reads' HO642.out).2.1);(case side3=>exact(a4_ HO644.out));(case side4=>exact(Kd.R_reads' HO644.out).2.1);(case side5=>exact(a4_ HO646.out));(case side6=>exact(Kd.R_reads' HO646.out).2.1);rintro e w178 ⟨v655,rfl,ho0,hb⟩;replace HO642:=am_ (Kd.R_below ((a0_ HO642.out)) hb);replace HO644:=am_ (Kd.R_below ((a0_ HO644.out)) hb);replace HO646:=am_ (Kd.R_below ((a0_ HO646.out)) hb);replace HO651:=am_ (Kd.R_below ((a0_ HO651.out)) hb);have HO656:=am_ (Kd.R_lower ho0 (below_size (a1_)));replace HB:=am_ (below_step (a1_) hb);(try clear hb);(try clear hb2);(try clear hk);(try clear hi);(try clear ho0);obtain⟨Ao179,co179,eo179⟩:=Kd.R_slice HO651.out;subst eo179;obtain⟨Ao180,co180,eo180⟩:=Kd.R_slice HO656.out;subst eo180)|(go_at_call 42;(with_reducible refine(laws_pSameHoles.calls kj154 _ _ t647 _ _ t652 true _ ?side1 ?side2 ?side3 ?side4 A171.out).mono ?_);(case side1=>exact(a4_ HO651.out));(case side2=>exact(Kd.R_reads' HO651.out).2.1);(case side3=>exact(a4_ HO656.out));(case side4=>exact(Kd.R_reads' HO656.out).2.1);rintro e w' ⟨rfl,⟨nd,rfl⟩⟩;(try first|exact⟨rfl,_,World.drewN_drewN _ _ _⟩|exact⟨rfl,_,Eq.trans (World.drewN_drewN _ _ _) (congrArg (World.drewN _) (Nat.add_assoc _ _ _))⟩)));try go_quiet (first|(go_at_call 42;(with_reducible refine(laws_pSameHoles.calls kj154 _ _ t647 _ _ t652 true _ ?side1 ?side2 ?side3 ?side4 A171.out).mono ?_);(case side1=>exact(a4_ HO651.out));(case side2=>exact(Kd.R_reads' HO651.out).2.1);(case side3=>exact(a4_ HO656.out));(case side4=>exact(Kd.R_reads' HO656.out).2.1);rintro e w' ⟨rfl,⟨nd,rfl⟩⟩;(try first|exact⟨rfl,_,World.drewN_drewN _ _ _⟩|exact⟨rfl,_,Eq.trans (World.drewN_drewN _ _ _) (congrArg (World.drewN _) (Nat.add_assoc _ _ _))⟩))))
                  go_ret
                  exact⟨a12_,a1_⟩
                 ·replace c172:=Bool.eq_false_iff.mpr c172
                  subst c172
                  replace H:(some false)=some r:=by rw[if_neg (show ¬(false=true) by decide)]at H;exact H
                  exact absurd ((Option.some.inj H).trans HR_.out) (by decide)
                ·rw[if_neg c170]at H
                 have c170b0:(t649 == t654)=false:=by simpa using c170
                 (try(have c170b1:decide (t649=t654)=false:=by simpa using c170))
                 (try(have c170b2:(t649 == t654)=false:=by simpa using c170))
                 (try(have c170b3:¬(t649=t654):=by simpa using c170))
                 clear c170
                 exact absurd ((Option.some.inj H).trans HR_.out) (by decide)
/-- THE ONE PURE STATEMENT of laws_FnMerges: yours. -/
def laws_FnMerges.Pure:Prop:= ∀(l0:List Int) (l1:List Int),l0.length≤maxLen→l0.length*1≤140737488351232→(∀x∈l0,(Lit.int .u8 x).wf=true)→l1.length≤maxLen→l1.length*1≤140737488351232→(∀x∈l1,(Lit.int .u8 x).wf=true)→∃k,laws_FnMerges.f k l0 l1=some true
theorem laws_FnMerges.walk (P:laws_FnMerges.Pure) (a0:Option Addr) (len0 cap0:Nat) (z0:List Int) (a1:Option Addr) (len1 cap1:Nat) (z1:List Int) (w:World) (w0:(a0=none∧len0=0∧cap0=0∧z0 = [])∨∃x,a0=some x∧len0≤cap0∧cap0≤maxLen∧z0.length=cap0∧(∀i,i<z0.length→w.cell? (x.add i)=some (.int .u8 (z0.getD i 0)))∧∀n∈z0,(Lit.int .u8 n).wf=true) (y0:len0*1≤140737488351232) (w1:(a1=none∧len1=0∧cap1=0∧z1 = [])∨∃x,a1=some x∧len1≤cap1∧cap1≤maxLen∧z1.length=cap1∧(∀i,i<z1.length→w.cell? (x.add i)=some (.int .u8 (z1.getD i 0)))∧∀n∈z1,(Lit.int .u8 n).wf=true) (y1:len1*1≤140737488351232) :
 Calls Try.prog 7 #[.slice a0 len0 cap0, .slice a1 len1 cap1] w fun e w'=>e = .returned (.bool true)∧Below w.heap.size w w':=by
 obtain⟨l0,rfl,hr0,hm0,hw0,hc0⟩:=ReadsInt.ofRowC w0
 obtain⟨l1,rfl,hr1,hm1,hw1,hc1⟩:=ReadsInt.ofRowC w1
 obtain⟨k,h⟩:=P l0 l1 hm0 y0 hw0 hm1 y1 hw1
 refine(laws_FnMerges.calls k _ _ l0 _ _ l1 true w (Kd.C_of_reads (d:=(0:Int)) (h1:=fun _=>rfl) hr0) hc0 (Kd.C_of_reads (d:=(0:Int)) (h1:=fun _=>rfl) hr1) hc1 h rfl).mono ?_
 rintro e w' ⟨rfl,hd⟩
 exact⟨rfl,hd⟩

end Go.Proofs.Ytplpjmhmochcfaa.QFnMerges
