/- Written by a program of this session (the kit's printer, with leaf contracts proved by hand put in): what each Go function computes, and that the call computes it. No condition but those that each theorem names. -/
import Derived.Test.YtplpjmhmochcfaaGreatQFnDifferencesx0
import Derived.Test.YtplpjmhmochcfaaGreatQFnDifferencesx2
import Derived.Test.YtplpjmhmochcfaaGreatQFnDifferencesx7
import Derived.Test.YtplpjmhmochcfaaGreatQFnDifferencesx9
import Derived.Test.YtplpjmhmochcfaaGreatQFnDifferencesx10
import Derived.Test.YtplpjmhmochcfaaGreatQFnDifferencesx11
import Derived.Test.YtplpjmhmochcfaaGreatQFnDifferencesx12
import Derived.Test.YtplpjmhmochcfaaGreatQFnDifferencesx13
import Derived.Test.YtplpjmhmochcfaaGreatQFnDifferencesx14
import Derived.Test.YtplpjmhmochcfaaGreatQFnDifferencesx15
import Derived.Test.YtplpjmhmochcfaaGreatQFnDifferencesx16
namespace Go.Proofs.YtplpjmhmochcfaaGreat.QFnDifferences
open Go.RowKit Go.Proofs.YtplpjmhmochcfaaGreatW.PrintWords Go.Proofs.YtplpjmhmochcfaaGreatW.PrintLast Go.Proofs.YtplpjmhmochcfaaGreatW.PrintMore
attribute [local go_sem] max2_int min2_int max_two min_two max_three min_three max_four min_four   -- for this text's walks alone
set_option linter.unusedVariables false
set_option linter.unusedSimpArgs false

/-! ### laws_FnDifferences: function 3 -/
mutual
def laws_FnDifferences.j0:Nat→List Int→List (S40)→List (S40)→List (S40)→List (S40)→Bool→List (S40)→List (S40)→Int→List (S40)→List Int→Bool→Option (Bool)
 | 0,_,_,_,_,_,_,_,_,_,_,_,_=>none
 | k+1,x1,x5,x6,x7,x8,x9,x10,x11,x15,x19,x23,x171=>if x171=true then(some false) else(if x9=true then((impl_ApplyDifference.f k x5 x7 x8).bind fun bt715=>((impl_ApplyDifference.f k x6 x8 x7).bind fun bt719=>((impl_DistanceOf.f k x6 x5).bind fun bt723=>(if bt715.2=true then((laws_pSameHoles.f k bt715.1 x6).bind fun t725=>(if t725=true then(if bt719.2=true then((laws_pSameHoles.f k bt719.1 x5).bind fun t726=>(if t726=true then(if bt723.2=true then(if bt723.1=x15 then(if(wrap64 ((x10.length:Int)+(x11.length:Int)))=x15 then(if(wrap64 ((x19.length:Int)+(x10.length:Int)))=(x5.length:Int) then(laws_FnDifferences.j1 k x1 x10 x11 x23 ((wrap64 ((x19.length:Int)+(x11.length:Int))) != (x6.length:Int))) else(laws_FnDifferences.j1 k x1 x10 x11 x23 true)) else(laws_FnDifferences.j1 k x1 x10 x11 x23 true)) else(laws_FnDifferences.j1 k x1 x10 x11 x23 true)) else(laws_FnDifferences.j1 k x1 x10 x11 x23 true)) else(laws_FnDifferences.j1 k x1 x10 x11 x23 true))) else(laws_FnDifferences.j1 k x1 x10 x11 x23 true)) else(laws_FnDifferences.j1 k x1 x10 x11 x23 true))) else(laws_FnDifferences.j1 k x1 x10 x11 x23 true))))) else(laws_FnDifferences.j3 k x1))
def laws_FnDifferences.j3:Nat→List Int→Option (Bool)
 | 0,_=>none
 | k+1,x1=>(spec_DrawNearestSheet.f k x1).bind fun bt739=>((impl_NearestSheet.f k bt739.1 bt739.2).bind fun bt745=>((spec_NearestSheet.f k bt739.1 bt739.2).bind fun bt748=>(if(bt745.2.2 != bt748.2.2)=true then(laws_FnDifferences.j4 k x1 bt739.1 bt739.2 bt745.2.2 bt748.1 bt748.2.1 true) else(if bt745.1=bt748.1 then(laws_FnDifferences.j4 k x1 bt739.1 bt739.2 bt745.2.2 bt748.1 bt748.2.1 (bt745.2.1 != bt748.2.1)) else(laws_FnDifferences.j4 k x1 bt739.1 bt739.2 bt745.2.2 bt748.1 bt748.2.1 true)))))
def laws_FnDifferences.j4:Nat→List Int→List (S40)→List (List (S40))→Bool→Int→Int→Bool→Option (Bool)
 | 0,_,_,_,_,_,_,_=>none
 | k+1,x1,x33,x34,x37,x38,x39,x296=>if x296=true then(some false) else(if x37=true then(laws_FnDifferences.l1 k x1 x33 x38 x39 x34 (x34.length:Int) 0) else(laws_FnDifferences.j6 k x1))
def laws_FnDifferences.j6:Nat→List Int→Option (Bool)
 | 0,_=>none
 | k+1,x1=>(spec_DrawApplyDifference.f k x1).bind fun bt754=>((impl_ApplyDifference.f k bt754.1 bt754.2.1 bt754.2.2).bind fun bt763=>((spec_ApplyDifference.f k bt754.1 bt754.2.1 bt754.2.2).bind fun bt767=>(if(bt763.2 == bt767.2)=true then((laws_pSameHoles.f k bt763.1 bt767.1).bind fun t771=>(some t771)) else(some false))))
def laws_FnDifferences.l1:Nat→List Int→List (S40)→Int→Int→List (List (S40))→Int→Int→Option (Bool)
 | 0,_,_,_,_,_,_,_=>none
 | k+1,x1,x33,x38,x39,x298,x299,x300=>if x300<x299 then(if 0≤x300 then(if x300<(x298.length:Int) then((impl_DistanceOf.f k x33 (rd_L3 x298 x300)).bind fun bt752=>(if bt752.2=true then(if bt752.1<x39 then(some false) else(if bt752.1=x39 then(if x300<x38 then(some false) else(if x300=x38 then(laws_FnDifferences.l1 k x1 x33 x38 x39 x298 x299 (wrap64 (x300+1))) else(laws_FnDifferences.l1 k x1 x33 x38 x39 x298 x299 (wrap64 (x300+1))))) else(if x300=x38 then(some false) else(laws_FnDifferences.l1 k x1 x33 x38 x39 x298 x299 (wrap64 (x300+1)))))) else(some false))) else(none)) else(none)) else(laws_FnDifferences.j6 k x1)
def laws_FnDifferences.j1:Nat→List Int→List (S40)→List (S40)→List Int→Bool→Option (Bool)
 | 0,_,_,_,_,_=>none
 | k+1,x1,x10,x11,x23,x248=>if x248=true then(some false) else((some (([]:List (S40)):List (S40))).bind fun y727=>(if y727.length+x10.length<5864062014805 then((some (y727 ++ x10:List (S40))).bind fun y730=>(if y730.length+x11.length<5864062014805 then((some (y730 ++ x11:List (S40))).bind fun y733=>(laws_FnDifferences.l0 k x1 x23 y733 (y733.length:Int) 0)) else(none))) else(none)))
def laws_FnDifferences.l0:Nat→List Int→List Int→List (S40)→Int→Int→Option (Bool)
 | 0,_,_,_,_,_=>none
 | k+1,x1,x23,x253,x254,x255=>if x255<x254 then(if 0≤x255 then(if x255<(x253.length:Int) then((laws_pIn.f k x23 ((rd_T40 x253 x255).f0)).bind fun t738=>(if t738=true then(laws_FnDifferences.l0 k x1 x23 x253 x254 (wrap64 (x255+1))) else(some false))) else(none)) else(none)) else(laws_FnDifferences.j3 k x1)
end
def laws_FnDifferences.f (k:Nat) (l0:List Int) (l1:List Int):Option (Bool):=(laws_big.f l0 l1).bind fun t670=>(if t670=true then(some true) else((spec_DrawDifferenceOf.f k l0).bind fun bt671=>((impl_DifferenceOf.f k bt671.1 bt671.2).bind fun bt677=>((spec_DifferenceOf.f k bt671.1 bt671.2).bind fun bt684=>((impl_DistanceOf.f k bt671.1 bt671.2).bind fun bt691=>((spec_DistanceOf.f k bt671.1 bt671.2).bind fun bt693=>((impl_SharedHoles.f k bt671.1 bt671.2).bind fun bt695=>((spec_SharedHoles.f k bt671.1 bt671.2).bind fun bt699=>((impl_ChangedTracks.f k bt671.1 bt671.2).bind fun bt703=>((spec_ChangedTracks.f k bt671.1 bt671.2).bind fun bt707=>(if(bt677.2.2 != bt684.2.2)=true then(laws_FnDifferences.j0 k l1 bt671.1 bt671.2 bt677.1 bt677.2.1 bt677.2.2 bt684.1 bt684.2.1 bt693.1 bt699.1 bt707.1 true) else((laws_pSameHoles.f k bt677.1 bt684.1).bind fun t711=>(if t711=true then((laws_pSameHoles.f k bt677.2.1 bt684.2.1).bind fun t712=>(if t712=true then(if(bt691.2 != bt693.2)=true then(laws_FnDifferences.j0 k l1 bt671.1 bt671.2 bt677.1 bt677.2.1 bt677.2.2 bt684.1 bt684.2.1 bt693.1 bt699.1 bt707.1 true) else(if bt691.1=bt693.1 then(if(bt695.2 != bt699.2)=true then(laws_FnDifferences.j0 k l1 bt671.1 bt671.2 bt677.1 bt677.2.1 bt677.2.2 bt684.1 bt684.2.1 bt693.1 bt699.1 bt707.1 true) else((laws_pSameHoles.f k bt695.1 bt699.1).bind fun t713=>(if t713=true then(if(bt703.2 != bt707.2)=true then(laws_FnDifferences.j0 k l1 bt671.1 bt671.2 bt677.1 bt677.2.1 bt677.2.2 bt684.1 bt684.2.1 bt693.1 bt699.1 bt707.1 true) else((laws_sameInts.f k bt703.1 bt707.1).bind fun t714=>(if t714=true then(if(bt691.2 != bt677.2.2)=true then(laws_FnDifferences.j0 k l1 bt671.1 bt671.2 bt677.1 bt677.2.1 bt677.2.2 bt684.1 bt684.2.1 bt693.1 bt699.1 bt707.1 true) else(if(bt695.2 != bt677.2.2)=true then(laws_FnDifferences.j0 k l1 bt671.1 bt671.2 bt677.1 bt677.2.1 bt677.2.2 bt684.1 bt684.2.1 bt693.1 bt699.1 bt707.1 true) else(laws_FnDifferences.j0 k l1 bt671.1 bt671.2 bt677.1 bt677.2.1 bt677.2.2 bt684.1 bt684.2.1 bt693.1 bt699.1 bt707.1 (bt703.2 != bt677.2.2)))) else(laws_FnDifferences.j0 k l1 bt671.1 bt671.2 bt677.1 bt677.2.1 bt677.2.2 bt684.1 bt684.2.1 bt693.1 bt699.1 bt707.1 true)))) else(laws_FnDifferences.j0 k l1 bt671.1 bt671.2 bt677.1 bt677.2.1 bt677.2.2 bt684.1 bt684.2.1 bt693.1 bt699.1 bt707.1 true)))) else(laws_FnDifferences.j0 k l1 bt671.1 bt671.2 bt677.1 bt677.2.1 bt677.2.2 bt684.1 bt684.2.1 bt693.1 bt699.1 bt707.1 true))) else(laws_FnDifferences.j0 k l1 bt671.1 bt671.2 bt677.1 bt677.2.1 bt677.2.2 bt684.1 bt684.2.1 bt693.1 bt699.1 bt707.1 true))) else(laws_FnDifferences.j0 k l1 bt671.1 bt671.2 bt677.1 bt677.2.1 bt677.2.2 bt684.1 bt684.2.1 bt693.1 bt699.1 bt707.1 true))))))))))))))
theorem laws_FnDifferences.mono_l:∀k,(∀y0 y1 y2 y3 y4 y5 y6 y7 y8 y9 y10 y11,LeO (laws_FnDifferences.j0 k y0 y1 y2 y3 y4 y5 y6 y7 y8 y9 y10 y11) (laws_FnDifferences.j0 (k+1) y0 y1 y2 y3 y4 y5 y6 y7 y8 y9 y10 y11))∧(∀y0,LeO (laws_FnDifferences.j3 k y0) (laws_FnDifferences.j3 (k+1) y0))∧(∀y0 y1 y2 y3 y4 y5 y6,LeO (laws_FnDifferences.j4 k y0 y1 y2 y3 y4 y5 y6) (laws_FnDifferences.j4 (k+1) y0 y1 y2 y3 y4 y5 y6))∧(∀y0,LeO (laws_FnDifferences.j6 k y0) (laws_FnDifferences.j6 (k+1) y0))∧(∀y0 y1 y2 y3 y4 y5 y6,LeO (laws_FnDifferences.l1 k y0 y1 y2 y3 y4 y5 y6) (laws_FnDifferences.l1 (k+1) y0 y1 y2 y3 y4 y5 y6))∧(∀y0 y1 y2 y3 y4,LeO (laws_FnDifferences.j1 k y0 y1 y2 y3 y4) (laws_FnDifferences.j1 (k+1) y0 y1 y2 y3 y4))∧(∀y0 y1 y2 y3 y4,LeO (laws_FnDifferences.l0 k y0 y1 y2 y3 y4) (laws_FnDifferences.l0 (k+1) y0 y1 y2 y3 y4))
 | 0=>⟨fun _ _ _ _ _ _ _ _ _ _ _ _ r h=>by simp[laws_FnDifferences.j0]at h,fun _ r h=>by simp[laws_FnDifferences.j3]at h,fun _ _ _ _ _ _ _ r h=>by simp[laws_FnDifferences.j4]at h,fun _ r h=>by simp[laws_FnDifferences.j6]at h,fun _ _ _ _ _ _ _ r h=>by simp[laws_FnDifferences.l1]at h,fun _ _ _ _ _ r h=>by simp[laws_FnDifferences.j1]at h,fun _ _ _ _ _ r h=>by simp[laws_FnDifferences.l0]at h⟩
 | k+1=>by
  obtain⟨ih0,ih1,ih2,ih3,ih4,ih5,ih6⟩:=laws_FnDifferences.mono_l k
  refine⟨?_,?_,?_,?_,?_,?_,?_⟩
  intros
  unfold laws_FnDifferences.j0
  rotate_left
  intros
  unfold laws_FnDifferences.j3
  rotate_left
  intros
  unfold laws_FnDifferences.j4
  rotate_left
  intros
  unfold laws_FnDifferences.j6
  rotate_left
  intros
  unfold laws_FnDifferences.l1
  rotate_left
  intros
  unfold laws_FnDifferences.j1
  rotate_left
  intros
  unfold laws_FnDifferences.l0
  rotate_left
  all_goals repeat' first|(with_reducible first|exact ih0 _ _ _ _ _ _ _ _ _ _ _ _|exact ih1 _|exact ih2 _ _ _ _ _ _ _|exact ih3 _|exact ih4 _ _ _ _ _ _ _|exact ih5 _ _ _ _ _|exact ih6 _ _ _ _ _|exact impl_ApplyDifference.mono _ _ _ _|exact impl_ChangedTracks.mono _ _ _|exact impl_DifferenceOf.mono _ _ _|exact impl_DistanceOf.mono _ _ _|exact impl_NearestSheet.mono _ _ _|exact impl_SharedHoles.mono _ _ _|exact laws_pIn.mono _ _ _|exact laws_pSameHoles.mono _ _ _|exact laws_sameInts.mono _ _ _|exact spec_ApplyDifference.mono _ _ _ _|exact spec_ChangedTracks.mono _ _ _|exact spec_DifferenceOf.mono _ _ _|exact spec_DistanceOf.mono _ _ _|exact spec_DrawApplyDifference.mono _ _|exact spec_DrawDifferenceOf.mono _ _|exact spec_DrawNearestSheet.mono _ _|exact spec_NearestSheet.mono _ _ _|exact spec_SharedHoles.mono _ _ _|exact LeO.refl _|exact LeO.none _|refine LeO.ite ?_ ?_|refine LeO.bind ?_ (fun _=>?_))|exact ih0 _ _ _ _ _ _ _ _ _ _ _ _|exact ih1 _|exact ih2 _ _ _ _ _ _ _|exact ih3 _|exact ih4 _ _ _ _ _ _ _|exact ih5 _ _ _ _ _|exact ih6 _ _ _ _ _|exact impl_ApplyDifference.mono _ _ _ _|exact impl_ChangedTracks.mono _ _ _|exact impl_DifferenceOf.mono _ _ _|exact impl_DistanceOf.mono _ _ _|exact impl_NearestSheet.mono _ _ _|exact impl_SharedHoles.mono _ _ _|exact laws_pIn.mono _ _ _|exact laws_pSameHoles.mono _ _ _|exact laws_sameInts.mono _ _ _|exact spec_ApplyDifference.mono _ _ _ _|exact spec_ChangedTracks.mono _ _ _|exact spec_DifferenceOf.mono _ _ _|exact spec_DistanceOf.mono _ _ _|exact spec_DrawApplyDifference.mono _ _|exact spec_DrawDifferenceOf.mono _ _|exact spec_DrawNearestSheet.mono _ _|exact spec_NearestSheet.mono _ _ _|exact spec_SharedHoles.mono _ _ _|exact LeO.none _|refine LeO.ite ?_ ?_|refine LeO.bind ?_ (fun _=>?_)
theorem laws_FnDifferences.mono:∀a0 a1 k,LeO (laws_FnDifferences.f k a0 a1) (laws_FnDifferences.f (k+1) a0 a1):=by
 intro a0 a1 k
 obtain⟨ih0,ih1,ih2,ih3,ih4,ih5,ih6⟩:=laws_FnDifferences.mono_l k
 unfold laws_FnDifferences.f
 repeat' first
  |(with_reducible exact ih0 _ _ _ _ _ _ _ _ _ _ _ _)
  |(with_reducible exact ih1 _)
  |(with_reducible exact ih2 _ _ _ _ _ _ _)
  |(with_reducible exact ih3 _)
  |(with_reducible exact ih4 _ _ _ _ _ _ _)
  |(with_reducible exact ih5 _ _ _ _ _)
  |(with_reducible exact ih6 _ _ _ _ _)
  |(with_reducible exact impl_ApplyDifference.mono _ _ _ _)
  |(with_reducible exact impl_ChangedTracks.mono _ _ _)
  |(with_reducible exact impl_DifferenceOf.mono _ _ _)
  |(with_reducible exact impl_DistanceOf.mono _ _ _)
  |(with_reducible exact impl_NearestSheet.mono _ _ _)
  |(with_reducible exact impl_SharedHoles.mono _ _ _)
  |(with_reducible exact laws_pIn.mono _ _ _)
  |(with_reducible exact laws_pSameHoles.mono _ _ _)
  |(with_reducible exact laws_sameInts.mono _ _ _)
  |(with_reducible exact spec_ApplyDifference.mono _ _ _ _)
  |(with_reducible exact spec_ChangedTracks.mono _ _ _)
  |(with_reducible exact spec_DifferenceOf.mono _ _ _)
  |(with_reducible exact spec_DistanceOf.mono _ _ _)
  |(with_reducible exact spec_DrawApplyDifference.mono _ _)
  |(with_reducible exact spec_DrawDifferenceOf.mono _ _)
  |(with_reducible exact spec_DrawNearestSheet.mono _ _)
  |(with_reducible exact spec_NearestSheet.mono _ _ _)
  |(with_reducible exact spec_SharedHoles.mono _ _ _)
  |(with_reducible exact LeO.refl _)
  |(with_reducible exact LeO.none _)
  |(with_reducible refine LeO.ite ?_ ?_)
  |(with_reducible refine LeO.bind ?_ (fun _=>?_))
  |exact ih0 _ _ _ _ _ _ _ _ _ _ _ _
  |exact ih1 _
  |exact ih2 _ _ _ _ _ _ _
  |exact ih3 _
  |exact ih4 _ _ _ _ _ _ _
  |exact ih5 _ _ _ _ _
  |exact ih6 _ _ _ _ _
  |exact impl_ApplyDifference.mono _ _ _ _
  |exact impl_ChangedTracks.mono _ _ _
  |exact impl_DifferenceOf.mono _ _ _
  |exact impl_DistanceOf.mono _ _ _
  |exact impl_NearestSheet.mono _ _ _
  |exact impl_SharedHoles.mono _ _ _
  |exact laws_pIn.mono _ _ _
  |exact laws_pSameHoles.mono _ _ _
  |exact laws_sameInts.mono _ _ _
  |exact spec_ApplyDifference.mono _ _ _ _
  |exact spec_ChangedTracks.mono _ _ _
  |exact spec_DifferenceOf.mono _ _ _
  |exact spec_DistanceOf.mono _ _ _
  |exact spec_DrawApplyDifference.mono _ _
  |exact spec_DrawDifferenceOf.mono _ _
  |exact spec_DrawNearestSheet.mono _ _
  |exact spec_NearestSheet.mono _ _ _
  |exact spec_SharedHoles.mono _ _ _
  |exact LeO.none _
   | refine LeO.ite ?_ ?_
   | refine LeO.bind ?_ (fun _=>?_)
theorem laws_FnDifferences.j0_true:∀ {k y0 y1 y2 y3 y4 y5 y6 y7 y8 y9 y10},laws_FnDifferences.j0 k y0 y1 y2 y3 y4 y5 y6 y7 y8 y9 y10 true=some true→False:=by
 intro k y0 y1 y2 y3 y4 y5 y6 y7 y8 y9 y10 h
 cases k with
 | zero=>simp only[laws_FnDifferences.j0]at h;cases h
 | succ k=>rw[laws_FnDifferences.j0,if_pos rfl]at h;cases h
theorem laws_FnDifferences.j4_true:∀ {k y0 y1 y2 y3 y4 y5},laws_FnDifferences.j4 k y0 y1 y2 y3 y4 y5 true=some true→False:=by
 intro k y0 y1 y2 y3 y4 y5 h
 cases k with
 | zero=>simp only[laws_FnDifferences.j4]at h;cases h
 | succ k=>rw[laws_FnDifferences.j4,if_pos rfl]at h;cases h
theorem laws_FnDifferences.j1_true:∀ {k y0 y1 y2 y3},laws_FnDifferences.j1 k y0 y1 y2 y3 true=some true→False:=by
 intro k y0 y1 y2 y3 h
 cases k with
 | zero=>simp only[laws_FnDifferences.j1]at h;cases h
 | succ k=>rw[laws_FnDifferences.j1,if_pos rfl]at h;cases h
set_option maxHeartbeats 40000000 in
set_option maxRecDepth 100000 in
theorem laws_FnDifferences.calls (k:Nat) (A0:Option Addr) (c0:Nat) (l0:List Int) (A1:Option Addr) (c1:Nat) (l1:List Int) (r:Bool) (w:World) (hr0:Kd.C (Kd.int .u8) w A0 l0.length l0) (hc0:l0.length≤c0) (hr1:Kd.C (Kd.int .u8) w A1 l1.length l1) (hc1:l1.length≤c1) (h:laws_FnDifferences.f k l0 l1=some r) (hr_:r=true) :
 Calls Tryz.prog 3 #[.slice A0 l0.length c0, .slice A1 l1.length c1] w fun e w'=>e = .returned (.bool r)∧Below w.heap.size w w':=by
 have HR_:=am_ hr_
 clear hr_
 have hu40:=Tryz.underlying40
 have HR0:=am_ hr0
 have HC0:=am_ hc0
 clear hr0 hc0
 have HR1:=am_ hr1
 have HC1:=am_ hc1
 clear hr1 hc1
 have HB:=am_ (Below.refl w.heap.size w)
 have H:((laws_big.f l0 l1).bind fun t670=>(if t670=true then(some true) else((spec_DrawDifferenceOf.f k l0).bind fun bt671=>((impl_DifferenceOf.f k bt671.1 bt671.2).bind fun bt677=>((spec_DifferenceOf.f k bt671.1 bt671.2).bind fun bt684=>((impl_DistanceOf.f k bt671.1 bt671.2).bind fun bt691=>((spec_DistanceOf.f k bt671.1 bt671.2).bind fun bt693=>((impl_SharedHoles.f k bt671.1 bt671.2).bind fun bt695=>((spec_SharedHoles.f k bt671.1 bt671.2).bind fun bt699=>((impl_ChangedTracks.f k bt671.1 bt671.2).bind fun bt703=>((spec_ChangedTracks.f k bt671.1 bt671.2).bind fun bt707=>(if(bt677.2.2 != bt684.2.2)=true then(laws_FnDifferences.j0 k l1 bt671.1 bt671.2 bt677.1 bt677.2.1 bt677.2.2 bt684.1 bt684.2.1 bt693.1 bt699.1 bt707.1 true) else((laws_pSameHoles.f k bt677.1 bt684.1).bind fun t711=>(if t711=true then((laws_pSameHoles.f k bt677.2.1 bt684.2.1).bind fun t712=>(if t712=true then(if(bt691.2 != bt693.2)=true then(laws_FnDifferences.j0 k l1 bt671.1 bt671.2 bt677.1 bt677.2.1 bt677.2.2 bt684.1 bt684.2.1 bt693.1 bt699.1 bt707.1 true) else(if bt691.1=bt693.1 then(if(bt695.2 != bt699.2)=true then(laws_FnDifferences.j0 k l1 bt671.1 bt671.2 bt677.1 bt677.2.1 bt677.2.2 bt684.1 bt684.2.1 bt693.1 bt699.1 bt707.1 true) else((laws_pSameHoles.f k bt695.1 bt699.1).bind fun t713=>(if t713=true then(if(bt703.2 != bt707.2)=true then(laws_FnDifferences.j0 k l1 bt671.1 bt671.2 bt677.1 bt677.2.1 bt677.2.2 bt684.1 bt684.2.1 bt693.1 bt699.1 bt707.1 true) else((laws_sameInts.f k bt703.1 bt707.1).bind fun t714=>(if t714=true then(if(bt691.2 != bt677.2.2)=true then(laws_FnDifferences.j0 k l1 bt671.1 bt671.2 bt677.1 bt677.2.1 bt677.2.2 bt684.1 bt684.2.1 bt693.1 bt699.1 bt707.1 true) else(if(bt695.2 != bt677.2.2)=true then(laws_FnDifferences.j0 k l1 bt671.1 bt671.2 bt677.1 bt677.2.1 bt677.2.2 bt684.1 bt684.2.1 bt693.1 bt699.1 bt707.1 true) else(laws_FnDifferences.j0 k l1 bt671.1 bt671.2 bt677.1 bt677.2.1 bt677.2.2 bt684.1 bt684.2.1 bt693.1 bt699.1 bt707.1 (bt703.2 != bt677.2.2)))) else(laws_FnDifferences.j0 k l1 bt671.1 bt671.2 bt677.1 bt677.2.1 bt677.2.2 bt684.1 bt684.2.1 bt693.1 bt699.1 bt707.1 true)))) else(laws_FnDifferences.j0 k l1 bt671.1 bt671.2 bt677.1 bt677.2.1 bt677.2.2 bt684.1 bt684.2.1 bt693.1 bt699.1 bt707.1 true)))) else(laws_FnDifferences.j0 k l1 bt671.1 bt671.2 bt677.1 bt677.2.1 bt677.2.2 bt684.1 bt684.2.1 bt693.1 bt699.1 bt707.1 true))) else(laws_FnDifferences.j0 k l1 bt671.1 bt671.2 bt677.1 bt677.2.1 bt677.2.2 bt684.1 bt684.2.1 bt693.1 bt699.1 bt707.1 true))) else(laws_FnDifferences.j0 k l1 bt671.1 bt671.2 bt677.1 bt677.2.1 bt677.2.2 bt684.1 bt684.2.1 bt693.1 bt699.1 bt707.1 true)))))))))))))))=some r:=h
 clear h
 obtain⟨t670,A3,H⟩:=bo_ H
 try dsimp only at H
 by_cases c4:t670=true
 ·subst c4
  replace H:(some true)=some r:=by rw[if_pos rfl]at H;exact H
  obtain rfl:=Option.some.inj H
  go_enter Tryz.func3,Tryz.ntmps3
  go_wp2_with (first|((with_reducible refine gate_callee (f:=5) rfl ?_);refine goesL_ (some 54) rfl rfl Tryz.func5 (by kernel_rfl) rfl #[.slice A0 l0.length c0, .slice A1 l1.length c1] rfl gd_ ?_;(with_reducible refine(laws_big.calls _ _ l0 _ _ l1 true _ ?side1 ?side2 ?side3 ?side4 A3.out).mono ?_);(case side1=>exact(a15_ HR0.out));(case side2=>exact HC0.out);(case side3=>exact(a15_ HR1.out));(case side4=>exact HC1.out);rintro e w' ⟨rfl,⟨nd,rfl⟩⟩;refine⟨_,rfl,?_⟩))
  go_ret
  exact⟨a10_,a1_⟩
 ·replace c4:=Bool.eq_false_iff.mpr c4
  subst c4
  replace H:((spec_DrawDifferenceOf.f k l0).bind fun bt671=>((impl_DifferenceOf.f k bt671.1 bt671.2).bind fun bt677=>((spec_DifferenceOf.f k bt671.1 bt671.2).bind fun bt684=>((impl_DistanceOf.f k bt671.1 bt671.2).bind fun bt691=>((spec_DistanceOf.f k bt671.1 bt671.2).bind fun bt693=>((impl_SharedHoles.f k bt671.1 bt671.2).bind fun bt695=>((spec_SharedHoles.f k bt671.1 bt671.2).bind fun bt699=>((impl_ChangedTracks.f k bt671.1 bt671.2).bind fun bt703=>((spec_ChangedTracks.f k bt671.1 bt671.2).bind fun bt707=>(if(bt677.2.2 != bt684.2.2)=true then(laws_FnDifferences.j0 k l1 bt671.1 bt671.2 bt677.1 bt677.2.1 bt677.2.2 bt684.1 bt684.2.1 bt693.1 bt699.1 bt707.1 true) else((laws_pSameHoles.f k bt677.1 bt684.1).bind fun t711=>(if t711=true then((laws_pSameHoles.f k bt677.2.1 bt684.2.1).bind fun t712=>(if t712=true then(if(bt691.2 != bt693.2)=true then(laws_FnDifferences.j0 k l1 bt671.1 bt671.2 bt677.1 bt677.2.1 bt677.2.2 bt684.1 bt684.2.1 bt693.1 bt699.1 bt707.1 true) else(if bt691.1=bt693.1 then(if(bt695.2 != bt699.2)=true then(laws_FnDifferences.j0 k l1 bt671.1 bt671.2 bt677.1 bt677.2.1 bt677.2.2 bt684.1 bt684.2.1 bt693.1 bt699.1 bt707.1 true) else((laws_pSameHoles.f k bt695.1 bt699.1).bind fun t713=>(if t713=true then(if(bt703.2 != bt707.2)=true then(laws_FnDifferences.j0 k l1 bt671.1 bt671.2 bt677.1 bt677.2.1 bt677.2.2 bt684.1 bt684.2.1 bt693.1 bt699.1 bt707.1 true) else((laws_sameInts.f k bt703.1 bt707.1).bind fun t714=>(if t714=true then(if(bt691.2 != bt677.2.2)=true then(laws_FnDifferences.j0 k l1 bt671.1 bt671.2 bt677.1 bt677.2.1 bt677.2.2 bt684.1 bt684.2.1 bt693.1 bt699.1 bt707.1 true) else(if(bt695.2 != bt677.2.2)=true then(laws_FnDifferences.j0 k l1 bt671.1 bt671.2 bt677.1 bt677.2.1 bt677.2.2 bt684.1 bt684.2.1 bt693.1 bt699.1 bt707.1 true) else(laws_FnDifferences.j0 k l1 bt671.1 bt671.2 bt677.1 bt677.2.1 bt677.2.2 bt684.1 bt684.2.1 bt693.1 bt699.1 bt707.1 (bt703.2 != bt677.2.2)))) else(laws_FnDifferences.j0 k l1 bt671.1 bt671.2 bt677.1 bt677.2.1 bt677.2.2 bt684.1 bt684.2.1 bt693.1 bt699.1 bt707.1 true)))) else(laws_FnDifferences.j0 k l1 bt671.1 bt671.2 bt677.1 bt677.2.1 bt677.2.2 bt684.1 bt684.2.1 bt693.1 bt699.1 bt707.1 true)))) else(laws_FnDifferences.j0 k l1 bt671.1 bt671.2 bt677.1 bt677.2.1 bt677.2.2 bt684.1 bt684.2.1 bt693.1 bt699.1 bt707.1 true))) else(laws_FnDifferences.j0 k l1 bt671.1 bt671.2 bt677.1 bt677.2.1 bt677.2.2 bt684.1 bt684.2.1 bt693.1 bt699.1 bt707.1 true))) else(laws_FnDifferences.j0 k l1 bt671.1 bt671.2 bt677.1 bt677.2.1 bt677.2.2 bt684.1 bt684.2.1 bt693.1 bt699.1 bt707.1 true)))))))))))))=some r:=by rw[if_neg (show ¬(false=true) by decide)]at H;exact H
  obtain⟨⟨t671,t672⟩,A5,H⟩:=bo_ H
  try dsimp only at H
  obtain⟨⟨t677,t678,t679⟩,A6,H⟩:=bo_ H
  try dsimp only at H
  obtain⟨⟨t684,t685,t686⟩,A7,H⟩:=bo_ H
  try dsimp only at H
  obtain⟨⟨t691,t692⟩,A8,H⟩:=bo_ H
  try dsimp only at H
  obtain⟨⟨t693,t694⟩,A9,H⟩:=bo_ H
  try dsimp only at H
  obtain⟨⟨t695,t696⟩,A10,H⟩:=bo_ H
  try dsimp only at H
  obtain⟨⟨t699,t700⟩,A11,H⟩:=bo_ H
  try dsimp only at H
  obtain⟨⟨t703,t704⟩,A12,H⟩:=bo_ H
  try dsimp only at H
  obtain⟨⟨t707,t708⟩,A13,H⟩:=bo_ H
  try dsimp only at H
  have HC14:=am_ H
  clear H
  go_enter Tryz.func3,Tryz.ntmps3
  go_upto_region 12 with (first|((with_reducible refine gate_callee (f:=5) rfl ?_);refine goesL_ (some 54) rfl rfl Tryz.func5 (by kernel_rfl) rfl #[.slice A0 l0.length c0, .slice A1 l1.length c1] rfl gd_ ?_;(with_reducible refine(laws_big.calls _ _ l0 _ _ l1 false _ ?side1 ?side2 ?side3 ?side4 A3.out).mono ?_);(case side1=>exact(a15_ HR0.out));(case side2=>exact HC0.out);(case side3=>exact(a15_ HR1.out));(case side4=>exact HC1.out);rintro e w' ⟨rfl,⟨nd,rfl⟩⟩;refine⟨_,rfl,?_⟩)|((with_reducible refine gate_callee (f:=6) rfl ?_);refine goesL_ (some 57) rfl rfl Tryz.func6 (by kernel_rfl) rfl #[.slice A0 l0.length c0] rfl gd_ ?_;(with_reducible refine(spec_DrawDifferenceOf.calls k _ _ l0 t671 t672 _ ?side1 ?side2 A5.out).mono ?_);(case side1=>exact(a15_ HR0.out));(case side2=>exact HC0.out);rintro e w15 ⟨v673,v675,rfl,ho0,ho1,hb⟩;refine⟨_,rfl,?_⟩;have HO674:=am_ (Kd.R_lower (Kd.R_mono (ok':=fun _=>True) ho0 (fun _ _=>trivial)) (below_size (a1_)));have HO676:=am_ (Kd.R_lower (Kd.R_mono (ok':=fun _=>True) ho1 (fun _ _=>trivial)) (below_size (a1_)));replace HB:=am_ (below_step (a1_) hb);(try clear hb);(try clear hb2);(try clear hk);(try clear hi);(try clear ho0);(try clear ho1);obtain⟨Ao16,co16,eo16⟩:=Kd.R_slice HO674.out;subst eo16;obtain⟨Ao17,co17,eo17⟩:=Kd.R_slice HO676.out;subst eo17)|((with_reducible refine gate_callee (f:=7) rfl ?_);refine goesL_ (some 63) rfl rfl Tryz.func7 (by kernel_rfl) rfl #[.slice Ao16 t671.length co16, .slice Ao17 t672.length co17] rfl gd_ ?_;(with_reducible refine(impl_DifferenceOf.calls k _ _ t671 _ _ t672 t677 t678 t679 _ ?side1 ?side2 ?side3 ?side4 A6.out).mono ?_);(case side1=>exact(a8_ HO674.out));(case side2=>exact(Kd.R_reads' HO674.out).2.1);(case side3=>exact(a8_ HO676.out));(case side4=>exact(Kd.R_reads' HO676.out).2.1);rintro e w18 ⟨v680,v682,rfl,ho0,ho1,hb⟩;refine⟨_,rfl,?_⟩;replace HO674:=am_ (Kd.R_below ((a0_ HO674.out)) hb);replace HO676:=am_ (Kd.R_below ((a0_ HO676.out)) hb);have HO681:=am_ (Kd.R_lower (Kd.R_mono (ok':=fun _=>True) ho0 (fun _ _=>trivial)) (below_size (a1_)));have HO683:=am_ (Kd.R_lower (Kd.R_mono (ok':=fun _=>True) ho1 (fun _ _=>trivial)) (below_size (a1_)));replace HB:=am_ (below_step (a1_) hb);(try clear hb);(try clear hb2);(try clear hk);(try clear hi);(try clear ho0);(try clear ho1))|((with_reducible refine gate_callee (f:=8) rfl ?_);refine goesL_ (some 70) rfl rfl Tryz.func8 (by kernel_rfl) rfl #[.slice Ao16 t671.length co16, .slice Ao17 t672.length co17] rfl gd_ ?_;(with_reducible refine(spec_DifferenceOf.calls k _ _ t671 _ _ t672 t684 t685 t686 _ ?side1 ?side2 ?side3 ?side4 A7.out).mono ?_);(case side1=>exact(a8_ HO674.out));(case side2=>exact(Kd.R_reads' HO674.out).2.1);(case side3=>exact(a8_ HO676.out));(case side4=>exact(Kd.R_reads' HO676.out).2.1);rintro e w19 ⟨v687,v689,rfl,ho0,ho1,hb⟩;refine⟨_,rfl,?_⟩;replace HO674:=am_ (Kd.R_below ((a0_ HO674.out)) hb);replace HO676:=am_ (Kd.R_below ((a0_ HO676.out)) hb);replace HO681:=am_ (Kd.R_below ((a0_ HO681.out)) hb);replace HO683:=am_ (Kd.R_below ((a0_ HO683.out)) hb);have HO688:=am_ (Kd.R_lower (Kd.R_mono (ok':=fun _=>True) ho0 (fun _ _=>trivial)) (below_size (a1_)));have HO690:=am_ (Kd.R_lower (Kd.R_mono (ok':=fun _=>True) ho1 (fun _ _=>trivial)) (below_size (a1_)));replace HB:=am_ (below_step (a1_) hb);(try clear hb);(try clear hb2);(try clear hk);(try clear hi);(try clear ho0);(try clear ho1))|((with_reducible refine gate_callee (f:=9) rfl ?_);refine goesL_ (some 77) rfl rfl Tryz.func9 (by kernel_rfl) rfl #[.slice Ao16 t671.length co16, .slice Ao17 t672.length co17] rfl gd_ ?_;(with_reducible refine(impl_DistanceOf.calls k _ _ t671 _ _ t672 t691 t692 _ ?side1 ?side2 ?side3 ?side4 A8.out).mono ?_);(case side1=>exact(a8_ HO674.out));(case side2=>exact(Kd.R_reads' HO674.out).2.1);(case side3=>exact(a8_ HO676.out));(case side4=>exact(Kd.R_reads' HO676.out).2.1);rintro e w20 ⟨rfl,hb⟩;refine⟨_,rfl,?_⟩;replace HO674:=am_ (Kd.R_below ((a0_ HO674.out)) hb);replace HO676:=am_ (Kd.R_below ((a0_ HO676.out)) hb);replace HO681:=am_ (Kd.R_below ((a0_ HO681.out)) hb);replace HO683:=am_ (Kd.R_below ((a0_ HO683.out)) hb);replace HO688:=am_ (Kd.R_below ((a0_ HO688.out)) hb);replace HO690:=am_ (Kd.R_below ((a0_ HO690.out)) hb);replace HB:=am_ (below_step (a1_) hb);(try clear hb);(try clear hb2);(try clear hk);(try clear hi))|((with_reducible refine gate_callee (f:=10) rfl ?_);refine goesL_ (some 83) rfl rfl Tryz.func10 (by kernel_rfl) rfl #[.slice Ao16 t671.length co16, .slice Ao17 t672.length co17] rfl gd_ ?_;(with_reducible refine(spec_DistanceOf.calls k _ _ t671 _ _ t672 t693 t694 _ ?side1 ?side2 ?side3 ?side4 A9.out).mono ?_);(case side1=>exact(a8_ HO674.out));(case side2=>exact(Kd.R_reads' HO674.out).2.1);(case side3=>exact(a8_ HO676.out));(case side4=>exact(Kd.R_reads' HO676.out).2.1);rintro e w21 ⟨rfl,hb⟩;refine⟨_,rfl,?_⟩;replace HO674:=am_ (Kd.R_below ((a0_ HO674.out)) hb);replace HO676:=am_ (Kd.R_below ((a0_ HO676.out)) hb);replace HO681:=am_ (Kd.R_below ((a0_ HO681.out)) hb);replace HO683:=am_ (Kd.R_below ((a0_ HO683.out)) hb);replace HO688:=am_ (Kd.R_below ((a0_ HO688.out)) hb);replace HO690:=am_ (Kd.R_below ((a0_ HO690.out)) hb);replace HB:=am_ (below_step (a1_) hb);(try clear hb);(try clear hb2);(try clear hk);(try clear hi))|((with_reducible refine gate_callee (f:=11) rfl ?_);refine goesL_ (some 89) rfl rfl Tryz.func11 (by kernel_rfl) rfl #[.slice Ao16 t671.length co16, .slice Ao17 t672.length co17] rfl gd_ ?_;(with_reducible refine(impl_SharedHoles.calls k _ _ t671 _ _ t672 t695 t696 _ ?side1 ?side2 ?side3 ?side4 A10.out).mono ?_);(case side1=>exact(a8_ HO674.out));(case side2=>exact(Kd.R_reads' HO674.out).2.1);(case side3=>exact(a8_ HO676.out));(case side4=>exact(Kd.R_reads' HO676.out).2.1);rintro e w22 ⟨v697,rfl,ho0,hb⟩;refine⟨_,rfl,?_⟩;replace HO674:=am_ (Kd.R_below ((a0_ HO674.out)) hb);replace HO676:=am_ (Kd.R_below ((a0_ HO676.out)) hb);replace HO681:=am_ (Kd.R_below ((a0_ HO681.out)) hb);replace HO683:=am_ (Kd.R_below ((a0_ HO683.out)) hb);replace HO688:=am_ (Kd.R_below ((a0_ HO688.out)) hb);replace HO690:=am_ (Kd.R_below ((a0_ HO690.out)) hb);have HO698:=am_ (Kd.R_lower ho0 (below_size (a1_)));replace HB:=am_ (below_step (a1_) hb);(try clear hb);(try clear hb2);(try clear hk);(try clear hi);(try clear ho0))|((with_reducible refine gate_callee (f:=12) rfl ?_);refine goesL_ (some 95) rfl rfl Tryz.func12 (by kernel_rfl) rfl #[.slice Ao16 t671.length co16, .slice Ao17 t672.length co17] rfl gd_ ?_;(with_reducible refine(spec_SharedHoles.calls k _ _ t671 _ _ t672 t699 t700 _ ?side1 ?side2 ?side3 ?side4 A11.out).mono ?_);(case side1=>exact(a8_ HO674.out));(case side2=>exact(Kd.R_reads' HO674.out).2.1);(case side3=>exact(a8_ HO676.out));(case side4=>exact(Kd.R_reads' HO676.out).2.1);rintro e w23 ⟨v701,rfl,ho0,hb⟩;refine⟨_,rfl,?_⟩;replace HO674:=am_ (Kd.R_below ((a0_ HO674.out)) hb);replace HO676:=am_ (Kd.R_below ((a0_ HO676.out)) hb);replace HO681:=am_ (Kd.R_below ((a0_ HO681.out)) hb);replace HO683:=am_ (Kd.R_below ((a0_ HO683.out)) hb);replace HO688:=am_ (Kd.R_below ((a0_ HO688.out)) hb);replace HO690:=am_ (Kd.R_below ((a0_ HO690.out)) hb);replace HO698:=am_ (Kd.R_below ((a0_ HO698.out)) hb);have HO702:=am_ (Kd.R_lower ho0 (below_size (a1_)));replace HB:=am_ (below_step (a1_) hb);(try clear hb);(try clear hb2);(try clear hk);(try clear hi);(try clear ho0))|((with_reducible refine gate_callee (f:=13) rfl ?_);refine goesL_ (some 101) rfl rfl Tryz.func13 (by kernel_rfl) rfl #[.slice Ao16 t671.length co16, .slice Ao17 t672.length co17] rfl gd_ ?_;(with_reducible refine(impl_ChangedTracks.calls k _ _ t671 _ _ t672 t703 t704 _ ?side1 ?side2 ?side3 ?side4 A12.out).mono ?_);(case side1=>exact(a8_ HO674.out));(case side2=>exact(Kd.R_reads' HO674.out).2.1);(case side3=>exact(a8_ HO676.out));(case side4=>exact(Kd.R_reads' HO676.out).2.1);rintro e w24 ⟨v705,rfl,ho0,hb⟩;refine⟨_,rfl,?_⟩;replace HO674:=am_ (Kd.R_below ((a0_ HO674.out)) hb);replace HO676:=am_ (Kd.R_below ((a0_ HO676.out)) hb);replace HO681:=am_ (Kd.R_below ((a0_ HO681.out)) hb);replace HO683:=am_ (Kd.R_below ((a0_ HO683.out)) hb);replace HO688:=am_ (Kd.R_below ((a0_ HO688.out)) hb);replace HO690:=am_ (Kd.R_below ((a0_ HO690.out)) hb);replace HO698:=am_ (Kd.R_below ((a0_ HO698.out)) hb);replace HO702:=am_ (Kd.R_below ((a0_ HO702.out)) hb);have HO706:=am_ (Kd.R_lower ho0 (below_size (a1_)));replace HB:=am_ (below_step (a1_) hb);(try clear hb);(try clear hb2);(try clear hk);(try clear hi);(try clear ho0))|((with_reducible refine gate_callee (f:=14) rfl ?_);refine goesL_ (some 107) rfl rfl Tryz.func14 (by kernel_rfl) rfl #[.slice Ao16 t671.length co16, .slice Ao17 t672.length co17] rfl gd_ ?_;(with_reducible refine(spec_ChangedTracks.calls k _ _ t671 _ _ t672 t707 t708 _ ?side1 ?side2 ?side3 ?side4 A13.out).mono ?_);(case side1=>exact(a8_ HO674.out));(case side2=>exact(Kd.R_reads' HO674.out).2.1);(case side3=>exact(a8_ HO676.out));(case side4=>exact(Kd.R_reads' HO676.out).2.1);rintro e w25 ⟨v709,rfl,ho0,hb⟩;refine⟨_,rfl,?_⟩;replace HO674:=am_ (Kd.R_below ((a0_ HO674.out)) hb);replace HO676:=am_ (Kd.R_below ((a0_ HO676.out)) hb);replace HO681:=am_ (Kd.R_below ((a0_ HO681.out)) hb);replace HO683:=am_ (Kd.R_below ((a0_ HO683.out)) hb);replace HO688:=am_ (Kd.R_below ((a0_ HO688.out)) hb);replace HO690:=am_ (Kd.R_below ((a0_ HO690.out)) hb);replace HO698:=am_ (Kd.R_below ((a0_ HO698.out)) hb);replace HO702:=am_ (Kd.R_below ((a0_ HO702.out)) hb);replace HO706:=am_ (Kd.R_below ((a0_ HO706.out)) hb);have HO710:=am_ (Kd.R_lower ho0 (below_size (a1_)));replace HB:=am_ (below_step (a1_) hb);(try clear hb);(try clear hb2);(try clear hk);(try clear hi);(try clear ho0)))
  (try simp only[Act.put,List.setIfInBounds_toArray,List.set_cons_zero,List.set_cons_succ])
  go_cut [171] (fun v171 wc=>∃(kq:Nat) (x171_13:Bool),v171 = .bool x171_13∧Aside0 (laws_FnDifferences.j0 kq l1 t671 t672 t677 t678 t679 t684 t685 t693 t699 t707 x171_13=some r)∧Aside0 (kq≤k)∧Aside0 (Kd.R k40 40 wc w.heap.size (fun _=>True) (.slice Ao16 t671.length co16) t671)∧Aside0 (Kd.R k40 40 wc w.heap.size (fun _=>True) (.slice Ao17 t672.length co17) t672)∧Aside0 (Kd.R k40 40 wc w.heap.size (fun _=>True) v680 t677)∧Aside0 (Kd.R k40 40 wc w.heap.size (fun _=>True) v682 t678)∧Aside0 (Kd.R k40 40 wc w.heap.size (fun _=>True) v687 t684)∧Aside0 (Kd.R k40 40 wc w.heap.size (fun _=>True) v689 t685)∧Aside0 (Kd.R k40 40 wc w.heap.size (fun _=>True) v701 t699)∧Aside0 (Kd.R (Kd.int .i64) 3 wc w.heap.size (fun _=>True) v709 t707)∧Aside0 (Below w.heap.size w wc))
  case first=>
   as_aux_lemma=>
    have H:=HC14.out
    clear HC14
    by_cases c26:(t679 != t686)=true
    ·rw[if_pos c26]at H
     have c26b0:(t679 != t686)=true:=c26
     (try(have c26b1:decide (t679=t686)=false:=by simpa using c26))
     (try(have c26b2:(t679 == t686)=false:=by simpa using c26))
     (try(have c26b3:¬(t679=t686):=by simpa using c26))
     clear c26
     (first|rw[c26b0]|(simp only[i64_w,i32_w];rw[c26b0]) | skip)
     have H':=am_ H
     clear H
     go_wp2
     all_goals
      go_meet
      case rel=>exact⟨_,(true),(by first | rfl|(simp;done)|(simp[*];done)),H',⟨by first | omega|exact Nat.le_refl _⟩,⟨(a0_ HO674.out)⟩,⟨(a0_ HO676.out)⟩,⟨(a0_ HO681.out)⟩,⟨(a0_ HO683.out)⟩,⟨(a0_ HO688.out)⟩,⟨(a0_ HO690.out)⟩,⟨(a0_ HO702.out)⟩,⟨(a0_ HO710.out)⟩,⟨a1_⟩⟩
    ·rw[if_neg c26]at H
     have c26b0:(t679 != t686)=false:=by simpa using c26
     (try(have c26b1:decide (t679=t686)=true:=by simpa using c26))
     (try(have c26b2:(t679 == t686)=true:=by simpa using c26))
     clear c26
     (first|rw[c26b0]|(simp only[i64_w,i32_w];rw[c26b0]) | skip)
     obtain⟨t711,A27,H⟩:=bo_ H
     try dsimp only at H
     by_cases c28:t711=true
     ·subst c28
      replace H:((laws_pSameHoles.f k t678 t685).bind fun t712=>(if t712=true then(if(t692 != t694)=true then(laws_FnDifferences.j0 k l1 t671 t672 t677 t678 t679 t684 t685 t693 t699 t707 true) else(if t691=t693 then(if(t696 != t700)=true then(laws_FnDifferences.j0 k l1 t671 t672 t677 t678 t679 t684 t685 t693 t699 t707 true) else((laws_pSameHoles.f k t695 t699).bind fun t713=>(if t713=true then(if(t704 != t708)=true then(laws_FnDifferences.j0 k l1 t671 t672 t677 t678 t679 t684 t685 t693 t699 t707 true) else((laws_sameInts.f k t703 t707).bind fun t714=>(if t714=true then(if(t692 != t679)=true then(laws_FnDifferences.j0 k l1 t671 t672 t677 t678 t679 t684 t685 t693 t699 t707 true) else(if(t696 != t679)=true then(laws_FnDifferences.j0 k l1 t671 t672 t677 t678 t679 t684 t685 t693 t699 t707 true) else(laws_FnDifferences.j0 k l1 t671 t672 t677 t678 t679 t684 t685 t693 t699 t707 (t704 != t679)))) else(laws_FnDifferences.j0 k l1 t671 t672 t677 t678 t679 t684 t685 t693 t699 t707 true)))) else(laws_FnDifferences.j0 k l1 t671 t672 t677 t678 t679 t684 t685 t693 t699 t707 true)))) else(laws_FnDifferences.j0 k l1 t671 t672 t677 t678 t679 t684 t685 t693 t699 t707 true))) else(laws_FnDifferences.j0 k l1 t671 t672 t677 t678 t679 t684 t685 t693 t699 t707 true)))=some r:=by rw[if_pos rfl]at H;exact H
      obtain⟨t712,A29,H⟩:=bo_ H
      try dsimp only at H
      by_cases c30:t712=true
      ·subst c30
       replace H:(if(t692 != t694)=true then(laws_FnDifferences.j0 k l1 t671 t672 t677 t678 t679 t684 t685 t693 t699 t707 true) else(if t691=t693 then(if(t696 != t700)=true then(laws_FnDifferences.j0 k l1 t671 t672 t677 t678 t679 t684 t685 t693 t699 t707 true) else((laws_pSameHoles.f k t695 t699).bind fun t713=>(if t713=true then(if(t704 != t708)=true then(laws_FnDifferences.j0 k l1 t671 t672 t677 t678 t679 t684 t685 t693 t699 t707 true) else((laws_sameInts.f k t703 t707).bind fun t714=>(if t714=true then(if(t692 != t679)=true then(laws_FnDifferences.j0 k l1 t671 t672 t677 t678 t679 t684 t685 t693 t699 t707 true) else(if(t696 != t679)=true then(laws_FnDifferences.j0 k l1 t671 t672 t677 t678 t679 t684 t685 t693 t699 t707 true) else(laws_FnDifferences.j0 k l1 t671 t672 t677 t678 t679 t684 t685 t693 t699 t707 (t704 != t679)))) else(laws_FnDifferences.j0 k l1 t671 t672 t677 t678 t679 t684 t685 t693 t699 t707 true)))) else(laws_FnDifferences.j0 k l1 t671 t672 t677 t678 t679 t684 t685 t693 t699 t707 true)))) else(laws_FnDifferences.j0 k l1 t671 t672 t677 t678 t679 t684 t685 t693 t699 t707 true)))=some r:=by rw[if_pos rfl]at H;exact H
       by_cases c31:(t692 != t694)=true
       ·rw[if_pos c31]at H
        have c31b0:(t692 != t694)=true:=c31
        (try(have c31b1:decide (t692=t694)=false:=by simpa using c31))
        (try(have c31b2:(t692 == t694)=false:=by simpa using c31))
        (try(have c31b3:¬(t692=t694):=by simpa using c31))
        clear c31
        exact(laws_FnDifferences.j0_true (H.trans (congrArg some HR_.out))).elim
       ·rw[if_neg c31]at H
        have c31b0:(t692 != t694)=false:=by simpa using c31
        (try(have c31b1:decide (t692=t694)=true:=by simpa using c31))
        (try(have c31b2:(t692 == t694)=true:=by simpa using c31))
        clear c31
        by_cases c36:t691=t693
        ·rw[if_pos c36]at H
         have c36b0:(t691 == t693)=true:=beq_iff_eq.mpr c36
         have c36b1:(t691 != t693)=false:=bne_eq_false_iff_eq.mpr c36
         clear c36
         by_cases c37:(t696 != t700)=true
         ·rw[if_pos c37]at H
          have c37b0:(t696 != t700)=true:=c37
          (try(have c37b1:decide (t696=t700)=false:=by simpa using c37))
          (try(have c37b2:(t696 == t700)=false:=by simpa using c37))
          (try(have c37b3:¬(t696=t700):=by simpa using c37))
          clear c37
          exact(laws_FnDifferences.j0_true (H.trans (congrArg some HR_.out))).elim
         ·rw[if_neg c37]at H
          have c37b0:(t696 != t700)=false:=by simpa using c37
          (try(have c37b1:decide (t696=t700)=true:=by simpa using c37))
          (try(have c37b2:(t696 == t700)=true:=by simpa using c37))
          clear c37
          obtain⟨t713,A42,H⟩:=bo_ H
          try dsimp only at H
          by_cases c43:t713=true
          ·subst c43
           replace H:(if(t704 != t708)=true then(laws_FnDifferences.j0 k l1 t671 t672 t677 t678 t679 t684 t685 t693 t699 t707 true) else((laws_sameInts.f k t703 t707).bind fun t714=>(if t714=true then(if(t692 != t679)=true then(laws_FnDifferences.j0 k l1 t671 t672 t677 t678 t679 t684 t685 t693 t699 t707 true) else(if(t696 != t679)=true then(laws_FnDifferences.j0 k l1 t671 t672 t677 t678 t679 t684 t685 t693 t699 t707 true) else(laws_FnDifferences.j0 k l1 t671 t672 t677 t678 t679 t684 t685 t693 t699 t707 (t704 != t679)))) else(laws_FnDifferences.j0 k l1 t671 t672 t677 t678 t679 t684 t685 t693 t699 t707 true))))=some r:=by rw[if_pos rfl]at H;exact H
           by_cases c44:(t704 != t708)=true
           ·rw[if_pos c44]at H
            have c44b0:(t704 != t708)=true:=c44
            (try(have c44b1:decide (t704=t708)=false:=by simpa using c44))
            (try(have c44b2:(t704 == t708)=false:=by simpa using c44))
            (try(have c44b3:¬(t704=t708):=by simpa using c44))
            clear c44
            exact(laws_FnDifferences.j0_true (H.trans (congrArg some HR_.out))).elim
           ·rw[if_neg c44]at H
            have c44b0:(t704 != t708)=false:=by simpa using c44
            (try(have c44b1:decide (t704=t708)=true:=by simpa using c44))
            (try(have c44b2:(t704 == t708)=true:=by simpa using c44))
            clear c44
            obtain⟨t714,A51,H⟩:=bo_ H
            try dsimp only at H
            by_cases c52:t714=true
            ·subst c52
             replace H:(if(t692 != t679)=true then(laws_FnDifferences.j0 k l1 t671 t672 t677 t678 t679 t684 t685 t693 t699 t707 true) else(if(t696 != t679)=true then(laws_FnDifferences.j0 k l1 t671 t672 t677 t678 t679 t684 t685 t693 t699 t707 true) else(laws_FnDifferences.j0 k l1 t671 t672 t677 t678 t679 t684 t685 t693 t699 t707 (t704 != t679))))=some r:=by rw[if_pos rfl]at H;exact H
             by_cases c53:(t692 != t679)=true
             ·rw[if_pos c53]at H
              have c53b0:(t692 != t679)=true:=c53
              (try(have c53b1:decide (t692=t679)=false:=by simpa using c53))
              (try(have c53b2:(t692 == t679)=false:=by simpa using c53))
              (try(have c53b3:¬(t692=t679):=by simpa using c53))
              clear c53
              exact(laws_FnDifferences.j0_true (H.trans (congrArg some HR_.out))).elim
             ·rw[if_neg c53]at H
              have c53b0:(t692 != t679)=false:=by simpa using c53
              (try(have c53b1:decide (t692=t679)=true:=by simpa using c53))
              (try(have c53b2:(t692 == t679)=true:=by simpa using c53))
              clear c53
              by_cases c62:(t696 != t679)=true
              ·rw[if_pos c62]at H
               have c62b0:(t696 != t679)=true:=c62
               (try(have c62b1:decide (t696=t679)=false:=by simpa using c62))
               (try(have c62b2:(t696 == t679)=false:=by simpa using c62))
               (try(have c62b3:¬(t696=t679):=by simpa using c62))
               clear c62
               exact(laws_FnDifferences.j0_true (H.trans (congrArg some HR_.out))).elim
              ·rw[if_neg c62]at H
               have c62b0:(t696 != t679)=false:=by simpa using c62
               (try(have c62b1:decide (t696=t679)=true:=by simpa using c62))
               (try(have c62b2:(t696 == t679)=true:=by simpa using c62))
               clear c62
               have H':=am_ H
               clear H
               obtain⟨Ao71,co71,eo71⟩:=Kd.R_slice HO681.out
               subst eo71
               obtain⟨Ao72,co72,eo72⟩:=Kd.R_slice HO688.out
               subst eo72
               go_wp2_with (first|(go_at_call 15;(with_reducible refine(laws_pSameHoles.calls k _ _ t677 _ _ t684 true _ ?side1 ?side2 ?side3 ?side4 A27.out).mono ?_);(case side1=>exact(a8_ HO681.out));(case side2=>exact(Kd.R_reads' HO681.out).2.1);(case side3=>exact(a8_ HO688.out));(case side4=>exact(Kd.R_reads' HO688.out).2.1);rintro e w' ⟨rfl,⟨nd,rfl⟩⟩;obtain⟨Ao73,co73,eo73⟩:=Kd.R_slice HO683.out;subst eo73;obtain⟨Ao74,co74,eo74⟩:=Kd.R_slice HO690.out;subst eo74)|(go_at_call 15;(with_reducible refine(laws_pSameHoles.calls k _ _ t678 _ _ t685 true _ ?side1 ?side2 ?side3 ?side4 A29.out).mono ?_);(case side1=>exact(a8_ HO683.out));(case side2=>exact(Kd.R_reads' HO683.out).2.1);(case side3=>exact(a8_ HO690.out));(case side4=>exact(Kd.R_reads' HO690.out).2.1);rintro e w' ⟨rfl,⟨nd,rfl⟩⟩;obtain⟨Ao75,co75,eo75⟩:=Kd.R_slice HO698.out;subst eo75;obtain⟨Ao76,co76,eo76⟩:=Kd.R_slice HO702.out;subst eo76)|(go_at_call 15;(with_reducible refine(laws_pSameHoles.calls k _ _ t695 _ _ t699 true _ ?side1 ?side2 ?side3 ?side4 A42.out).mono ?_);(case side1=>exact(a8_ HO698.out));(case side2=>exact(Kd.R_reads' HO698.out).2.1);(case side3=>exact(a8_ HO702.out));(case side4=>exact(Kd.R_reads' HO702.out).2.1);rintro e w' ⟨rfl,⟨nd,rfl⟩⟩;obtain⟨Ao77,co77,eo77⟩:=Kd.R_slice HO706.out;subst eo77;obtain⟨Ao78,co78,eo78⟩:=Kd.R_slice HO710.out;subst eo78)|(go_at_call 16;(with_reducible refine(laws_sameInts.calls k _ _ t703 _ _ t707 true _ ?side1 ?side2 ?side3 ?side4 A51.out).mono ?_);(case side1=>exact(a8_ HO706.out));(case side2=>exact(Kd.R_reads' HO706.out).2.1);(case side3=>exact(a8_ HO710.out));(case side4=>exact(Kd.R_reads' HO710.out).2.1);rintro e w' ⟨rfl,⟨nd,rfl⟩⟩))
               all_goals
                go_meet
                case rel=>exact⟨_,((t704 != t679)),(by first | rfl|(simp;done)|(simp[*];done)),H',⟨by first | omega|exact Nat.le_refl _⟩,⟨(a0_ HO674.out)⟩,⟨(a0_ HO676.out)⟩,⟨(a0_ HO681.out)⟩,⟨(a0_ HO683.out)⟩,⟨(a0_ HO688.out)⟩,⟨(a0_ HO690.out)⟩,⟨(a0_ HO702.out)⟩,⟨(a0_ HO710.out)⟩,⟨a1_⟩⟩
            ·replace c52:=Bool.eq_false_iff.mpr c52
             subst c52
             replace H:(laws_FnDifferences.j0 k l1 t671 t672 t677 t678 t679 t684 t685 t693 t699 t707 true)=some r:=by rw[if_neg (show ¬(false=true) by decide)]at H;exact H
             exact(laws_FnDifferences.j0_true (H.trans (congrArg some HR_.out))).elim
          ·replace c43:=Bool.eq_false_iff.mpr c43
           subst c43
           replace H:(laws_FnDifferences.j0 k l1 t671 t672 t677 t678 t679 t684 t685 t693 t699 t707 true)=some r:=by rw[if_neg (show ¬(false=true) by decide)]at H;exact H
           exact(laws_FnDifferences.j0_true (H.trans (congrArg some HR_.out))).elim
        ·rw[if_neg c36]at H
         have c36b0:(t691 == t693)=false:=beq_eq_false_iff_ne.mpr c36
         have c36b1:(t691 != t693)=true:=bne_iff_ne.mpr c36
         exact(laws_FnDifferences.j0_true (H.trans (congrArg some HR_.out))).elim
      ·replace c30:=Bool.eq_false_iff.mpr c30
       subst c30
       replace H:(laws_FnDifferences.j0 k l1 t671 t672 t677 t678 t679 t684 t685 t693 t699 t707 true)=some r:=by rw[if_neg (show ¬(false=true) by decide)]at H;exact H
       exact(laws_FnDifferences.j0_true (H.trans (congrArg some HR_.out))).elim
     ·replace c28:=Bool.eq_false_iff.mpr c28
      subst c28
      replace H:(laws_FnDifferences.j0 k l1 t671 t672 t677 t678 t679 t684 t685 t693 t699 t707 true)=some r:=by rw[if_neg (show ¬(false=true) by decide)]at H;exact H
      exact(laws_FnDifferences.j0_true (H.trans (congrArg some HR_.out))).elim
  case rest=>
   as_aux_lemma=>
    clear HC14
    try clear c1
    try clear c2
    try clear p2
    try clear c3
    try clear c4
    try clear c5
    try clear c6
    try clear c7
    try clear c8
    try clear c9
    try clear c10
    try clear c11
    try clear c12
    try clear c13
    try clear c14
    try clear c26
    try clear c26b0
    try clear c26b1
    try clear c26b2
    try clear c28
    try clear c30
    try clear c31
    try clear c31b0
    try clear c31b1
    try clear c31b2
    try clear c36
    try clear c36b0
    try clear c36b1
    try clear c37
    try clear c37b0
    try clear c37b1
    try clear c37b2
    try clear c43
    try clear c44
    try clear c44b0
    try clear c44b1
    try clear c44b2
    try clear c52
    try clear c53
    try clear c53b0
    try clear c53b1
    try clear c53b2
    try clear c62
    try clear c62b0
    try clear c62b1
    try clear c62b2
    obtain⟨kq,x171_13,rfl,HA,HJ13,HO_5,HO_6,HO_7,HO_8,HO_10,HO_11,HO_19,HO_23,HB⟩:=hcut
    cases kq with
    | zero=>exact absurd HA.out (by simp[laws_FnDifferences.j0])
    | succ kj13=>
     have H:=HA.out
     clear HA
     simp only[laws_FnDifferences.j0]at H
     by_cases c103:x171_13=true
     ·subst c103
      replace H:(some false)=some r:=by rw[if_pos rfl]at H;exact H
      exact absurd ((Option.some.inj H).trans HR_.out) (by decide)
     ·replace c103:=Bool.eq_false_iff.mpr c103
      subst c103
      replace H:(if t679=true then((impl_ApplyDifference.f kj13 t671 t677 t678).bind fun bt715=>((impl_ApplyDifference.f kj13 t672 t678 t677).bind fun bt719=>((impl_DistanceOf.f kj13 t672 t671).bind fun bt723=>(if bt715.2=true then((laws_pSameHoles.f kj13 bt715.1 t672).bind fun t725=>(if t725=true then(if bt719.2=true then((laws_pSameHoles.f kj13 bt719.1 t671).bind fun t726=>(if t726=true then(if bt723.2=true then(if bt723.1=t693 then(if(wrap64 ((t684.length:Int)+(t685.length:Int)))=t693 then(if(wrap64 ((t699.length:Int)+(t684.length:Int)))=(t671.length:Int) then(laws_FnDifferences.j1 kj13 l1 t684 t685 t707 ((wrap64 ((t699.length:Int)+(t685.length:Int))) != (t672.length:Int))) else(laws_FnDifferences.j1 kj13 l1 t684 t685 t707 true)) else(laws_FnDifferences.j1 kj13 l1 t684 t685 t707 true)) else(laws_FnDifferences.j1 kj13 l1 t684 t685 t707 true)) else(laws_FnDifferences.j1 kj13 l1 t684 t685 t707 true)) else(laws_FnDifferences.j1 kj13 l1 t684 t685 t707 true))) else(laws_FnDifferences.j1 kj13 l1 t684 t685 t707 true)) else(laws_FnDifferences.j1 kj13 l1 t684 t685 t707 true))) else(laws_FnDifferences.j1 kj13 l1 t684 t685 t707 true))))) else(laws_FnDifferences.j3 kj13 l1))=some r:=by rw[if_neg (show ¬(false=true) by decide)]at H;exact H
      have HC104:=am_ H
      clear H
      go_upto_if 172 with (fail)
      go_cut [] (fun wc=>∃(kq:Nat),Aside0 (laws_FnDifferences.j3 kq l1=some r)∧Aside0 (kq≤kj13)∧Aside0 (Below w.heap.size w wc))
      case first=>
       as_aux_lemma=>
        have H:=HC104.out
        clear HC104
        by_cases c105:t679=true
        ·subst c105
         replace H:((impl_ApplyDifference.f kj13 t671 t677 t678).bind fun bt715=>((impl_ApplyDifference.f kj13 t672 t678 t677).bind fun bt719=>((impl_DistanceOf.f kj13 t672 t671).bind fun bt723=>(if bt715.2=true then((laws_pSameHoles.f kj13 bt715.1 t672).bind fun t725=>(if t725=true then(if bt719.2=true then((laws_pSameHoles.f kj13 bt719.1 t671).bind fun t726=>(if t726=true then(if bt723.2=true then(if bt723.1=t693 then(if(wrap64 ((t684.length:Int)+(t685.length:Int)))=t693 then(if(wrap64 ((t699.length:Int)+(t684.length:Int)))=(t671.length:Int) then(laws_FnDifferences.j1 kj13 l1 t684 t685 t707 ((wrap64 ((t699.length:Int)+(t685.length:Int))) != (t672.length:Int))) else(laws_FnDifferences.j1 kj13 l1 t684 t685 t707 true)) else(laws_FnDifferences.j1 kj13 l1 t684 t685 t707 true)) else(laws_FnDifferences.j1 kj13 l1 t684 t685 t707 true)) else(laws_FnDifferences.j1 kj13 l1 t684 t685 t707 true)) else(laws_FnDifferences.j1 kj13 l1 t684 t685 t707 true))) else(laws_FnDifferences.j1 kj13 l1 t684 t685 t707 true)) else(laws_FnDifferences.j1 kj13 l1 t684 t685 t707 true))) else(laws_FnDifferences.j1 kj13 l1 t684 t685 t707 true)))))=some r:=by rw[if_pos rfl]at H;exact H
         obtain⟨⟨t715,t716⟩,A106,H⟩:=bo_ H
         try dsimp only at H
         obtain⟨⟨t719,t720⟩,A107,H⟩:=bo_ H
         try dsimp only at H
         obtain⟨⟨t723,t724⟩,A108,H⟩:=bo_ H
         try dsimp only at H
         have HC109:=am_ H
         clear H
         obtain⟨Ao110,co110,eo110⟩:=Kd.R_slice HO_7.out
         subst eo110
         obtain⟨Ao111,co111,eo111⟩:=Kd.R_slice HO_8.out
         subst eo111
         go_upto_region 18 with (first|((with_reducible refine gate_callee (f:=17) rfl ?_);refine goesL_ (some 177) rfl rfl Tryz.func17 (by kernel_rfl) rfl #[.slice Ao16 t671.length co16, .slice Ao110 t677.length co110, .slice Ao111 t678.length co111] rfl gd_ ?_;(with_reducible refine(impl_ApplyDifference.calls kj13 _ _ t671 _ _ t677 _ _ t678 t715 t716 _ ?side1 ?side2 ?side3 ?side4 ?side5 ?side6 A106.out).mono ?_);(case side1=>exact(a8_ HO_5.out));(case side2=>exact(Kd.R_reads' HO_5.out).2.1);(case side3=>exact(a8_ HO_7.out));(case side4=>exact(Kd.R_reads' HO_7.out).2.1);(case side5=>exact(a8_ HO_8.out));(case side6=>exact(Kd.R_reads' HO_8.out).2.1);rintro e w112 ⟨v717,rfl,ho0,hb⟩;refine⟨_,rfl,?_⟩;replace HO_5:=am_ (Kd.R_below ((a0_ HO_5.out)) hb);replace HO_6:=am_ (Kd.R_below ((a0_ HO_6.out)) hb);replace HO_7:=am_ (Kd.R_below ((a0_ HO_7.out)) hb);replace HO_8:=am_ (Kd.R_below ((a0_ HO_8.out)) hb);replace HO_10:=am_ (Kd.R_below ((a0_ HO_10.out)) hb);replace HO_11:=am_ (Kd.R_below ((a0_ HO_11.out)) hb);replace HO_19:=am_ (Kd.R_below ((a0_ HO_19.out)) hb);replace HO_23:=am_ (Kd.R_below ((a0_ HO_23.out)) hb);have HO718:=am_ (Kd.R_lower ho0 (below_size (a1_)));replace HB:=am_ (below_step (a1_) hb);(try clear hb);(try clear hb2);(try clear hk);(try clear hi);(try clear ho0))|((with_reducible refine gate_callee (f:=17) rfl ?_);refine goesL_ (some 184) rfl rfl Tryz.func17 (by kernel_rfl) rfl #[.slice Ao17 t672.length co17, .slice Ao111 t678.length co111, .slice Ao110 t677.length co110] rfl gd_ ?_;(with_reducible refine(impl_ApplyDifference.calls kj13 _ _ t672 _ _ t678 _ _ t677 t719 t720 _ ?side1 ?side2 ?side3 ?side4 ?side5 ?side6 A107.out).mono ?_);(case side1=>exact(a8_ HO_6.out));(case side2=>exact(Kd.R_reads' HO_6.out).2.1);(case side3=>exact(a8_ HO_8.out));(case side4=>exact(Kd.R_reads' HO_8.out).2.1);(case side5=>exact(a8_ HO_7.out));(case side6=>exact(Kd.R_reads' HO_7.out).2.1);rintro e w113 ⟨v721,rfl,ho0,hb⟩;refine⟨_,rfl,?_⟩;replace HO_5:=am_ (Kd.R_below ((a0_ HO_5.out)) hb);replace HO_6:=am_ (Kd.R_below ((a0_ HO_6.out)) hb);replace HO_7:=am_ (Kd.R_below ((a0_ HO_7.out)) hb);replace HO_8:=am_ (Kd.R_below ((a0_ HO_8.out)) hb);replace HO_10:=am_ (Kd.R_below ((a0_ HO_10.out)) hb);replace HO_11:=am_ (Kd.R_below ((a0_ HO_11.out)) hb);replace HO_19:=am_ (Kd.R_below ((a0_ HO_19.out)) hb);replace HO_23:=am_ (Kd.R_below ((a0_ HO_23.out)) hb);replace HO718:=am_ (Kd.R_below ((a0_ HO718.out)) hb);have HO722:=am_ (Kd.R_lower ho0 (below_size (a1_)));replace HB:=am_ (below_step (a1_) hb);(try clear hb);(try clear hb2);(try clear hk);(try clear hi);(try clear ho0))|((with_reducible refine gate_callee (f:=9) rfl ?_);refine goesL_ (some 190) rfl rfl Tryz.func9 (by kernel_rfl) rfl #[.slice Ao17 t672.length co17, .slice Ao16 t671.length co16] rfl gd_ ?_;(with_reducible refine(impl_DistanceOf.calls kj13 _ _ t672 _ _ t671 t723 t724 _ ?side1 ?side2 ?side3 ?side4 A108.out).mono ?_);(case side1=>exact(a8_ HO_6.out));(case side2=>exact(Kd.R_reads' HO_6.out).2.1);(case side3=>exact(a8_ HO_5.out));(case side4=>exact(Kd.R_reads' HO_5.out).2.1);rintro e w114 ⟨rfl,hb⟩;refine⟨_,rfl,?_⟩;replace HO_5:=am_ (Kd.R_below ((a0_ HO_5.out)) hb);replace HO_6:=am_ (Kd.R_below ((a0_ HO_6.out)) hb);replace HO_7:=am_ (Kd.R_below ((a0_ HO_7.out)) hb);replace HO_8:=am_ (Kd.R_below ((a0_ HO_8.out)) hb);replace HO_10:=am_ (Kd.R_below ((a0_ HO_10.out)) hb);replace HO_11:=am_ (Kd.R_below ((a0_ HO_11.out)) hb);replace HO_19:=am_ (Kd.R_below ((a0_ HO_19.out)) hb);replace HO_23:=am_ (Kd.R_below ((a0_ HO_23.out)) hb);replace HO718:=am_ (Kd.R_below ((a0_ HO718.out)) hb);replace HO722:=am_ (Kd.R_below ((a0_ HO722.out)) hb);replace HB:=am_ (below_step (a1_) hb);(try clear hb);(try clear hb2);(try clear hk);(try clear hi)))
         (try simp only[Act.put,List.setIfInBounds_toArray,List.set_cons_zero,List.set_cons_succ])
         go_cut [248] (fun v248 wc=>∃(kq:Nat) (x248_108:Bool),v248 = .bool x248_108∧Aside0 (laws_FnDifferences.j1 kq l1 t684 t685 t707 x248_108=some r)∧Aside0 (kq≤kj13)∧Aside0 (Kd.R k40 40 wc w.heap.size (fun _=>True) v687 t684)∧Aside0 (Kd.R k40 40 wc w.heap.size (fun _=>True) v689 t685)∧Aside0 (Kd.R (Kd.int .i64) 3 wc w.heap.size (fun _=>True) v709 t707)∧Aside0 (Below w.heap.size w wc))
         case first=>
          as_aux_lemma=>
           have H:=HC109.out
           clear HC109
           by_cases c115:t716=true
           ·subst c115
            replace H:((laws_pSameHoles.f kj13 t715 t672).bind fun t725=>(if t725=true then(if t720=true then((laws_pSameHoles.f kj13 t719 t671).bind fun t726=>(if t726=true then(if t724=true then(if t723=t693 then(if(wrap64 ((t684.length:Int)+(t685.length:Int)))=t693 then(if(wrap64 ((t699.length:Int)+(t684.length:Int)))=(t671.length:Int) then(laws_FnDifferences.j1 kj13 l1 t684 t685 t707 ((wrap64 ((t699.length:Int)+(t685.length:Int))) != (t672.length:Int))) else(laws_FnDifferences.j1 kj13 l1 t684 t685 t707 true)) else(laws_FnDifferences.j1 kj13 l1 t684 t685 t707 true)) else(laws_FnDifferences.j1 kj13 l1 t684 t685 t707 true)) else(laws_FnDifferences.j1 kj13 l1 t684 t685 t707 true)) else(laws_FnDifferences.j1 kj13 l1 t684 t685 t707 true))) else(laws_FnDifferences.j1 kj13 l1 t684 t685 t707 true)) else(laws_FnDifferences.j1 kj13 l1 t684 t685 t707 true)))=some r:=by rw[if_pos rfl]at H;exact H
            obtain⟨t725,A116,H⟩:=bo_ H
            try dsimp only at H
            by_cases c117:t725=true
            ·subst c117
             replace H:(if t720=true then((laws_pSameHoles.f kj13 t719 t671).bind fun t726=>(if t726=true then(if t724=true then(if t723=t693 then(if(wrap64 ((t684.length:Int)+(t685.length:Int)))=t693 then(if(wrap64 ((t699.length:Int)+(t684.length:Int)))=(t671.length:Int) then(laws_FnDifferences.j1 kj13 l1 t684 t685 t707 ((wrap64 ((t699.length:Int)+(t685.length:Int))) != (t672.length:Int))) else(laws_FnDifferences.j1 kj13 l1 t684 t685 t707 true)) else(laws_FnDifferences.j1 kj13 l1 t684 t685 t707 true)) else(laws_FnDifferences.j1 kj13 l1 t684 t685 t707 true)) else(laws_FnDifferences.j1 kj13 l1 t684 t685 t707 true)) else(laws_FnDifferences.j1 kj13 l1 t684 t685 t707 true))) else(laws_FnDifferences.j1 kj13 l1 t684 t685 t707 true))=some r:=by rw[if_pos rfl]at H;exact H
             by_cases c118:t720=true
             ·subst c118
              replace H:((laws_pSameHoles.f kj13 t719 t671).bind fun t726=>(if t726=true then(if t724=true then(if t723=t693 then(if(wrap64 ((t684.length:Int)+(t685.length:Int)))=t693 then(if(wrap64 ((t699.length:Int)+(t684.length:Int)))=(t671.length:Int) then(laws_FnDifferences.j1 kj13 l1 t684 t685 t707 ((wrap64 ((t699.length:Int)+(t685.length:Int))) != (t672.length:Int))) else(laws_FnDifferences.j1 kj13 l1 t684 t685 t707 true)) else(laws_FnDifferences.j1 kj13 l1 t684 t685 t707 true)) else(laws_FnDifferences.j1 kj13 l1 t684 t685 t707 true)) else(laws_FnDifferences.j1 kj13 l1 t684 t685 t707 true)) else(laws_FnDifferences.j1 kj13 l1 t684 t685 t707 true)))=some r:=by rw[if_pos rfl]at H;exact H
              obtain⟨t726,A119,H⟩:=bo_ H
              try dsimp only at H
              by_cases c120:t726=true
              ·subst c120
               replace H:(if t724=true then(if t723=t693 then(if(wrap64 ((t684.length:Int)+(t685.length:Int)))=t693 then(if(wrap64 ((t699.length:Int)+(t684.length:Int)))=(t671.length:Int) then(laws_FnDifferences.j1 kj13 l1 t684 t685 t707 ((wrap64 ((t699.length:Int)+(t685.length:Int))) != (t672.length:Int))) else(laws_FnDifferences.j1 kj13 l1 t684 t685 t707 true)) else(laws_FnDifferences.j1 kj13 l1 t684 t685 t707 true)) else(laws_FnDifferences.j1 kj13 l1 t684 t685 t707 true)) else(laws_FnDifferences.j1 kj13 l1 t684 t685 t707 true))=some r:=by rw[if_pos rfl]at H;exact H
               by_cases c121:t724=true
               ·subst c121
                replace H:(if t723=t693 then(if(wrap64 ((t684.length:Int)+(t685.length:Int)))=t693 then(if(wrap64 ((t699.length:Int)+(t684.length:Int)))=(t671.length:Int) then(laws_FnDifferences.j1 kj13 l1 t684 t685 t707 ((wrap64 ((t699.length:Int)+(t685.length:Int))) != (t672.length:Int))) else(laws_FnDifferences.j1 kj13 l1 t684 t685 t707 true)) else(laws_FnDifferences.j1 kj13 l1 t684 t685 t707 true)) else(laws_FnDifferences.j1 kj13 l1 t684 t685 t707 true))=some r:=by rw[if_pos rfl]at H;exact H
                by_cases c122:t723=t693
                ·rw[if_pos c122]at H
                 have c122b0:(t723 == t693)=true:=beq_iff_eq.mpr c122
                 have c122b1:(t723 != t693)=false:=bne_eq_false_iff_eq.mpr c122
                 clear c122
                 (first|rw[c122b0]|(simp only[i64_w,i32_w];rw[c122b0]) | skip)
                 by_cases c123:(wrap64 ((t684.length:Int)+(t685.length:Int)))=t693
                 ·rw[if_pos c123]at H
                  have c123b0:((wrap64 ((t684.length:Int)+(t685.length:Int))) == t693)=true:=beq_iff_eq.mpr c123
                  have c123b1:((wrap64 ((t684.length:Int)+(t685.length:Int))) != t693)=false:=bne_eq_false_iff_eq.mpr c123
                  clear c123
                  by_cases c124:(wrap64 ((t699.length:Int)+(t684.length:Int)))=(t671.length:Int)
                  ·rw[if_pos c124]at H
                   have c124b0:((wrap64 ((t699.length:Int)+(t684.length:Int))) == (t671.length:Int))=true:=beq_iff_eq.mpr c124
                   have c124b1:((wrap64 ((t699.length:Int)+(t684.length:Int))) != (t671.length:Int))=false:=bne_eq_false_iff_eq.mpr c124
                   clear c124
                   have H':=am_ H
                   clear H
                   obtain⟨Ao125,co125,eo125⟩:=Kd.R_slice HO718.out
                   subst eo125
                   go_wp2_with (first|(go_at_call 15;(with_reducible refine(laws_pSameHoles.calls kj13 _ _ t715 _ _ t672 true _ ?side1 ?side2 ?side3 ?side4 A116.out).mono ?_);(case side1=>exact(a8_ HO718.out));(case side2=>exact(Kd.R_reads' HO718.out).2.1);(case side3=>exact(a8_ HO_6.out));(case side4=>exact(Kd.R_reads' HO_6.out).2.1);rintro e w' ⟨rfl,⟨nd,rfl⟩⟩;obtain⟨Ao126,co126,eo126⟩:=Kd.R_slice HO722.out;subst eo126)|(go_at_call 15;(with_reducible refine(laws_pSameHoles.calls kj13 _ _ t719 _ _ t671 true _ ?side1 ?side2 ?side3 ?side4 A119.out).mono ?_);(case side1=>exact(a8_ HO722.out));(case side2=>exact(Kd.R_reads' HO722.out).2.1);(case side3=>exact(a8_ HO_5.out));(case side4=>exact(Kd.R_reads' HO_5.out).2.1);rintro e w' ⟨rfl,⟨nd,rfl⟩⟩;obtain⟨Ao127,co127,eo127⟩:=Kd.R_slice HO_10.out;subst eo127;obtain⟨Ao128,co128,eo128⟩:=Kd.R_slice HO_11.out;subst eo128;obtain⟨Ao129,co129,eo129⟩:=Kd.R_slice HO_19.out;subst eo129))
                   all_goals
                    go_meet
                    case rel=>exact⟨_,(((wrap64 ((t699.length:Int)+(t685.length:Int))) != (t672.length:Int))),(by first | rfl|(simp;done)|(simp[*];done)),H',⟨by have:=HJ13.out;first | omega|exact Nat.le_refl _⟩,⟨(a0_ HO_10.out)⟩,⟨(a0_ HO_11.out)⟩,⟨(a0_ HO_23.out)⟩,⟨a1_⟩⟩
                  ·rw[if_neg c124]at H
                   have c124b0:((wrap64 ((t699.length:Int)+(t684.length:Int))) == (t671.length:Int))=false:=beq_eq_false_iff_ne.mpr c124
                   have c124b1:((wrap64 ((t699.length:Int)+(t684.length:Int))) != (t671.length:Int))=true:=bne_iff_ne.mpr c124
                   exact(laws_FnDifferences.j1_true (H.trans (congrArg some HR_.out))).elim
                 ·rw[if_neg c123]at H
                  have c123b0:((wrap64 ((t684.length:Int)+(t685.length:Int))) == t693)=false:=beq_eq_false_iff_ne.mpr c123
                  have c123b1:((wrap64 ((t684.length:Int)+(t685.length:Int))) != t693)=true:=bne_iff_ne.mpr c123
                  exact(laws_FnDifferences.j1_true (H.trans (congrArg some HR_.out))).elim
                ·rw[if_neg c122]at H
                 have c122b0:(t723 == t693)=false:=beq_eq_false_iff_ne.mpr c122
                 have c122b1:(t723 != t693)=true:=bne_iff_ne.mpr c122
                 (first|rw[c122b0]|(simp only[i64_w,i32_w];rw[c122b0]) | skip)
                 exact(laws_FnDifferences.j1_true (H.trans (congrArg some HR_.out))).elim
               ·replace c121:=Bool.eq_false_iff.mpr c121
                subst c121
                replace H:(laws_FnDifferences.j1 kj13 l1 t684 t685 t707 true)=some r:=by rw[if_neg (show ¬(false=true) by decide)]at H;exact H
                exact(laws_FnDifferences.j1_true (H.trans (congrArg some HR_.out))).elim
              ·replace c120:=Bool.eq_false_iff.mpr c120
               subst c120
               replace H:(laws_FnDifferences.j1 kj13 l1 t684 t685 t707 true)=some r:=by rw[if_neg (show ¬(false=true) by decide)]at H;exact H
               exact(laws_FnDifferences.j1_true (H.trans (congrArg some HR_.out))).elim
             ·replace c118:=Bool.eq_false_iff.mpr c118
              subst c118
              replace H:(laws_FnDifferences.j1 kj13 l1 t684 t685 t707 true)=some r:=by rw[if_neg (show ¬(false=true) by decide)]at H;exact H
              exact(laws_FnDifferences.j1_true (H.trans (congrArg some HR_.out))).elim
            ·replace c117:=Bool.eq_false_iff.mpr c117
             subst c117
             replace H:(laws_FnDifferences.j1 kj13 l1 t684 t685 t707 true)=some r:=by rw[if_neg (show ¬(false=true) by decide)]at H;exact H
             exact(laws_FnDifferences.j1_true (H.trans (congrArg some HR_.out))).elim
           ·replace c115:=Bool.eq_false_iff.mpr c115
            subst c115
            replace H:(laws_FnDifferences.j1 kj13 l1 t684 t685 t707 true)=some r:=by rw[if_neg (show ¬(false=true) by decide)]at H;exact H
            exact(laws_FnDifferences.j1_true (H.trans (congrArg some HR_.out))).elim
         case rest=>
          as_aux_lemma=>
           clear HC109
           try clear c1
           try clear c2
           try clear p2
           try clear c3
           try clear c4
           try clear c5
           try clear c6
           try clear p6
           try clear c7
           try clear c8
           try clear c9
           try clear c10
           try clear c11
           try clear c12
           try clear c13
           try clear c14
           try clear c17
           try clear c26
           try clear c26b0
           try clear c26b1
           try clear c26b2
           try clear c28
           try clear c30
           try clear c31
           try clear c31b0
           try clear c31b1
           try clear c31b2
           try clear c36
           try clear c36b0
           try clear c36b1
           try clear c37
           try clear c37b0
           try clear c37b1
           try clear c37b2
           try clear c43
           try clear c44
           try clear c44b0
           try clear c44b1
           try clear c44b2
           try clear c52
           try clear c53
           try clear c53b0
           try clear c53b1
           try clear c53b2
           try clear c62
           try clear c62b0
           try clear c62b1
           try clear c62b2
           try clear p64
           try clear c103
           try clear c105
           try clear c115
           try clear c117
           try clear c118
           try clear c120
           try clear c121
           try clear c122
           try clear c122b0
           try clear c122b1
           try clear c123
           try clear c123b0
           try clear c123b1
           try clear c124
           try clear c124b0
           try clear c124b1
           try clear p2
           obtain⟨kq,x248_108,rfl,HA,HJ108,HO_10,HO_11,HO_23,HB⟩:=hcut
           cases kq with
           | zero=>exact absurd HA.out (by simp[laws_FnDifferences.j1])
           | succ kj108=>
            have H:=HA.out
            clear HA
            simp only[laws_FnDifferences.j1]at H
            by_cases c147:x248_108=true
            ·subst c147
             replace H:(some false)=some r:=by rw[if_pos rfl]at H;exact H
             exact absurd ((Option.some.inj H).trans HR_.out) (by decide)
            ·replace c147:=Bool.eq_false_iff.mpr c147
             subst c147
             replace H:((some (([]:List (S40)):List (S40))).bind fun y727=>(if y727.length+t684.length<5864062014805 then((some (y727 ++ t684:List (S40))).bind fun y730=>(if y730.length+t685.length<5864062014805 then((some (y730 ++ t685:List (S40))).bind fun y733=>(laws_FnDifferences.l0 kj108 l1 t707 y733 (y733.length:Int) 0)) else(none))) else(none)))=some r:=by rw[if_neg (show ¬(false=true) by decide)]at H;exact H
             obtain⟨y727,hy727⟩:∃y_:List (S40),y_=(([]:List (S40))):=⟨_,rfl⟩
             replace H:(if y727.length+t684.length<5864062014805 then((some (y727 ++ t684:List (S40))).bind fun y730=>(if y730.length+t685.length<5864062014805 then((some (y730 ++ t685:List (S40))).bind fun y733=>(laws_FnDifferences.l0 kj108 l1 t707 y733 (y733.length:Int) 0)) else(none))) else(none))=some r:=by first|(rw[hy727];with_reducible exact H)|(have H2_:=(Option.bind_some _ _).symm.trans H;rw[hy727];with_reducible exact H2_)|(have H2_:=(Option.bind_some _ _).symm.trans H;with_reducible exact H2_) | with_reducible exact H|(rw[hy727];exact H)|exact H
             have Ny727:=am_ hy727
             clear hy727
             by_cases c148:y727.length+t684.length<5864062014805
             ·rw[if_pos c148]at H
              have LMc148:=am_ c148
              clear c148
              obtain⟨y730,hy730⟩:∃y_:List (S40),y_=(y727 ++ t684):=⟨_,rfl⟩
              replace H:(if y730.length+t685.length<5864062014805 then((some (y730 ++ t685:List (S40))).bind fun y733=>(laws_FnDifferences.l0 kj108 l1 t707 y733 (y733.length:Int) 0)) else(none))=some r:=by first|(rw[hy730];with_reducible exact H)|(have H2_:=(Option.bind_some _ _).symm.trans H;rw[hy730];with_reducible exact H2_)|(have H2_:=(Option.bind_some _ _).symm.trans H;with_reducible exact H2_) | with_reducible exact H|(rw[hy730];exact H)|exact H
              have Ny730:=am_ hy730
              clear hy730
              by_cases c149:y730.length+t685.length<5864062014805
              ·rw[if_pos c149]at H
               have LMc149:=am_ c149
               clear c149
               obtain⟨y733,hy733⟩:∃y_:List (S40),y_=(y730 ++ t685):=⟨_,rfl⟩
               replace H:(laws_FnDifferences.l0 kj108 l1 t707 y733 (y733.length:Int) 0)=some r:=by first|(rw[hy733];with_reducible exact H)|(have H2_:=(Option.bind_some _ _).symm.trans H;rw[hy733];with_reducible exact H2_)|(have H2_:=(Option.bind_some _ _).symm.trans H;with_reducible exact H2_) | with_reducible exact H|(rw[hy733];exact H)|exact H
               have Ny733:=am_ hy733
               clear hy733
               have H':=am_ H
               clear H
               go_wp2_with (first|((with_reducible refine gate_dst (N:=249) rfl ?_);(try(refine gate_guard (by rfl) ?_;dsimp only));refine Kd.R_lit k40 _ 40 ?hg (N:=249) ?hd (xs:=([]:List (S40))) (inner:=[]) (ok:=fun _=>True) (okp:=fun _=>True) ?hr ?hp (fun _ hk=>hk) trivial (Below.refl _ _) (Nat.le_refl _) (by simp) ?_;(case hd=>rfl);(case hg=>rfl);(case hr=>exact hr_);(case hp=>exact(Reps.none _ _));intro v728 w150 ho151 hb hg_ hnew_;have E_11:=am_ (Kd.R_elder' (v:=v728) (a0_ HO_11.out) (fun k hk=>by obtain⟨b,e1,e2⟩:=hnew_;rw[e1]at hk;injection hk with hk;omega) hb);clear hg_ hnew_;(first|rw[← Ny727.out]at ho151|(simp only[Int.reduceToNat]at ho151;rw[← Ny727.out]at ho151));replace HO_10:=am_ (Kd.R_below ((a0_ HO_10.out)) hb);replace HO_11:=am_ (Kd.R_below ((a0_ HO_11.out)) hb);replace HO_23:=am_ (Kd.R_below ((a0_ HO_23.out)) hb);have HO729:=am_ (Kd.R_lower ho151 (below_size (a1_)));replace HB:=am_ (below_step (a1_) hb);clear hb ho151;obtain⟨Ao153,co153,eo153⟩:=Kd.R_slice HO_10.out;subst eo153)|((with_reducible refine gate_builtin (b:= .append) (xs:= #[.tmp 249, .tmp 250]) rfl ?_);(try(refine gate_guard (by rfl) ?_;dsimp only));at_builtin;refine Kd.R_append_rows k40 (w0:=w) w.heap.size rfl (.tmp 249) (.tmp 250) 24 40 (.agg #[(.int .i64 0),(.int .i64 0),(.int .i64 0)]) 24 rfl Tryz.underlying24 info40 rfl (by decide) (by omega) v728 y727 t684 _ _ _ (fun _=>True) (fun _=>False) rfl rfl ?aO ?aR (fun _ _ h=>h) (fun _ h=>h.elim) ?aF ?aB ?aS ?aL ?_;(case aR=>exact(a8_ HO_10.out));(case aB=>exact(a1_));(case aF=>exact(fun _ _=>trivial));(case aO=>exact((a0_ HO729.out)));(case aS=>exact(below_size (a1_)));(case aL=>have:=LMc148.out;omega);intro v731 w152 ho hb hg hat;rw[← Ny730.out]at ho;have n1_:=am_ (Kd.R_after (a0_ E_11.out) hg hat);have n2_:=am_ (Kd.R_over' ((a0_ HO_23.out)) (Kd.R_typed ((a0_ HO729.out))) (by decide) hg);have n3_:=am_ (hb);have n4_:=am_ (ho);clear E_11 HO_10 HO_11 HO_23 HB HO729;have HO_11:=n1_;have HO_23:=n2_;have HB:=n3_;have HO732:=n4_;clear n1_ n2_ n3_ n4_ ho hb hg hat;obtain⟨Ao155,co155,eo155⟩:=Kd.R_slice HO_11.out;subst eo155)|((with_reducible refine gate_builtin (b:= .append) (xs:= #[.tmp 251, .tmp 252]) rfl ?_);(try(refine gate_guard (by rfl) ?_;dsimp only));at_builtin;refine Kd.R_append_rows k40 (w0:=w) w.heap.size rfl (.tmp 251) (.tmp 252) 24 40 (.agg #[(.int .i64 0),(.int .i64 0),(.int .i64 0)]) 24 rfl Tryz.underlying24 info40 rfl (by decide) (by omega) v731 y730 t685 _ _ _ (fun _=>True) (fun _=>False) rfl rfl ?aO ?aR (fun _ _ h=>h) (fun _ h=>h.elim) ?aF ?aB ?aS ?aL ?_;(case aR=>exact(a8_ HO_11.out));(case aB=>exact(a1_));(case aF=>exact(fun _ _=>trivial));(case aO=>exact((a0_ HO732.out)));(case aS=>exact(below_size (a1_)));(case aL=>have:=LMc149.out;omega);intro v734 w154 ho hb hg hat;rw[← Ny733.out]at ho;have n2_:=am_ (Kd.R_over' ((a0_ HO_23.out)) (Kd.R_typed ((a0_ HO732.out))) (by decide) hg);have n3_:=am_ (hb);have n4_:=am_ (ho);clear HO_11 HO_23 HB HO732;have HO_23:=n2_;have HB:=n3_;have HO735:=n4_;clear n2_ n3_ n4_ ho hb hg hat;obtain⟨Ao156,co156,eo156⟩:=Kd.R_slice HO735.out;subst eo156))
               (try simp only[Act.put,List.setIfInBounds_toArray,List.set_cons_zero,List.set_cons_succ])
               go_loopg [255] kj108 (fun kq v255 w'=>∃(x255_3:Int),v255 = .int .i64 x255_3∧Aside0 (laws_FnDifferences.l0 kq l1 t707 y733 (y733.length:Int) x255_3=some r)∧Aside0 (kq≤kj108)∧Aside0 (Kd.R (Kd.int .i64) 3 w' w.heap.size (fun _=>True) v709 t707)∧Aside0 (Kd.R k40 40 w' w.heap.size (fun _=>True) (.slice Ao156 y733.length co156) y733)∧Aside0 (Below w.heap.size w w'))
               case atStart=>exact⟨(0),(by first | rfl|(simp;done)|(simp[*];done)),H',⟨Nat.le_refl _⟩,⟨(a0_ HO_23.out)⟩,⟨(a0_ HO735.out)⟩,⟨a1_⟩⟩
               case round=>
                clear H'
                try clear c1
                try clear c2
                try clear p2
                try clear c3
                try clear c4
                try clear c5
                try clear c6
                try clear p6
                try clear c7
                try clear c8
                try clear c9
                try clear c10
                try clear c11
                try clear c12
                try clear c13
                try clear c14
                try clear c17
                try clear c26
                try clear c26b0
                try clear c26b1
                try clear c26b2
                try clear c28
                try clear c30
                try clear c31
                try clear c31b0
                try clear c31b1
                try clear c31b2
                try clear c36
                try clear c36b0
                try clear c36b1
                try clear c37
                try clear c37b0
                try clear c37b1
                try clear c37b2
                try clear c43
                try clear c44
                try clear c44b0
                try clear c44b1
                try clear c44b2
                try clear c52
                try clear c53
                try clear c53b0
                try clear c53b1
                try clear c53b2
                try clear c62
                try clear c62b0
                try clear c62b1
                try clear c62b2
                try clear p64
                try clear c103
                try clear c105
                try clear c115
                try clear c117
                try clear c118
                try clear c120
                try clear c121
                try clear c122
                try clear c122b0
                try clear c122b1
                try clear c123
                try clear c123b0
                try clear c123b1
                try clear c124
                try clear c124b0
                try clear c124b1
                try clear c147
                try clear c148
                try clear c149
                try clear p2
                try clear p6
                try clear p64
                obtain⟨x255_3,rfl,HA,HK3,HO_23,HO_253,HB⟩:=hrel
                cases gk with
                | zero=>exact absurd HA.out (by simp[laws_FnDifferences.l0])
                | succ k3=>
                 have H:=HA.out
                 clear HA
                 simp only[laws_FnDifferences.l0]at H
                 by_cases c157:x255_3<(y733.length:Int)
                 ·rw[if_pos c157]at H
                  have c157b0:decide (x255_3<(y733.length:Int))=true:=decide_eq_true c157
                  clear c157
                  by_cases c158:0≤x255_3
                  ·rw[if_pos c158]at H
                   have c158b0:decide (0≤x255_3)=true:=decide_eq_true c158
                   clear c158
                   by_cases c159:x255_3<(y733.length:Int)
                   ·rw[if_pos c159]at H
                    have c159b0:decide (x255_3<(y733.length:Int))=true:=decide_eq_true c159
                    clear c159
                    obtain⟨t738,A160,H⟩:=bo_ H
                    try dsimp only at H
                    by_cases c161:t738=true
                    ·subst c161
                     replace H:(laws_FnDifferences.l0 k3 l1 t707 y733 (y733.length:Int) (wrap64 (x255_3+1)))=some r:=by rw[if_pos rfl]at H;exact H
                     have H':=am_ H
                     clear H
                     have p736:0≤(x255_3:Int):=of_decide_eq_true (a12_)
                     have q736:x255_3<(y733.length:Int):=of_decide_eq_true (a12_)
                     obtain⟨ad736,e736,hx736_0,hx736_1,hx736_2⟩:=at_T40 (Kd.R_reads' HO_253.out).2.2 x255_3 p736 q736
                     cases e736
                     replace p736:=eq_true p736
                     replace q736:=eq_true q736
                     go_wp2_with (first|((with_reducible refine gate_dst (N:=32) rfl ?_);(try(refine gate_guard (by rfl) ?_;dsimp only));refine box_event ?hg (N:=32) ?hd (cs:= #[.int .i64 0, .int .i64 0, .int .i64 0]) (t:=40) ?hr ?_;(case hd=>rfl);(case hg=>rfl);(case hr=>exact hr_);intro gb737 hg w162 hbox hb;replace HO_23:=am_ (Kd.R_below ((a0_ HO_23.out)) hb);replace HO_253:=am_ (Kd.R_below (Kd.R_elderB ((a0_ HO_253.out)) gb737 (Nat.le_of_eq hg.symm)) hb);have BK737:=am_ (hbox);have GW737:=am_ ((by rw[hg];exact(below_size (a1_)):w.heap.size≤gb737));have GE737:=am_ ((by rw[hg];exact(below_size (a1_)):w.heap.size≤gb737));replace HB:=am_ (below_step (a1_) hb);clear hb hbox hg;have hcz163_0:w162.cell? ⟨gb737,0,none⟩=some (.int .i64 0):=(blk_cell BK737.out 0).trans rfl;have hcz163_1:w162.cell? ⟨gb737,1,none⟩=some (.int .i64 0):=(blk_cell BK737.out 1).trans rfl;have hcz163_2:w162.cell? ⟨gb737,2,none⟩=some (.int .i64 0):=(blk_cell BK737.out 2).trans rfl;have hfz163_0:=blk_frozen BK737.out 0;have hfz163_1:=blk_frozen BK737.out 1;have hfz163_2:=blk_frozen BK737.out 2;obtain⟨Ao164,co164,eo164⟩:=Kd.R_slice HO_23.out;subst eo164)|((with_reducible refine gate_callee (f:=18) rfl ?_);refine goesL_ (some 262) rfl rfl Tryz.func18 (by kernel_rfl) rfl #[.slice Ao164 t707.length co164, .int .i64 ((rd_T40 y733 x255_3).f0)] rfl gd_ ?_;(with_reducible refine(laws_pIn.calls k3 _ _ t707 ((rd_T40 y733 x255_3).f0) true _ ?side1 ?side2 A160.out).mono ?_);(case side1=>refine(Kd.R_reads' (e:=3) (base:=w.heap.size) (ok:=fun k_=>True) (n:=t707.length) (c:=co164) ?_).2.2;exact(by(with_reducible repeat (first|apply Kd.R_alloc|apply Kd.R_drewN|apply Kd.R_drew));exact(Kd.R_mono (Kd.R_far (p:=⟨gb737,2,none⟩) (Kd.R_far (p:=⟨gb737,1,none⟩) (Kd.R_far (p:=⟨gb737,0,none⟩) (Kd.R_types HO_23.out BK737.out (by decide)) (fun _ hk=>hk.2) (.int .i64 ((rd_T40 y733 x255_3).f0))) (fun _ hk=>hk.2) (.int .i64 ((rd_T40 y733 x255_3).f1))) (fun _ hk=>hk.2) (.int .i64 ((rd_T40 y733 x255_3).f2))) (fun _ h_=>h_.1))));(case side2=>exact(Kd.R_reads' HO_23.out).2.1);rintro e w' ⟨rfl,⟨nd,rfl⟩⟩;refine⟨_,rfl,?_⟩))
                     go_roundg k3
                     case measure=>have:=HJ13.out;have:=HJ108.out;have:=HK3.out;omega
                     case rel=>exact⟨(wrap64 (x255_3+1)),(by first | rfl|(simp;done)|(simp[*];done)),H',⟨by have:=HJ13.out;have:=HJ108.out;have:=HK3.out;omega⟩,⟨by(with_reducible repeat (first|apply Kd.R_alloc|apply Kd.R_drewN|apply Kd.R_drew));exact Kd.R_mono (Kd.R_far (p:=⟨gb737,2,none⟩) (Kd.R_far (p:=⟨gb737,1,none⟩) (Kd.R_far (p:=⟨gb737,0,none⟩) (Kd.R_types HO_23.out BK737.out (by decide)) (fun _ hk=>hk.2) (.int .i64 ((rd_T40 y733 x255_3).f0))) (fun _ hk=>hk.2) (.int .i64 ((rd_T40 y733 x255_3).f1))) (fun _ hk=>hk.2) (.int .i64 ((rd_T40 y733 x255_3).f2))) (fun _ hk=>trivial)⟩,⟨by(with_reducible repeat (first|apply Kd.R_alloc|apply Kd.R_drewN|apply Kd.R_drew));exact Kd.R_mono (Kd.R_far (p:=⟨gb737,2,none⟩) (Kd.R_far (p:=⟨gb737,1,none⟩) (Kd.R_far (p:=⟨gb737,0,none⟩) (Kd.R_mono HO_253.out (fun k_ hk=>(⟨hk,hk.2⟩:_∧k_≠gb737))) (fun _ hk=>hk.2) (.int .i64 ((rd_T40 y733 x255_3).f0))) (fun _ hk=>hk.2) (.int .i64 ((rd_T40 y733 x255_3).f1))) (fun _ hk=>hk.2) (.int .i64 ((rd_T40 y733 x255_3).f2))) (fun _ hk=>trivial)⟩,⟨(a4_ GE737.out)⟩⟩
                    ·replace c161:=Bool.eq_false_iff.mpr c161
                     subst c161
                     replace H:(some false)=some r:=by rw[if_neg (show ¬(false=true) by decide)]at H;exact H
                     exact absurd ((Option.some.inj H).trans HR_.out) (by decide)
                   ·rw[if_neg c159]at H
                    exact absurd H (by simp)
                  ·rw[if_neg c158]at H
                   exact absurd H (by simp)
                 ·rw[if_neg c157]at H
                  have c157b0:decide (x255_3<(y733.length:Int))=false:=decide_eq_false c157
                  clear c157
                  have H':=am_ H
                  clear H
                  go_wp2
                  all_goals
                   go_meet
                   case rel=>exact⟨_,H',⟨by have:=HJ13.out;have:=HJ108.out;have:=HK3.out;first | omega|exact Nat.le_refl _⟩,⟨a1_⟩⟩
              ·rw[if_neg c149]at H
               exact absurd H (by simp)
             ·rw[if_neg c148]at H
              exact absurd H (by simp)
        ·replace c105:=Bool.eq_false_iff.mpr c105
         subst c105
         replace H:(laws_FnDifferences.j3 kj13 l1)=some r:=by rw[if_neg (show ¬(false=true) by decide)]at H;exact H
         have H':=am_ H
         clear H
         go_wp2
         all_goals
          go_meet
          case rel=>exact⟨_,H',⟨by have:=HJ13.out;first | omega|exact Nat.le_refl _⟩,⟨a1_⟩⟩
      case rest=>
       as_aux_lemma=>
        clear HC104
        try clear c1
        try clear c2
        try clear p2
        try clear c3
        try clear c4
        try clear c5
        try clear c6
        try clear p6
        try clear c7
        try clear p7
        try clear q7
        try clear hx7
        try clear c8
        try clear c9
        try clear c10
        try clear c11
        try clear c12
        try clear c13
        try clear c14
        try clear c15
        try clear c16
        try clear c17
        try clear c18
        try clear c26
        try clear c26b0
        try clear c26b1
        try clear c26b2
        try clear c28
        try clear c30
        try clear c31
        try clear c31b0
        try clear c31b1
        try clear c31b2
        try clear c36
        try clear c36b0
        try clear c36b1
        try clear c37
        try clear c37b0
        try clear c37b1
        try clear c37b2
        try clear c43
        try clear c44
        try clear c44b0
        try clear c44b1
        try clear c44b2
        try clear c52
        try clear c53
        try clear c53b0
        try clear c53b1
        try clear c53b2
        try clear c62
        try clear c62b0
        try clear c62b1
        try clear c62b2
        try clear p64
        try clear p73
        try clear q73
        try clear hx73
        try clear c103
        try clear c105
        try clear c115
        try clear c117
        try clear c118
        try clear c120
        try clear c121
        try clear c122
        try clear c122b0
        try clear c122b1
        try clear c123
        try clear c123b0
        try clear c123b1
        try clear c124
        try clear c124b0
        try clear c124b1
        try clear c147
        try clear c148
        try clear c149
        try clear c157
        try clear c157b0
        try clear c158
        try clear c158b0
        try clear c159
        try clear c159b0
        try clear c161
        try clear hcz163_0
        try clear hcz163_1
        try clear hcz163_2
        try clear hcz166_0
        try clear hcz166_1
        try clear hcz166_2
        try clear hfz163_0
        try clear hfz163_1
        try clear hfz163_2
        try clear hfz166_0
        try clear hfz166_1
        try clear hfz166_2
        try clear hx736_0
        try clear hx736_1
        try clear hx736_2
        try clear p2
        try clear p6
        try clear p64
        try clear p736
        try clear q736
        obtain⟨kq,HA,HJ103,HB⟩:=hcut
        cases kq with
        | zero=>exact absurd HA.out (by simp[laws_FnDifferences.j3])
        | succ kj103=>
         have H:=HA.out
         clear HA
         simp only[laws_FnDifferences.j3]at H
         obtain⟨⟨t739,t740⟩,A168,H⟩:=bo_ H
         try dsimp only at H
         obtain⟨⟨t745,t746,t747⟩,A169,H⟩:=bo_ H
         try dsimp only at H
         obtain⟨⟨t748,t749,t750⟩,A170,H⟩:=bo_ H
         try dsimp only at H
         have HC171:=am_ H
         clear H
         go_upto_region 29 with (first|((with_reducible refine gate_callee (f:=19) rfl ?_);refine goesL_ (some 267) rfl rfl Tryz.func19 (by kernel_rfl) rfl #[.slice A1 l1.length c1] rfl gd_ ?_;(with_reducible refine(spec_DrawNearestSheet.calls kj103 _ _ l1 t739 t740 _ ?side1 ?side2 A168.out).mono ?_);(case side1=>exact(a6_ HR1.out));(case side2=>exact HC1.out);rintro e w172 ⟨v741,v743,rfl,ho0,ho1,hb⟩;refine⟨_,rfl,?_⟩;have HO742:=am_ (Kd.R_lower (Kd.R_mono (ok':=fun _=>True) ho0 (fun _ _=>trivial)) (below_size (a1_)));have HO744:=am_ (Kd.S_lower (Kd.S_mono (ok':=fun _=>True) ho1 (fun _ _=>trivial)) (below_size (a1_)));replace HB:=am_ (below_step (a1_) hb);(try clear hb);(try clear hb2);(try clear hk);(try clear hi);(try clear ho0);(try clear ho1);obtain⟨Ao173,co173,eo173⟩:=Kd.R_slice HO742.out;subst eo173;obtain⟨Ao174,co174,eo174⟩:=Kd.S_slice HO744.out;subst eo174)|((with_reducible refine gate_callee (f:=20) rfl ?_);refine goesL_ (some 273) rfl rfl Tryz.func20 (by kernel_rfl) rfl #[.slice Ao173 t739.length co173, .slice Ao174 t740.length co174] rfl gd_ ?_;(with_reducible refine(impl_NearestSheet.calls kj103 _ _ t739 _ _ t740 t745 t746 t747 _ ?side1 ?side2 ?side3 ?side4 A169.out).mono ?_);(case side1=>exact(a8_ HO742.out));(case side2=>exact(Kd.R_reads' HO742.out).2.1);(case side3=>exact(a51_ HO744.out));(case side4=>exact(Kd.S_reads' HO744.out).2.1);rintro e w175 ⟨rfl,hb⟩;refine⟨_,rfl,?_⟩;replace HO742:=am_ (Kd.R_below ((a0_ HO742.out)) hb);replace HO744:=am_ (Kd.S_below ((a29_ HO744.out)) hb);replace HB:=am_ (below_step (a1_) hb);(try clear hb);(try clear hb2);(try clear hk);(try clear hi))|((with_reducible refine gate_callee (f:=21) rfl ?_);refine goesL_ (some 280) rfl rfl Tryz.func21 (by kernel_rfl) rfl #[.slice Ao173 t739.length co173, .slice Ao174 t740.length co174] rfl gd_ ?_;(with_reducible refine(spec_NearestSheet.calls kj103 _ _ t739 _ _ t740 t748 t749 t750 _ ?side1 ?side2 ?side3 ?side4 A170.out).mono ?_);(case side1=>exact(a8_ HO742.out));(case side2=>exact(Kd.R_reads' HO742.out).2.1);(case side3=>exact(a51_ HO744.out));(case side4=>exact(Kd.S_reads' HO744.out).2.1);rintro e w176 ⟨rfl,hb⟩;refine⟨_,rfl,?_⟩;replace HO742:=am_ (Kd.R_below ((a0_ HO742.out)) hb);replace HO744:=am_ (Kd.S_below ((a29_ HO744.out)) hb);replace HB:=am_ (below_step (a1_) hb);(try clear hb);(try clear hb2);(try clear hk);(try clear hi)))
         (try simp only[Act.put,List.setIfInBounds_toArray,List.set_cons_zero,List.set_cons_succ])
         go_cut [296] (fun v296 wc=>∃(kq:Nat) (x296_170:Bool),v296 = .bool x296_170∧Aside0 (laws_FnDifferences.j4 kq l1 t739 t740 t747 t748 t749 x296_170=some r)∧Aside0 (kq≤kj103)∧Aside0 (Kd.R k40 40 wc w.heap.size (fun _=>True) (.slice Ao173 t739.length co173) t739)∧Aside0 (Kd.S (Kd.slice 40 k40) 24 wc w.heap.size (fun _=>True) (.slice Ao174 t740.length co174) t740)∧Aside0 (Below w.heap.size w wc))
         case first=>
          as_aux_lemma=>
           have H:=HC171.out
           clear HC171
           by_cases c177:(t747 != t750)=true
           ·rw[if_pos c177]at H
            have c177b0:(t747 != t750)=true:=c177
            (try(have c177b1:decide (t747=t750)=false:=by simpa using c177))
            (try(have c177b2:(t747 == t750)=false:=by simpa using c177))
            (try(have c177b3:¬(t747=t750):=by simpa using c177))
            clear c177
            (first|rw[c177b0]|(simp only[i64_w,i32_w];rw[c177b0]) | skip)
            have H':=am_ H
            clear H
            go_wp2
            all_goals
             go_meet
             case rel=>exact⟨_,(true),(by first | rfl|(simp;done)|(simp[*];done)),H',⟨by have:=HJ13.out;have:=HJ103.out;first | omega|exact Nat.le_refl _⟩,⟨(a0_ HO742.out)⟩,⟨(a29_ HO744.out)⟩,⟨a1_⟩⟩
           ·rw[if_neg c177]at H
            have c177b0:(t747 != t750)=false:=by simpa using c177
            (try(have c177b1:decide (t747=t750)=true:=by simpa using c177))
            (try(have c177b2:(t747 == t750)=true:=by simpa using c177))
            clear c177
            (first|rw[c177b0]|(simp only[i64_w,i32_w];rw[c177b0]) | skip)
            by_cases c178:t745=t748
            ·rw[if_pos c178]at H
             have c178b0:(t745 == t748)=true:=beq_iff_eq.mpr c178
             have c178b1:(t745 != t748)=false:=bne_eq_false_iff_eq.mpr c178
             clear c178
             have H':=am_ H
             clear H
             go_wp2
             all_goals
              go_meet
              case rel=>exact⟨_,((t746 != t749)),(by first | rfl|(simp;done)|(simp[*];done)),H',⟨by have:=HJ13.out;have:=HJ103.out;first | omega|exact Nat.le_refl _⟩,⟨(a0_ HO742.out)⟩,⟨(a29_ HO744.out)⟩,⟨a1_⟩⟩
            ·rw[if_neg c178]at H
             have c178b0:(t745 == t748)=false:=beq_eq_false_iff_ne.mpr c178
             have c178b1:(t745 != t748)=true:=bne_iff_ne.mpr c178
             have H':=am_ H
             clear H
             go_wp2
             all_goals
              go_meet
              case rel=>exact⟨_,(true),(by first | rfl|(simp;done)|(simp[*];done)),H',⟨by have:=HJ13.out;have:=HJ103.out;first | omega|exact Nat.le_refl _⟩,⟨(a0_ HO742.out)⟩,⟨(a29_ HO744.out)⟩,⟨a1_⟩⟩
         case rest=>
          as_aux_lemma=>
           clear HC171
           try clear c1
           try clear c2
           try clear p2
           try clear c3
           try clear c4
           try clear c5
           try clear c6
           try clear p6
           try clear c7
           try clear p7
           try clear q7
           try clear hx7
           try clear c8
           try clear c9
           try clear c10
           try clear c11
           try clear c12
           try clear c13
           try clear c14
           try clear c15
           try clear c16
           try clear c17
           try clear c18
           try clear c19
           try clear c20
           try clear c21
           try clear c26
           try clear c26b0
           try clear c26b1
           try clear c26b2
           try clear c28
           try clear c30
           try clear c31
           try clear c31b0
           try clear c31b1
           try clear c31b2
           try clear c36
           try clear c36b0
           try clear c36b1
           try clear c37
           try clear c37b0
           try clear c37b1
           try clear c37b2
           try clear c43
           try clear c44
           try clear c44b0
           try clear c44b1
           try clear c44b2
           try clear c52
           try clear c53
           try clear c53b0
           try clear c53b1
           try clear c53b2
           try clear c62
           try clear c62b0
           try clear c62b1
           try clear c62b2
           try clear p64
           try clear p73
           try clear q73
           try clear hx73
           try clear c103
           try clear c105
           try clear c115
           try clear c117
           try clear c118
           try clear c120
           try clear c121
           try clear c122
           try clear c122b0
           try clear c122b1
           try clear c123
           try clear c123b0
           try clear c123b1
           try clear c124
           try clear c124b0
           try clear c124b1
           try clear c147
           try clear c148
           try clear c149
           try clear c157
           try clear c157b0
           try clear c158
           try clear c158b0
           try clear c159
           try clear c159b0
           try clear c161
           try clear c177
           try clear c177b0
           try clear c177b1
           try clear c177b2
           try clear c178
           try clear c178b0
           try clear c178b1
           try clear hcz163_0
           try clear hcz163_1
           try clear hcz163_2
           try clear hcz166_0
           try clear hcz166_1
           try clear hcz166_2
           try clear hfz163_0
           try clear hfz163_1
           try clear hfz163_2
           try clear hfz166_0
           try clear hfz166_1
           try clear hfz166_2
           try clear hx736_0
           try clear hx736_1
           try clear hx736_2
           try clear p2
           try clear p6
           try clear p64
           try clear p7
           try clear p73
           try clear p736
           try clear q7
           try clear q73
           try clear q736
           obtain⟨kq,x296_170,rfl,HA,HJ170,HO_33,HO_34,HB⟩:=hcut
           cases kq with
           | zero=>exact absurd HA.out (by simp[laws_FnDifferences.j4])
           | succ kj170=>
            have H:=HA.out
            clear HA
            simp only[laws_FnDifferences.j4]at H
            by_cases c179:x296_170=true
            ·subst c179
             replace H:(some false)=some r:=by rw[if_pos rfl]at H;exact H
             exact absurd ((Option.some.inj H).trans HR_.out) (by decide)
            ·replace c179:=Bool.eq_false_iff.mpr c179
             subst c179
             replace H:(if t747=true then(laws_FnDifferences.l1 kj170 l1 t739 t748 t749 t740 (t740.length:Int) 0) else(laws_FnDifferences.j6 kj170 l1))=some r:=by rw[if_neg (show ¬(false=true) by decide)]at H;exact H
             have HC180:=am_ H
             clear H
             go_upto_if 297 with (fail)
             go_cut [] (fun wc=>∃(kq:Nat),Aside0 (laws_FnDifferences.j6 kq l1=some r)∧Aside0 (kq≤kj170)∧Aside0 (Below w.heap.size w wc))
             case first=>
              as_aux_lemma=>
               have H:=HC180.out
               clear HC180
               by_cases c181:t747=true
               ·subst c181
                replace H:(laws_FnDifferences.l1 kj170 l1 t739 t748 t749 t740 (t740.length:Int) 0)=some r:=by rw[if_pos rfl]at H;exact H
                have H':=am_ H
                clear H
                go_wp2
                (try simp only[Act.put,List.setIfInBounds_toArray,List.set_cons_zero,List.set_cons_succ])
                go_loopg [300] kj170 (fun kq v300 w'=>∃(x300_4:Int),v300 = .int .i64 x300_4∧Aside0 (laws_FnDifferences.l1 kq l1 t739 t748 t749 t740 (t740.length:Int) x300_4=some r)∧Aside0 (kq≤kj170)∧Aside0 (Kd.R k40 40 w' w.heap.size (fun _=>True) (.slice Ao173 t739.length co173) t739)∧Aside0 (Kd.S (Kd.slice 40 k40) 24 w' w.heap.size (fun _=>True) (.slice Ao174 t740.length co174) t740)∧Aside0 (Below w.heap.size w w'))
                case atStart=>exact⟨(0),(by first | rfl|(simp;done)|(simp[*];done)),H',⟨Nat.le_refl _⟩,⟨(a0_ HO_33.out)⟩,⟨(a29_ HO_34.out)⟩,⟨a1_⟩⟩
                case round=>
                 clear H'
                 try clear c1
                 try clear c2
                 try clear p2
                 try clear c3
                 try clear c4
                 try clear c5
                 try clear c6
                 try clear p6
                 try clear c7
                 try clear p7
                 try clear q7
                 try clear hx7
                 try clear c8
                 try clear c9
                 try clear c10
                 try clear c11
                 try clear c12
                 try clear c13
                 try clear c14
                 try clear c15
                 try clear c16
                 try clear c17
                 try clear c18
                 try clear c19
                 try clear c20
                 try clear c21
                 try clear c26
                 try clear c26b0
                 try clear c26b1
                 try clear c26b2
                 try clear c28
                 try clear c30
                 try clear c31
                 try clear c31b0
                 try clear c31b1
                 try clear c31b2
                 try clear c36
                 try clear c36b0
                 try clear c36b1
                 try clear c37
                 try clear c37b0
                 try clear c37b1
                 try clear c37b2
                 try clear c43
                 try clear c44
                 try clear c44b0
                 try clear c44b1
                 try clear c44b2
                 try clear c52
                 try clear c53
                 try clear c53b0
                 try clear c53b1
                 try clear c53b2
                 try clear c62
                 try clear c62b0
                 try clear c62b1
                 try clear c62b2
                 try clear p64
                 try clear p73
                 try clear q73
                 try clear hx73
                 try clear c103
                 try clear c105
                 try clear c115
                 try clear c117
                 try clear c118
                 try clear c120
                 try clear c121
                 try clear c122
                 try clear c122b0
                 try clear c122b1
                 try clear c123
                 try clear c123b0
                 try clear c123b1
                 try clear c124
                 try clear c124b0
                 try clear c124b1
                 try clear c147
                 try clear c148
                 try clear c149
                 try clear c157
                 try clear c157b0
                 try clear c158
                 try clear c158b0
                 try clear c159
                 try clear c159b0
                 try clear c161
                 try clear c177
                 try clear c177b0
                 try clear c177b1
                 try clear c177b2
                 try clear c178
                 try clear c178b0
                 try clear c178b1
                 try clear c179
                 try clear c181
                 try clear hcz163_0
                 try clear hcz163_1
                 try clear hcz163_2
                 try clear hcz166_0
                 try clear hcz166_1
                 try clear hcz166_2
                 try clear hfz163_0
                 try clear hfz163_1
                 try clear hfz163_2
                 try clear hfz166_0
                 try clear hfz166_1
                 try clear hfz166_2
                 try clear hx736_0
                 try clear hx736_1
                 try clear hx736_2
                 try clear p2
                 try clear p6
                 try clear p64
                 try clear p7
                 try clear p73
                 try clear p736
                 try clear q7
                 try clear q73
                 try clear q736
                 obtain⟨x300_4,rfl,HA,HK4,HO_33,HO_298,HB⟩:=hrel
                 cases gk with
                 | zero=>exact absurd HA.out (by simp[laws_FnDifferences.l1])
                 | succ k4=>
                  have H:=HA.out
                  clear HA
                  simp only[laws_FnDifferences.l1]at H
                  by_cases c182:x300_4<(t740.length:Int)
                  ·rw[if_pos c182]at H
                   have c182b0:decide (x300_4<(t740.length:Int))=true:=decide_eq_true c182
                   clear c182
                   (first|rw[c182b0]|(simp only[i64_w,i32_w];rw[c182b0]) | skip)
                   by_cases c183:0≤x300_4
                   ·rw[if_pos c183]at H
                    have c183b0:decide (0≤x300_4)=true:=decide_eq_true c183
                    clear c183
                    by_cases c184:x300_4<(t740.length:Int)
                    ·rw[if_pos c184]at H
                     have c184b0:decide (x300_4<(t740.length:Int))=true:=decide_eq_true c184
                     clear c184
                     obtain⟨⟨t752,t753⟩,A185,H⟩:=bo_ H
                     try dsimp only at H
                     by_cases c186:t753=true
                     ·subst c186
                      replace H:(if t752<t749 then(some false) else(if t752=t749 then(if x300_4<t748 then(some false) else(if x300_4=t748 then(laws_FnDifferences.l1 k4 l1 t739 t748 t749 t740 (t740.length:Int) (wrap64 (x300_4+1))) else(laws_FnDifferences.l1 k4 l1 t739 t748 t749 t740 (t740.length:Int) (wrap64 (x300_4+1))))) else(if x300_4=t748 then(some false) else(laws_FnDifferences.l1 k4 l1 t739 t748 t749 t740 (t740.length:Int) (wrap64 (x300_4+1))))))=some r:=by rw[if_pos rfl]at H;exact H
                      by_cases c187:t752<t749
                      ·rw[if_pos c187]at H
                       have c187b0:decide (t752<t749)=true:=decide_eq_true c187
                       clear c187
                       exact absurd ((Option.some.inj H).trans HR_.out) (by decide)
                      ·rw[if_neg c187]at H
                       have c187b0:decide (t752<t749)=false:=decide_eq_false c187
                       clear c187
                       by_cases c189:t752=t749
                       ·rw[if_pos c189]at H
                        have c189b0:(t752 == t749)=true:=beq_iff_eq.mpr c189
                        have c189b1:(t752 != t749)=false:=bne_eq_false_iff_eq.mpr c189
                        clear c189
                        by_cases c190:x300_4<t748
                        ·rw[if_pos c190]at H
                         have c190b0:decide (x300_4<t748)=true:=decide_eq_true c190
                         clear c190
                         exact absurd ((Option.some.inj H).trans HR_.out) (by decide)
                        ·rw[if_neg c190]at H
                         have c190b0:decide (x300_4<t748)=false:=decide_eq_false c190
                         clear c190
                         by_cases c192:x300_4=t748
                         ·rw[if_pos c192]at H
                          have c192b0:(x300_4 == t748)=true:=beq_iff_eq.mpr c192
                          have c192b1:(x300_4 != t748)=false:=bne_eq_false_iff_eq.mpr c192
                          clear c192
                          have H':=am_ H
                          clear H
                          have p751:0≤(x300_4:Int):=of_decide_eq_true (a12_)
                          have q751:x300_4<(t740.length:Int):=of_decide_eq_true (a12_)
                          obtain⟨ad751,A751_0,c751_0,e751,hx751_0,hl751_0,hi751_0⟩:=at_L3 (Kd.S_reads' HO_298.out).2.2 x300_4 p751 q751
                          cases e751
                          obtain⟨ce751,hce751,hMe751,hcc751⟩:=Kd.S_get HO_298.out [] x300_4 p751 ((a48_ HO_298.out))
                          obtain⟨ve751_0,rfl,ge751_0⟩:=hMe751
                          have hv751_0:=hcc751 0 _ rfl
                          rw[Nat.add_zero,show((Kd.slice 40 k40)).sz=1 from rfl,Nat.mul_one]at hv751_0
                          replace hv751_0:=Option.some.inj (hv751_0.symm.trans hx751_0)
                          rw[hv751_0]at ge751_0
                          have HL751_0:=am_ (show Kd.R k40 40 _ _ _ _ (rd_L3 t740 x300_4) from ge751_0)
                          clear hv751_0 ge751_0 hcc751 hce751
                          have HR751_0:=am_ hi751_0
                          have HC751_0:=am_ hl751_0
                          clear hi751_0 hl751_0
                          replace p751:=eq_true p751
                          replace q751:=eq_true q751
                          go_wp2_with (first|((with_reducible refine gate_callee (f:=9) rfl ?_);refine goesL_ (some 308) rfl rfl Tryz.func9 (by kernel_rfl) rfl #[.slice Ao173 t739.length co173, .slice A751_0 (rd_L3 t740 x300_4).length c751_0] rfl gd_ ?_;(with_reducible refine(impl_DistanceOf.calls k4 _ _ t739 _ _ (rd_L3 t740 x300_4) t752 true _ ?side1 ?side2 ?side3 ?side4 A185.out).mono ?_);(case side1=>exact(a8_ HO_33.out));(case side2=>exact(Kd.R_reads' HO_33.out).2.1);(case side3=>exact(a14_ HR751_0.out));(case side4=>exact HC751_0.out);rintro e w193 ⟨rfl,hb⟩;refine⟨_,rfl,?_⟩;replace HO_33:=am_ (Kd.R_below ((a0_ HO_33.out)) hb);replace HO_298:=am_ (Kd.S_below ((a29_ HO_298.out)) hb);replace HL751_0:=am_ (Kd.R_below ((a0_ HL751_0.out)) hb);replace HR751_0:=am_ (Kd.C_below ((a13_ HR751_0.out)) hb);replace HB:=am_ (below_step (a1_) hb);(try clear hb);(try clear hb2);(try clear hk);(try clear hi)))
                          go_roundg k4
                          case measure=>have:=HJ13.out;have:=HJ103.out;have:=HJ170.out;have:=HK4.out;omega
                          case rel=>exact⟨(wrap64 (x300_4+1)),(by first | rfl|(simp;done)|(simp[*];done)),H',⟨by have:=HJ13.out;have:=HJ103.out;have:=HJ170.out;have:=HK4.out;omega⟩,⟨(a0_ HO_33.out)⟩,⟨(a29_ HO_298.out)⟩,⟨a1_⟩⟩
                         ·rw[if_neg c192]at H
                          have c192b0:(x300_4 == t748)=false:=beq_eq_false_iff_ne.mpr c192
                          have c192b1:(x300_4 != t748)=true:=bne_iff_ne.mpr c192
                          have H':=am_ H
                          clear H
                          have p751:0≤(x300_4:Int):=of_decide_eq_true (a12_)
                          have q751:x300_4<(t740.length:Int):=of_decide_eq_true (a12_)
                          obtain⟨ad751,A751_0,c751_0,e751,hx751_0,hl751_0,hi751_0⟩:=at_L3 (Kd.S_reads' HO_298.out).2.2 x300_4 p751 q751
                          cases e751
                          obtain⟨ce751,hce751,hMe751,hcc751⟩:=Kd.S_get HO_298.out [] x300_4 p751 ((a48_ HO_298.out))
                          obtain⟨ve751_0,rfl,ge751_0⟩:=hMe751
                          have hv751_0:=hcc751 0 _ rfl
                          rw[Nat.add_zero,show((Kd.slice 40 k40)).sz=1 from rfl,Nat.mul_one]at hv751_0
                          replace hv751_0:=Option.some.inj (hv751_0.symm.trans hx751_0)
                          rw[hv751_0]at ge751_0
                          have HL751_0:=am_ (show Kd.R k40 40 _ _ _ _ (rd_L3 t740 x300_4) from ge751_0)
                          clear hv751_0 ge751_0 hcc751 hce751
                          have HR751_0:=am_ hi751_0
                          have HC751_0:=am_ hl751_0
                          clear hi751_0 hl751_0
                          replace p751:=eq_true p751
                          replace q751:=eq_true q751
                          go_wp2_with (first|((with_reducible refine gate_callee (f:=9) rfl ?_);refine goesL_ (some 308) rfl rfl Tryz.func9 (by kernel_rfl) rfl #[.slice Ao173 t739.length co173, .slice A751_0 (rd_L3 t740 x300_4).length c751_0] rfl gd_ ?_;(with_reducible refine(impl_DistanceOf.calls k4 _ _ t739 _ _ (rd_L3 t740 x300_4) t752 true _ ?side1 ?side2 ?side3 ?side4 A185.out).mono ?_);(case side1=>exact(a8_ HO_33.out));(case side2=>exact(Kd.R_reads' HO_33.out).2.1);(case side3=>exact(a14_ HR751_0.out));(case side4=>exact HC751_0.out);rintro e w194 ⟨rfl,hb⟩;refine⟨_,rfl,?_⟩;replace HO_33:=am_ (Kd.R_below ((a0_ HO_33.out)) hb);replace HO_298:=am_ (Kd.S_below ((a29_ HO_298.out)) hb);replace HL751_0:=am_ (Kd.R_below ((a0_ HL751_0.out)) hb);replace HR751_0:=am_ (Kd.C_below ((a13_ HR751_0.out)) hb);replace HB:=am_ (below_step (a1_) hb);(try clear hb);(try clear hb2);(try clear hk);(try clear hi)))
                          go_roundg k4
                          case measure=>have:=HJ13.out;have:=HJ103.out;have:=HJ170.out;have:=HK4.out;omega
                          case rel=>exact⟨(wrap64 (x300_4+1)),(by first | rfl|(simp;done)|(simp[*];done)),H',⟨by have:=HJ13.out;have:=HJ103.out;have:=HJ170.out;have:=HK4.out;omega⟩,⟨(a0_ HO_33.out)⟩,⟨(a29_ HO_298.out)⟩,⟨a1_⟩⟩
                       ·rw[if_neg c189]at H
                        have c189b0:(t752 == t749)=false:=beq_eq_false_iff_ne.mpr c189
                        have c189b1:(t752 != t749)=true:=bne_iff_ne.mpr c189
                        by_cases c195:x300_4=t748
                        ·rw[if_pos c195]at H
                         have c195b0:(x300_4 == t748)=true:=beq_iff_eq.mpr c195
                         have c195b1:(x300_4 != t748)=false:=bne_eq_false_iff_eq.mpr c195
                         clear c195
                         exact absurd ((Option.some.inj H).trans HR_.out) (by decide)
                        ·rw[if_neg c195]at H
                         have c195b0:(x300_4 == t748)=false:=beq_eq_false_iff_ne.mpr c195
                         have c195b1:(x300_4 != t748)=true:=bne_iff_ne.mpr c195
                         have H':=am_ H
                         clear H
                         have p751:0≤(x300_4:Int):=of_decide_eq_true (a12_)
                         have q751:x300_4<(t740.length:Int):=of_decide_eq_true (a12_)
                         obtain⟨ad751,A751_0,c751_0,e751,hx751_0,hl751_0,hi751_0⟩:=at_L3 (Kd.S_reads' HO_298.out).2.2 x300_4 p751 q751
                         cases e751
                         obtain⟨ce751,hce751,hMe751,hcc751⟩:=Kd.S_get HO_298.out [] x300_4 p751 ((a48_ HO_298.out))
                         obtain⟨ve751_0,rfl,ge751_0⟩:=hMe751
                         have hv751_0:=hcc751 0 _ rfl
                         rw[Nat.add_zero,show((Kd.slice 40 k40)).sz=1 from rfl,Nat.mul_one]at hv751_0
                         replace hv751_0:=Option.some.inj (hv751_0.symm.trans hx751_0)
                         rw[hv751_0]at ge751_0
                         have HL751_0:=am_ (show Kd.R k40 40 _ _ _ _ (rd_L3 t740 x300_4) from ge751_0)
                         clear hv751_0 ge751_0 hcc751 hce751
                         have HR751_0:=am_ hi751_0
                         have HC751_0:=am_ hl751_0
                         clear hi751_0 hl751_0
                         replace p751:=eq_true p751
                         replace q751:=eq_true q751
                         go_wp2_with (first|((with_reducible refine gate_callee (f:=9) rfl ?_);refine goesL_ (some 308) rfl rfl Tryz.func9 (by kernel_rfl) rfl #[.slice Ao173 t739.length co173, .slice A751_0 (rd_L3 t740 x300_4).length c751_0] rfl gd_ ?_;(with_reducible refine(impl_DistanceOf.calls k4 _ _ t739 _ _ (rd_L3 t740 x300_4) t752 true _ ?side1 ?side2 ?side3 ?side4 A185.out).mono ?_);(case side1=>exact(a8_ HO_33.out));(case side2=>exact(Kd.R_reads' HO_33.out).2.1);(case side3=>exact(a14_ HR751_0.out));(case side4=>exact HC751_0.out);rintro e w197 ⟨rfl,hb⟩;refine⟨_,rfl,?_⟩;replace HO_33:=am_ (Kd.R_below ((a0_ HO_33.out)) hb);replace HO_298:=am_ (Kd.S_below ((a29_ HO_298.out)) hb);replace HL751_0:=am_ (Kd.R_below ((a0_ HL751_0.out)) hb);replace HR751_0:=am_ (Kd.C_below ((a13_ HR751_0.out)) hb);replace HB:=am_ (below_step (a1_) hb);(try clear hb);(try clear hb2);(try clear hk);(try clear hi)))
                         go_roundg k4
                         case measure=>have:=HJ13.out;have:=HJ103.out;have:=HJ170.out;have:=HK4.out;omega
                         case rel=>exact⟨(wrap64 (x300_4+1)),(by first | rfl|(simp;done)|(simp[*];done)),H',⟨by have:=HJ13.out;have:=HJ103.out;have:=HJ170.out;have:=HK4.out;omega⟩,⟨(a0_ HO_33.out)⟩,⟨(a29_ HO_298.out)⟩,⟨a1_⟩⟩
                     ·replace c186:=Bool.eq_false_iff.mpr c186
                      subst c186
                      replace H:(some false)=some r:=by rw[if_neg (show ¬(false=true) by decide)]at H;exact H
                      exact absurd ((Option.some.inj H).trans HR_.out) (by decide)
                    ·rw[if_neg c184]at H
                     exact absurd H (by simp)
                   ·rw[if_neg c183]at H
                    exact absurd H (by simp)
                  ·rw[if_neg c182]at H
                   have c182b0:decide (x300_4<(t740.length:Int))=false:=decide_eq_false c182
                   clear c182
                   (first|rw[c182b0]|(simp only[i64_w,i32_w];rw[c182b0]) | skip)
                   have H':=am_ H
                   clear H
                   go_wp2
                   all_goals
                    go_meet
                    case rel=>exact⟨_,H',⟨by have:=HJ13.out;have:=HJ103.out;have:=HJ170.out;have:=HK4.out;first | omega|exact Nat.le_refl _⟩,⟨a1_⟩⟩
               ·replace c181:=Bool.eq_false_iff.mpr c181
                subst c181
                replace H:(laws_FnDifferences.j6 kj170 l1)=some r:=by rw[if_neg (show ¬(false=true) by decide)]at H;exact H
                have H':=am_ H
                clear H
                go_wp2
                all_goals
                 go_meet
                 case rel=>exact⟨_,H',⟨by have:=HJ13.out;have:=HJ103.out;have:=HJ170.out;first | omega|exact Nat.le_refl _⟩,⟨a1_⟩⟩
             case rest=>
              as_aux_lemma=>
               clear HC180
               try clear c1
               try clear c2
               try clear p2
               try clear c3
               try clear c4
               try clear c5
               try clear c6
               try clear p6
               try clear c7
               try clear p7
               try clear q7
               try clear hx7
               try clear c8
               try clear c9
               try clear c10
               try clear c11
               try clear c12
               try clear c13
               try clear c14
               try clear c15
               try clear c16
               try clear c17
               try clear c18
               try clear c19
               try clear c20
               try clear c21
               try clear c26
               try clear c26b0
               try clear c26b1
               try clear c26b2
               try clear c28
               try clear c30
               try clear c31
               try clear c31b0
               try clear c31b1
               try clear c31b2
               try clear c36
               try clear c36b0
               try clear c36b1
               try clear c37
               try clear c37b0
               try clear c37b1
               try clear c37b2
               try clear c43
               try clear c44
               try clear c44b0
               try clear c44b1
               try clear c44b2
               try clear c52
               try clear c53
               try clear c53b0
               try clear c53b1
               try clear c53b2
               try clear c62
               try clear c62b0
               try clear c62b1
               try clear c62b2
               try clear p64
               try clear p73
               try clear q73
               try clear hx73
               try clear c75
               try clear p75
               try clear q75
               try clear hx75
               try clear c103
               try clear c105
               try clear c115
               try clear c117
               try clear c118
               try clear c120
               try clear c121
               try clear c122
               try clear c122b0
               try clear c122b1
               try clear c123
               try clear c123b0
               try clear c123b1
               try clear c124
               try clear c124b0
               try clear c124b1
               try clear c147
               try clear c148
               try clear c149
               try clear c157
               try clear c157b0
               try clear c158
               try clear c158b0
               try clear c159
               try clear c159b0
               try clear c161
               try clear c177
               try clear c177b0
               try clear c177b1
               try clear c177b2
               try clear c178
               try clear c178b0
               try clear c178b1
               try clear c179
               try clear c181
               try clear c182
               try clear c182b0
               try clear c183
               try clear c183b0
               try clear c184
               try clear c184b0
               try clear c186
               try clear c187
               try clear c187b0
               try clear c189
               try clear c189b0
               try clear c189b1
               try clear c190
               try clear c190b0
               try clear c192
               try clear c192b0
               try clear c192b1
               try clear c195
               try clear c195b0
               try clear c195b1
               try clear hcz163_0
               try clear hcz163_1
               try clear hcz163_2
               try clear hcz166_0
               try clear hcz166_1
               try clear hcz166_2
               try clear hfz163_0
               try clear hfz163_1
               try clear hfz163_2
               try clear hfz166_0
               try clear hfz166_1
               try clear hfz166_2
               try clear hx736_0
               try clear hx736_1
               try clear hx736_2
               try clear hx751_0
               try clear p2
               try clear p6
               try clear p64
               try clear p7
               try clear p73
               try clear p736
               try clear p751
               try clear q7
               try clear q73
               try clear q736
               try clear q751
               obtain⟨kq,HA,HJ179,HB⟩:=hcut
               cases kq with
               | zero=>exact absurd HA.out (by simp[laws_FnDifferences.j6])
               | succ kj179=>
                have H:=HA.out
                clear HA
                simp only[laws_FnDifferences.j6]at H
                obtain⟨⟨t754,t755,t756⟩,A199,H⟩:=bo_ H
                try dsimp only at H
                obtain⟨⟨t763,t764⟩,A200,H⟩:=bo_ H
                try dsimp only at H
                obtain⟨⟨t767,t768⟩,A201,H⟩:=bo_ H
                try dsimp only at H
                by_cases c202:(t764 == t768)=true
                ·rw[if_pos c202]at H
                 have c202b0:(t764 == t768)=true:=c202
                 (try(have c202b1:decide (t764=t768)=true:=by simpa using c202))
                 (try(have c202b2:(t764 == t768)=true:=by simpa using c202))
                 clear c202
                 obtain⟨t771,A203,H⟩:=bo_ H
                 try dsimp only at H
                 obtain rfl:=Option.some.inj H
                 go_wp2_with (first|((with_reducible refine gate_callee (f:=22) rfl ?_);refine goesL_ (some 341) rfl rfl Tryz.func22 (by kernel_rfl) rfl #[.slice A1 l1.length c1] rfl gd_ ?_;(with_reducible refine(spec_DrawApplyDifference.calls kj179 _ _ l1 t754 t755 t756 _ ?side1 ?side2 A199.out).mono ?_);(case side1=>exact(a6_ HR1.out));(case side2=>exact HC1.out);rintro e w204 ⟨v757,v759,v761,rfl,ho0,ho1,ho2,hb⟩;refine⟨_,rfl,?_⟩;have HO758:=am_ (Kd.R_lower (Kd.R_mono (ok':=fun _=>True) ho0 (fun _ _=>trivial)) (below_size (a1_)));have HO760:=am_ (Kd.R_lower (Kd.R_mono (ok':=fun _=>True) ho1 (fun _ _=>trivial)) (below_size (a1_)));have HO762:=am_ (Kd.R_lower (Kd.R_mono (ok':=fun _=>True) ho2 (fun _ _=>trivial)) (below_size (a1_)));replace HB:=am_ (below_step (a1_) hb);(try clear hb);(try clear hb2);(try clear hk);(try clear hi);(try clear ho0);(try clear ho1);(try clear ho2);obtain⟨Ao205,co205,eo205⟩:=Kd.R_slice HO758.out;subst eo205;obtain⟨Ao206,co206,eo206⟩:=Kd.R_slice HO760.out;subst eo206;obtain⟨Ao207,co207,eo207⟩:=Kd.R_slice HO762.out;subst eo207)|((with_reducible refine gate_callee (f:=17) rfl ?_);refine goesL_ (some 349) rfl rfl Tryz.func17 (by kernel_rfl) rfl #[.slice Ao205 t754.length co205, .slice Ao206 t755.length co206, .slice Ao207 t756.length co207] rfl gd_ ?_;(with_reducible refine(impl_ApplyDifference.calls kj179 _ _ t754 _ _ t755 _ _ t756 t763 t764 _ ?side1 ?side2 ?side3 ?side4 ?side5 ?side6 A200.out).mono ?_);(case side1=>exact(a8_ HO758.out));(case side2=>exact(Kd.R_reads' HO758.out).2.1);(case side3=>exact(a8_ HO760.out));(case side4=>exact(Kd.R_reads' HO760.out).2.1);(case side5=>exact(a8_ HO762.out));(case side6=>exact(Kd.R_reads' HO762.out).2.1);rintro e w208 ⟨v765,rfl,ho0,hb⟩;refine⟨_,rfl,?_⟩;replace HO758:=am_ (Kd.R_below ((a0_ HO758.out)) hb);replace HO760:=am_ (Kd.R_below ((a0_ HO760.out)) hb);replace HO762:=am_ (Kd.R_below ((a0_ HO762.out)) hb);have HO766:=am_ (Kd.R_lower ho0 (below_size (a1_)));replace HB:=am_ (below_step (a1_) hb);(try clear hb);(try clear hb2);(try clear hk);(try clear hi);(try clear ho0))|((with_reducible refine gate_callee (f:=23) rfl ?_);refine goesL_ (some 356) rfl rfl Tryz.func23 (by kernel_rfl) rfl #[.slice Ao205 t754.length co205, .slice Ao206 t755.length co206, .slice Ao207 t756.length co207] rfl gd_ ?_;(with_reducible refine(spec_ApplyDifference.calls kj179 _ _ t754 _ _ t755 _ _ t756 t767 t768 _ ?side1 ?side2 ?side3 ?side4 ?side5 ?side6 A201.out).mono ?_);(case side1=>exact(a8_ HO758.out));(case side2=>exact(Kd.R_reads' HO758.out).2.1);(case side3=>exact(a8_ HO760.out));(case side4=>exact(Kd.R_reads' HO760.out).2.1);(case side5=>exact(a8_ HO762.out));(case side6=>exact(Kd.R_reads' HO762.out).2.1);rintro e w209 ⟨v769,rfl,ho0,hb⟩;refine⟨_,rfl,?_⟩;replace HO758:=am_ (Kd.R_below ((a0_ HO758.out)) hb);replace HO760:=am_ (Kd.R_below ((a0_ HO760.out)) hb);replace HO762:=am_ (Kd.R_below ((a0_ HO762.out)) hb);replace HO766:=am_ (Kd.R_below ((a0_ HO766.out)) hb);have HO770:=am_ (Kd.R_lower ho0 (below_size (a1_)));replace HB:=am_ (below_step (a1_) hb);(try clear hb);(try clear hb2);(try clear hk);(try clear hi);(try clear ho0);obtain⟨Ao210,co210,eo210⟩:=Kd.R_slice HO766.out;subst eo210;obtain⟨Ao211,co211,eo211⟩:=Kd.R_slice HO770.out;subst eo211)|(go_at_call 15;(with_reducible refine(laws_pSameHoles.calls kj179 _ _ t763 _ _ t767 t771 _ ?side1 ?side2 ?side3 ?side4 A203.out).mono ?_);(case side1=>exact(a8_ HO766.out));(case side2=>exact(Kd.R_reads' HO766.out).2.1);(case side3=>exact(a8_ HO770.out));(case side4=>exact(Kd.R_reads' HO770.out).2.1);rintro e w' ⟨rfl,⟨nd,rfl⟩⟩))
                 go_ret
                 exact⟨a10_,a1_⟩
                ·rw[if_neg c202]at H
                 have c202b0:(t764 == t768)=false:=by simpa using c202
                 (try(have c202b1:decide (t764=t768)=false:=by simpa using c202))
                 (try(have c202b2:(t764 == t768)=false:=by simpa using c202))
                 (try(have c202b3:¬(t764=t768):=by simpa using c202))
                 clear c202
                 exact absurd ((Option.some.inj H).trans HR_.out) (by decide)
/-- THE ONE PURE STATEMENT of laws_FnDifferences: yours. -/
def laws_FnDifferences.Pure:Prop:= ∀(l0:List Int) (l1:List Int),l0.length≤maxLen→l0.length*1≤140737488351232→(∀x∈l0,(Lit.int .u8 x).wf=true)→l1.length≤maxLen→l1.length*1≤140737488351232→(∀x∈l1,(Lit.int .u8 x).wf=true)→∃k,laws_FnDifferences.f k l0 l1=some true
theorem laws_FnDifferences.walk (P:laws_FnDifferences.Pure) (a0:Option Addr) (len0 cap0:Nat) (z0:List Int) (a1:Option Addr) (len1 cap1:Nat) (z1:List Int) (w:World) (w0:(a0=none∧len0=0∧cap0=0∧z0 = [])∨∃x,a0=some x∧len0≤cap0∧cap0≤maxLen∧z0.length=cap0∧(∀i,i<z0.length→w.cell? (x.add i)=some (.int .u8 (z0.getD i 0)))∧∀n∈z0,(Lit.int .u8 n).wf=true) (y0:len0*1≤140737488351232) (w1:(a1=none∧len1=0∧cap1=0∧z1 = [])∨∃x,a1=some x∧len1≤cap1∧cap1≤maxLen∧z1.length=cap1∧(∀i,i<z1.length→w.cell? (x.add i)=some (.int .u8 (z1.getD i 0)))∧∀n∈z1,(Lit.int .u8 n).wf=true) (y1:len1*1≤140737488351232) :
 Calls Tryz.prog 3 #[.slice a0 len0 cap0, .slice a1 len1 cap1] w fun e w'=>e = .returned (.bool true)∧Below w.heap.size w w':=by
 obtain⟨l0,rfl,hr0,hm0,hw0,hc0⟩:=ReadsInt.ofRowC w0
 obtain⟨l1,rfl,hr1,hm1,hw1,hc1⟩:=ReadsInt.ofRowC w1
 obtain⟨k,h⟩:=P l0 l1 hm0 y0 hw0 hm1 y1 hw1
 refine(laws_FnDifferences.calls k _ _ l0 _ _ l1 true w (Kd.C_of_reads (d:=(0:Int)) (h1:=fun _=>rfl) hr0) hc0 (Kd.C_of_reads (d:=(0:Int)) (h1:=fun _=>rfl) hr1) hc1 h rfl).mono ?_
 rintro e w' ⟨rfl,hd⟩
 exact⟨rfl,hd⟩

end Go.Proofs.YtplpjmhmochcfaaGreat.QFnDifferences
