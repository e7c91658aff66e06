/- Written by a program of this session (the kit's printer, with leaf contracts proved by hand put in): what each Go function computes, and that the call computes it. No condition but those that each theorem names. -/
import Derived.Test.YtpbffmjjhmllbaaDoorQFnChecksumsx0
import Derived.Test.YtpbffmjjhmllbaaDoorQFnChecksumsx1
import Derived.Test.YtpbffmjjhmllbaaDoorQFnChecksumsx2
import Derived.Test.YtpbffmjjhmllbaaDoorQFnChecksumsx6
import Derived.Test.YtpbffmjjhmllbaaDoorQFnChecksumsx8
import Derived.Test.YtpbffmjjhmllbaaDoorQFnChecksumsx9
import Derived.Test.YtpbffmjjhmllbaaDoorQFnChecksumsx10
import Derived.Test.YtpbffmjjhmllbaaDoorQFnChecksumsx11
import Derived.Test.YtpbffmjjhmllbaaDoorQFnChecksumsx12
import Derived.Test.YtpbffmjjhmllbaaDoorQFnChecksumsx13
namespace Go.Proofs.YtpbffmjjhmllbaaDoor.QFnChecksums
open Go.RowKit Go.Proofs.YtpbffmjjhmllbaaDoorW.PrintWords Go.Proofs.YtpbffmjjhmllbaaDoorW.PrintLast Go.Proofs.YtpbffmjjhmllbaaDoorW.PrintMore
attribute [local go_sem] max2_int min2_int max_two min_two max_three min_three max_four min_four   -- for this text's walks alone
set_option linter.unusedVariables false
set_option linter.unusedSimpArgs false

attribute [local go_sem high] eqA33
/-! ### laws_FnChecksums: function 3 -/
mutual
def laws_FnChecksums.j0:Nat→List Int→List (S33)→Int→Bool→Int→List Int→List Int→Bool→Option (Bool)
 | 0,_,_,_,_,_,_,_,_=>none
 | k+1,x1,x5,x6,x7,x8,x10,x12,x107=>if x107=true then(some false) else(if x7=true then(laws_FnChecksums.l0 k x1 x5 x6 x8 x10 x12 1 x5 (x5.length:Int) 0) else(laws_FnChecksums.j6 k x1))
def laws_FnChecksums.j6:Nat→List Int→Option (Bool)
 | 0,_=>none
 | k+1,x1=>(spec_DrawDifferentTracks.f k x1).bind fun bt606=>((impl_DifferentTracks.f k bt606.1 bt606.2).bind fun bt612=>((spec_DifferentTracks.f k bt606.1 bt606.2).bind fun bt616=>((spec_DrawHoleOfNumber.f x1).bind fun t620=>((impl_HoleOfNumber.f t620).bind fun bt621=>((spec_HoleOfNumber.f t620).bind fun bt626=>((spec_DrawReadChecksum.f k x1).bind fun t631=>((impl_ReadChecksum.f k t631).bind fun bt632=>((spec_ReadChecksum.f k t631).bind fun bt634=>((spec_DrawChecksumText.f x1).bind fun t636=>((impl_ChecksumText.f t636).bind fun bt637=>((spec_ChecksumText.f k t636).bind fun bt639=>(if(bt612.2 == bt616.2)=true then((laws_sameInts.f k bt612.1 bt616.1).bind fun t641=>(if t641=true then(if(bt621.2.2.2 == bt626.2.2.2)=true then(if(bt621.1 == bt626.1 && (bt621.2.1 == bt626.2.1 && (bt621.2.2.1 == bt626.2.2.1)))=true then(if(bt632.2 == bt634.2)=true then(if bt632.1=bt634.1 then(if(bt637.2 == bt639.2)=true then(some (bt637.1.toList == bt639.1.toList)) else(some false)) else(some false)) else(some false)) else(some false)) else(some false)) else(some false))) else(some false)))))))))))))
def laws_FnChecksums.l0:Nat→List Int→List (S33)→Int→Int→List Int→List Int→Int→List (S33)→Int→Int→Option (Bool)
 | 0,_,_,_,_,_,_,_,_,_,_=>none
 | k+1,x1,x5,x6,x8,x10,x12,x14,x109,x110,x111=>if x111<x110 then(if 0≤x111 then(if x111<(x109.length:Int) then((impl_ExtendChecksum.f x14 ((rd_T33 x109 x111).f0) ((rd_T33 x109 x111).f1) ((rd_T33 x109 x111).f2)).bind fun bt582=>((spec_ExtendChecksum.f x14 ((rd_T33 x109 x111).f0) ((rd_T33 x109 x111).f1) ((rd_T33 x109 x111).f2)).bind fun bt584=>((impl_HoleNumber.f ((rd_T33 x109 x111).f0) ((rd_T33 x109 x111).f1) ((rd_T33 x109 x111).f2)).bind fun bt586=>((spec_HoleNumber.f ((rd_T33 x109 x111).f0) ((rd_T33 x109 x111).f1) ((rd_T33 x109 x111).f2)).bind fun bt588=>((impl_HoleOfNumber.f bt588.1).bind fun bt590=>(if bt582.2=true then(if bt584.2=true then(if bt582.1=bt584.1 then(if bt586.2=true then(if bt588.2=true then(if bt586.1=bt588.1 then(if bt590.2.2.2=true then(if(!(bt590.1 == ((rd_T33 x109 x111).f0)) || (!(bt590.2.1 == ((rd_T33 x109 x111).f1)) || (!(bt590.2.2.1 == ((rd_T33 x109 x111).f2)))))=true then(some false) else(laws_FnChecksums.l0 k x1 x5 x6 x8 x10 x12 bt584.1 x109 x110 (wrap64 (x111+1)))) else(some false)) else(some false)) else(some false)) else(some false)) else(some false)) else(some false)) else(some false))))))) else(none)) else(none)) else((impl_ChecksumText.f x6).bind fun bt595=>((impl_ReadChecksum.f k bt595.1).bind fun bt597=>((impl_DifferentTracks.f k x10 x10).bind fun bt599=>(if x14=x8 then(if bt595.2=true then(if(bt595.1.size:Int)=7 then(if bt597.2=true then(if bt597.1=x8 then(if bt599.2=true then(if(bt599.1.length:Int)>0 then(laws_FnChecksums.j2 k x1 x5 x12 true) else(laws_FnChecksums.j2 k x1 x5 x12 ((x12.length:Int) != 20))) else(laws_FnChecksums.j2 k x1 x5 x12 true)) else(laws_FnChecksums.j2 k x1 x5 x12 true)) else(laws_FnChecksums.j2 k x1 x5 x12 true)) else(laws_FnChecksums.j2 k x1 x5 x12 true)) else(laws_FnChecksums.j2 k x1 x5 x12 true)) else(laws_FnChecksums.j2 k x1 x5 x12 true)))))
def laws_FnChecksums.j2:Nat→List Int→List (S33)→List Int→Bool→Option (Bool)
 | 0,_,_,_,_=>none
 | k+1,x1,x5,x12,x227=>if x227=true then(some false) else(laws_FnChecksums.l1 k x1 x5 x12 (x12.length:Int) 0)
def laws_FnChecksums.l1:Nat→List Int→List (S33)→List Int→Int→Int→Option (Bool)
 | 0,_,_,_,_,_=>none
 | k+1,x1,x5,x228,x229,x230=>if x230<x229 then(if 0≤x230 then(if x230<(x228.length:Int) then(if(rd x228 x230)<0 then(laws_FnChecksums.j4 k x1 x5 x230 (rd x228 x230) x228 x229 x230 true) else(laws_FnChecksums.j4 k x1 x5 x230 (rd x228 x230) x228 x229 x230 (decide ((rd x228 x230)≥1000003)))) else(none)) else(none)) else(laws_FnChecksums.j6 k x1)
def laws_FnChecksums.j4:Nat→List Int→List (S33)→Int→Int→List Int→Int→Int→Bool→Option (Bool)
 | 0,_,_,_,_,_,_,_,_=>none
 | k+1,x1,x5,x33,x34,x228,x229,x230,x240=>if x240=true then(some false) else(laws_FnChecksums.l2 k x1 x5 x33 x34 false x228 x229 x230 x5 (x5.length:Int) 0)
def laws_FnChecksums.l2:Nat→List Int→List (S33)→Int→Int→Bool→List Int→Int→Int→List (S33)→Int→Int→Option (Bool)
 | 0,_,_,_,_,_,_,_,_,_,_,_=>none
 | k+1,x1,x5,x33,x34,x35,x228,x229,x230,x241,x242,x243=>if x243<x242 then(if 0≤x243 then(if x243<(x241.length:Int) then(if x35=true then(laws_FnChecksums.l2 k x1 x5 x33 x34 true x228 x229 x230 x241 x242 (wrap64 (x243+1))) else(laws_FnChecksums.l2 k x1 x5 x33 x34 (((rd_T33 x241 x243).f0) == x33) x228 x229 x230 x241 x242 (wrap64 (x243+1)))) else(none)) else(none)) else(if x35=true then(laws_FnChecksums.l1 k x1 x5 x228 x229 (wrap64 (x230+1))) else(if x34=1 then(laws_FnChecksums.l1 k x1 x5 x228 x229 (wrap64 (x230+1))) else(some false)))
end
def laws_FnChecksums.f (k:Nat) (l0:List Int) (l1:List Int):Option (Bool):=(laws_big.f l0 l1).bind fun t563=>(if t563=true then(some true) else((spec_DrawChecksumOf.f k l0).bind fun t564=>((impl_ChecksumOf.f k t564).bind fun bt567=>((spec_ChecksumOf.f k t564).bind fun bt569=>((impl_TrackChecksums.f k t564).bind fun bt571=>((spec_TrackChecksums.f k t564).bind fun bt575=>(if(bt567.2 != bt569.2)=true then(laws_FnChecksums.j0 k l1 t564 bt567.1 bt567.2 bt569.1 bt571.1 bt575.1 true) else(if bt567.1=bt569.1 then(if(bt571.2 != bt575.2)=true then(laws_FnChecksums.j0 k l1 t564 bt567.1 bt567.2 bt569.1 bt571.1 bt575.1 true) else((laws_sameInts.f k bt571.1 bt575.1).bind fun t579=>(if t579=true then(laws_FnChecksums.j0 k l1 t564 bt567.1 bt567.2 bt569.1 bt571.1 bt575.1 (bt571.2 != bt567.2)) else(laws_FnChecksums.j0 k l1 t564 bt567.1 bt567.2 bt569.1 bt571.1 bt575.1 true)))) else(laws_FnChecksums.j0 k l1 t564 bt567.1 bt567.2 bt569.1 bt571.1 bt575.1 true)))))))))
theorem laws_FnChecksums.mono_l:∀k,(∀y0 y1 y2 y3 y4 y5 y6 y7,LeO (laws_FnChecksums.j0 k y0 y1 y2 y3 y4 y5 y6 y7) (laws_FnChecksums.j0 (k+1) y0 y1 y2 y3 y4 y5 y6 y7))∧(∀y0,LeO (laws_FnChecksums.j6 k y0) (laws_FnChecksums.j6 (k+1) y0))∧(∀y0 y1 y2 y3 y4 y5 y6 y7 y8 y9,LeO (laws_FnChecksums.l0 k y0 y1 y2 y3 y4 y5 y6 y7 y8 y9) (laws_FnChecksums.l0 (k+1) y0 y1 y2 y3 y4 y5 y6 y7 y8 y9))∧(∀y0 y1 y2 y3,LeO (laws_FnChecksums.j2 k y0 y1 y2 y3) (laws_FnChecksums.j2 (k+1) y0 y1 y2 y3))∧(∀y0 y1 y2 y3 y4,LeO (laws_FnChecksums.l1 k y0 y1 y2 y3 y4) (laws_FnChecksums.l1 (k+1) y0 y1 y2 y3 y4))∧(∀y0 y1 y2 y3 y4 y5 y6 y7,LeO (laws_FnChecksums.j4 k y0 y1 y2 y3 y4 y5 y6 y7) (laws_FnChecksums.j4 (k+1) y0 y1 y2 y3 y4 y5 y6 y7))∧(∀y0 y1 y2 y3 y4 y5 y6 y7 y8 y9 y10,LeO (laws_FnChecksums.l2 k y0 y1 y2 y3 y4 y5 y6 y7 y8 y9 y10) (laws_FnChecksums.l2 (k+1) y0 y1 y2 y3 y4 y5 y6 y7 y8 y9 y10))
 | 0=>⟨fun _ _ _ _ _ _ _ _ r h=>by simp[laws_FnChecksums.j0]at h,fun _ r h=>by simp[laws_FnChecksums.j6]at h,fun _ _ _ _ _ _ _ _ _ _ r h=>by simp[laws_FnChecksums.l0]at h,fun _ _ _ _ r h=>by simp[laws_FnChecksums.j2]at h,fun _ _ _ _ _ r h=>by simp[laws_FnChecksums.l1]at h,fun _ _ _ _ _ _ _ _ r h=>by simp[laws_FnChecksums.j4]at h,fun _ _ _ _ _ _ _ _ _ _ _ r h=>by simp[laws_FnChecksums.l2]at h⟩
 | k+1=>by
  obtain⟨ih0,ih1,ih2,ih3,ih4,ih5,ih6⟩:=laws_FnChecksums.mono_l k
  refine⟨?_,?_,?_,?_,?_,?_,?_⟩
  intros
  unfold laws_FnChecksums.j0
  rotate_left
  intros
  unfold laws_FnChecksums.j6
  rotate_left
  intros
  unfold laws_FnChecksums.l0
  rotate_left
  intros
  unfold laws_FnChecksums.j2
  rotate_left
  intros
  unfold laws_FnChecksums.l1
  rotate_left
  intros
  unfold laws_FnChecksums.j4
  rotate_left
  intros
  unfold laws_FnChecksums.l2
  rotate_left
  all_goals repeat' first|(with_reducible first|exact ih0 _ _ _ _ _ _ _ _|exact ih1 _|exact ih2 _ _ _ _ _ _ _ _ _ _|exact ih3 _ _ _ _|exact ih4 _ _ _ _ _|exact ih5 _ _ _ _ _ _ _ _|exact ih6 _ _ _ _ _ _ _ _ _ _ _|exact impl_ChecksumOf.mono _ _|exact impl_DifferentTracks.mono _ _ _|exact impl_ReadChecksum.mono _ _|exact impl_TrackChecksums.mono _ _|exact laws_sameInts.mono _ _ _|exact spec_ChecksumOf.mono _ _|exact spec_ChecksumText.mono _ _|exact spec_DifferentTracks.mono _ _ _|exact spec_DrawChecksumOf.mono _ _|exact spec_DrawDifferentTracks.mono _ _|exact spec_DrawReadChecksum.mono _ _|exact spec_ReadChecksum.mono _ _|exact spec_TrackChecksums.mono _ _|exact LeO.refl _|exact LeO.none _|refine LeO.ite ?_ ?_|refine LeO.bind ?_ (fun _=>?_))|exact ih0 _ _ _ _ _ _ _ _|exact ih1 _|exact ih2 _ _ _ _ _ _ _ _ _ _|exact ih3 _ _ _ _|exact ih4 _ _ _ _ _|exact ih5 _ _ _ _ _ _ _ _|exact ih6 _ _ _ _ _ _ _ _ _ _ _|exact impl_ChecksumOf.mono _ _|exact impl_DifferentTracks.mono _ _ _|exact impl_ReadChecksum.mono _ _|exact impl_TrackChecksums.mono _ _|exact laws_sameInts.mono _ _ _|exact spec_ChecksumOf.mono _ _|exact spec_ChecksumText.mono _ _|exact spec_DifferentTracks.mono _ _ _|exact spec_DrawChecksumOf.mono _ _|exact spec_DrawDifferentTracks.mono _ _|exact spec_DrawReadChecksum.mono _ _|exact spec_ReadChecksum.mono _ _|exact spec_TrackChecksums.mono _ _|exact LeO.none _|refine LeO.ite ?_ ?_|refine LeO.bind ?_ (fun _=>?_)
theorem laws_FnChecksums.mono:∀a0 a1 k,LeO (laws_FnChecksums.f k a0 a1) (laws_FnChecksums.f (k+1) a0 a1):=by
 intro a0 a1 k
 obtain⟨ih0,ih1,ih2,ih3,ih4,ih5,ih6⟩:=laws_FnChecksums.mono_l k
 unfold laws_FnChecksums.f
 repeat' first
  |(with_reducible exact ih0 _ _ _ _ _ _ _ _)
  |(with_reducible exact ih1 _)
  |(with_reducible exact ih2 _ _ _ _ _ _ _ _ _ _)
  |(with_reducible exact ih3 _ _ _ _)
  |(with_reducible exact ih4 _ _ _ _ _)
  |(with_reducible exact ih5 _ _ _ _ _ _ _ _)
  |(with_reducible exact ih6 _ _ _ _ _ _ _ _ _ _ _)
  |(with_reducible exact impl_ChecksumOf.mono _ _)
  |(with_reducible exact impl_DifferentTracks.mono _ _ _)
  |(with_reducible exact impl_ReadChecksum.mono _ _)
  |(with_reducible exact impl_TrackChecksums.mono _ _)
  |(with_reducible exact laws_sameInts.mono _ _ _)
  |(with_reducible exact spec_ChecksumOf.mono _ _)
  |(with_reducible exact spec_ChecksumText.mono _ _)
  |(with_reducible exact spec_DifferentTracks.mono _ _ _)
  |(with_reducible exact spec_DrawChecksumOf.mono _ _)
  |(with_reducible exact spec_DrawDifferentTracks.mono _ _)
  |(with_reducible exact spec_DrawReadChecksum.mono _ _)
  |(with_reducible exact spec_ReadChecksum.mono _ _)
  |(with_reducible exact spec_TrackChecksums.mono _ _)
  |(with_reducible exact LeO.refl _)
  |(with_reducible exact LeO.none _)
  |(with_reducible refine LeO.ite ?_ ?_)
  |(with_reducible refine LeO.bind ?_ (fun _=>?_))
  |exact ih0 _ _ _ _ _ _ _ _
  |exact ih1 _
  |exact ih2 _ _ _ _ _ _ _ _ _ _
  |exact ih3 _ _ _ _
  |exact ih4 _ _ _ _ _
  |exact ih5 _ _ _ _ _ _ _ _
  |exact ih6 _ _ _ _ _ _ _ _ _ _ _
  |exact impl_ChecksumOf.mono _ _
  |exact impl_DifferentTracks.mono _ _ _
  |exact impl_ReadChecksum.mono _ _
  |exact impl_TrackChecksums.mono _ _
  |exact laws_sameInts.mono _ _ _
  |exact spec_ChecksumOf.mono _ _
  |exact spec_ChecksumText.mono _ _
  |exact spec_DifferentTracks.mono _ _ _
  |exact spec_DrawChecksumOf.mono _ _
  |exact spec_DrawDifferentTracks.mono _ _
  |exact spec_DrawReadChecksum.mono _ _
  |exact spec_ReadChecksum.mono _ _
  |exact spec_TrackChecksums.mono _ _
  |exact LeO.none _
   | refine LeO.ite ?_ ?_
   | refine LeO.bind ?_ (fun _=>?_)
theorem laws_FnChecksums.j0_true:∀ {k y0 y1 y2 y3 y4 y5 y6},laws_FnChecksums.j0 k y0 y1 y2 y3 y4 y5 y6 true=some true→False:=by
 intro k y0 y1 y2 y3 y4 y5 y6 h
 cases k with
 | zero=>simp only[laws_FnChecksums.j0]at h;cases h
 | succ k=>rw[laws_FnChecksums.j0,if_pos rfl]at h;cases h
theorem laws_FnChecksums.j2_true:∀ {k y0 y1 y2},laws_FnChecksums.j2 k y0 y1 y2 true=some true→False:=by
 intro k y0 y1 y2 h
 cases k with
 | zero=>simp only[laws_FnChecksums.j2]at h;cases h
 | succ k=>rw[laws_FnChecksums.j2,if_pos rfl]at h;cases h
theorem laws_FnChecksums.j4_true:∀ {k y0 y1 y2 y3 y4 y5 y6},laws_FnChecksums.j4 k y0 y1 y2 y3 y4 y5 y6 true=some true→False:=by
 intro k y0 y1 y2 y3 y4 y5 y6 h
 cases k with
 | zero=>simp only[laws_FnChecksums.j4]at h;cases h
 | succ k=>rw[laws_FnChecksums.j4,if_pos rfl]at h;cases h
set_option maxHeartbeats 8000000 in
set_option maxRecDepth 100000 in
theorem laws_FnChecksums.calls (k:Nat) (A0:Option Addr) (c0:Nat) (l0:List Int) (A1:Option Addr) (c1:Nat) (l1:List Int) (r:Bool) (w:World) (hr0:Kd.C (Kd.int .u8) w A0 l0.length l0) (hc0:l0.length≤c0) (hr1:Kd.C (Kd.int .u8) w A1 l1.length l1) (hc1:l1.length≤c1) (htab:DoorLib.Tab w) (h:laws_FnChecksums.f k l0 l1=some r) (hr_:r=true) :
 Calls Tryd.prog 3 #[.slice A0 l0.length c0, .slice A1 l1.length c1] w fun e w'=>e = .returned (.bool r)∧Below w.heap.size w w':=by
 have HR_:=am_ hr_
 clear hr_
 have hu33:=Tryd.underlying33
 have HT0:=am_ htab
 clear htab
 have HR0:=am_ hr0
 have HC0:=am_ hc0
 clear hr0 hc0
 have HR1:=am_ hr1
 have HC1:=am_ hc1
 clear hr1 hc1
 have HB:=am_ (Below.refl w.heap.size w)
 have H:((laws_big.f l0 l1).bind fun t563=>(if t563=true then(some true) else((spec_DrawChecksumOf.f k l0).bind fun t564=>((impl_ChecksumOf.f k t564).bind fun bt567=>((spec_ChecksumOf.f k t564).bind fun bt569=>((impl_TrackChecksums.f k t564).bind fun bt571=>((spec_TrackChecksums.f k t564).bind fun bt575=>(if(bt567.2 != bt569.2)=true then(laws_FnChecksums.j0 k l1 t564 bt567.1 bt567.2 bt569.1 bt571.1 bt575.1 true) else(if bt567.1=bt569.1 then(if(bt571.2 != bt575.2)=true then(laws_FnChecksums.j0 k l1 t564 bt567.1 bt567.2 bt569.1 bt571.1 bt575.1 true) else((laws_sameInts.f k bt571.1 bt575.1).bind fun t579=>(if t579=true then(laws_FnChecksums.j0 k l1 t564 bt567.1 bt567.2 bt569.1 bt571.1 bt575.1 (bt571.2 != bt567.2)) else(laws_FnChecksums.j0 k l1 t564 bt567.1 bt567.2 bt569.1 bt571.1 bt575.1 true)))) else(laws_FnChecksums.j0 k l1 t564 bt567.1 bt567.2 bt569.1 bt571.1 bt575.1 true))))))))))=some r:=h
 clear h
 obtain⟨t563,A3,H⟩:=bo_ H
 try dsimp only at H
 by_cases c4:t563=true
 ·subst c4
  replace H:(some true)=some r:=by rw[if_pos rfl]at H;exact H
  obtain rfl:=Option.some.inj H
  go_enter Tryd.func3,Tryd.ntmps3
  go_wp2_with (first|((with_reducible refine gate_callee (f:=5) rfl ?_);refine goesL_ (some 61) rfl rfl Tryd.func5 (by kernel_rfl) rfl #[.slice A0 l0.length c0, .slice A1 l1.length c1] rfl gd_ ?_;(with_reducible refine(laws_big.calls _ _ l0 _ _ l1 true _ ?side1 ?side2 ?side3 ?side4 A3.out).mono ?_);(case side1=>exact(a28_ HR0.out));(case side2=>exact HC0.out);(case side3=>exact(a28_ HR1.out));(case side4=>exact HC1.out);rintro e w' ⟨rfl,⟨nd,rfl⟩⟩;refine⟨_,rfl,?_⟩))
  go_ret
  exact⟨a8_,a0_⟩
 ·replace c4:=Bool.eq_false_iff.mpr c4
  subst c4
  replace H:((spec_DrawChecksumOf.f k l0).bind fun t564=>((impl_ChecksumOf.f k t564).bind fun bt567=>((spec_ChecksumOf.f k t564).bind fun bt569=>((impl_TrackChecksums.f k t564).bind fun bt571=>((spec_TrackChecksums.f k t564).bind fun bt575=>(if(bt567.2 != bt569.2)=true then(laws_FnChecksums.j0 k l1 t564 bt567.1 bt567.2 bt569.1 bt571.1 bt575.1 true) else(if bt567.1=bt569.1 then(if(bt571.2 != bt575.2)=true then(laws_FnChecksums.j0 k l1 t564 bt567.1 bt567.2 bt569.1 bt571.1 bt575.1 true) else((laws_sameInts.f k bt571.1 bt575.1).bind fun t579=>(if t579=true then(laws_FnChecksums.j0 k l1 t564 bt567.1 bt567.2 bt569.1 bt571.1 bt575.1 (bt571.2 != bt567.2)) else(laws_FnChecksums.j0 k l1 t564 bt567.1 bt567.2 bt569.1 bt571.1 bt575.1 true)))) else(laws_FnChecksums.j0 k l1 t564 bt567.1 bt567.2 bt569.1 bt571.1 bt575.1 true))))))))=some r:=by rw[if_neg (show ¬(false=true) by decide)]at H;exact H
  obtain⟨t564,A5,H⟩:=bo_ H
  try dsimp only at H
  obtain⟨⟨t567,t568⟩,A6,H⟩:=bo_ H
  try dsimp only at H
  obtain⟨⟨t569,t570⟩,A7,H⟩:=bo_ H
  try dsimp only at H
  obtain⟨⟨t571,t572⟩,A8,H⟩:=bo_ H
  try dsimp only at H
  obtain⟨⟨t575,t576⟩,A9,H⟩:=bo_ H
  try dsimp only at H
  have HC10:=am_ H
  clear H
  go_enter Tryd.func3,Tryd.ntmps3
  go_upto_region 8 with (first|((with_reducible refine gate_callee (f:=5) rfl ?_);refine goesL_ (some 61) rfl rfl Tryd.func5 (by kernel_rfl) rfl #[.slice A0 l0.length c0, .slice A1 l1.length c1] rfl gd_ ?_;(with_reducible refine(laws_big.calls _ _ l0 _ _ l1 false _ ?side1 ?side2 ?side3 ?side4 A3.out).mono ?_);(case side1=>exact(a28_ HR0.out));(case side2=>exact HC0.out);(case side3=>exact(a28_ HR1.out));(case side4=>exact HC1.out);rintro e w' ⟨rfl,⟨nd,rfl⟩⟩;refine⟨_,rfl,?_⟩)|((with_reducible refine gate_callee (f:=6) rfl ?_);refine goesL_ (some 63) rfl rfl Tryd.func6 (by kernel_rfl) rfl #[.slice A0 l0.length c0] rfl gd_ ?_;(with_reducible refine(spec_DrawChecksumOf.calls k _ _ l0 t564 _ ?side1 ?side2 A5.out).mono ?_);(case side1=>exact(a28_ HR0.out));(case side2=>exact HC0.out);rintro e w11 ⟨v565,rfl,ho0,hb⟩;refine⟨_,rfl,?_⟩;have HO566:=am_ (Kd.R_lower ho0 (below_size (a0_)));replace HB:=am_ (below_step (a0_) hb);(try clear hb);(try clear hb2);(try clear hk);(try clear hi);(try clear ho0);obtain⟨Ao12,co12,eo12⟩:=Kd.R_slice HO566.out;subst eo12)|((with_reducible refine gate_callee (f:=7) rfl ?_);refine goesL_ (some 66) rfl rfl Tryd.func7 (by kernel_rfl) rfl #[.slice Ao12 t564.length co12] rfl gd_ ?_;(with_reducible refine(impl_ChecksumOf.calls k _ _ t564 t567 t568 _ ?side1 ?side2 A6.out).mono ?_);(case side1=>exact(a12_ HO566.out));(case side2=>exact(Kd.R_reads' HO566.out).2.1);rintro e w13 ⟨rfl,hb⟩;refine⟨_,rfl,?_⟩;replace HO566:=am_ (Kd.R_below ((a1_ HO566.out)) hb);replace HB:=am_ (below_step (a0_) hb);(try clear hb);(try clear hb2);(try clear hk);(try clear hi))|((with_reducible refine gate_callee (f:=8) rfl ?_);refine goesL_ (some 71) rfl rfl Tryd.func8 (by kernel_rfl) rfl #[.slice Ao12 t564.length co12] rfl gd_ ?_;(with_reducible refine(spec_ChecksumOf.calls k _ _ t564 t569 t570 _ ?side1 ?side2 A7.out).mono ?_);(case side1=>exact(a12_ HO566.out));(case side2=>exact(Kd.R_reads' HO566.out).2.1);rintro e w14 ⟨rfl,hb⟩;refine⟨_,rfl,?_⟩;replace HO566:=am_ (Kd.R_below ((a1_ HO566.out)) hb);replace HB:=am_ (below_step (a0_) hb);(try clear hb);(try clear hb2);(try clear hk);(try clear hi))|((with_reducible refine gate_callee (f:=9) rfl ?_);refine goesL_ (some 76) rfl rfl Tryd.func9 (by kernel_rfl) rfl #[.slice Ao12 t564.length co12] rfl gd_ ?_;(with_reducible refine(impl_TrackChecksums.calls k _ _ t564 t571 t572 _ ?side1 ?side2 A8.out).mono ?_);(case side1=>exact(a12_ HO566.out));(case side2=>exact(Kd.R_reads' HO566.out).2.1);rintro e w15 ⟨v573,rfl,ho0,hb⟩;refine⟨_,rfl,?_⟩;replace HO566:=am_ (Kd.R_below ((a1_ HO566.out)) hb);have HO574:=am_ (Kd.R_lower ho0 (below_size (a0_)));replace HB:=am_ (below_step (a0_) hb);(try clear hb);(try clear hb2);(try clear hk);(try clear hi);(try clear ho0))|((with_reducible refine gate_callee (f:=10) rfl ?_);refine goesL_ (some 81) rfl rfl Tryd.func10 (by kernel_rfl) rfl #[.slice Ao12 t564.length co12] rfl gd_ ?_;(with_reducible refine(spec_TrackChecksums.calls k _ _ t564 t575 t576 _ ?side1 ?side2 A9.out).mono ?_);(case side1=>exact(a12_ HO566.out));(case side2=>exact(Kd.R_reads' HO566.out).2.1);rintro e w16 ⟨v577,rfl,ho0,hb⟩;refine⟨_,rfl,?_⟩;replace HO566:=am_ (Kd.R_below ((a1_ HO566.out)) hb);replace HO574:=am_ (Kd.R_below ((a1_ HO574.out)) hb);have HO578:=am_ (Kd.R_lower ho0 (below_size (a0_)));replace HB:=am_ (below_step (a0_) hb);(try clear hb);(try clear hb2);(try clear hk);(try clear hi);(try clear ho0)))
  (try simp only[Act.put,List.setIfInBounds_toArray,List.set_cons_zero,List.set_cons_succ])
  go_cut [107] (fun v107 wc=>∃(kq:Nat) (x107_9:Bool),v107 = .bool x107_9∧Aside0 (laws_FnChecksums.j0 kq l1 t564 t567 t568 t569 t571 t575 x107_9=some r)∧Aside0 (kq≤k)∧Aside0 (Kd.R k33 33 wc w.heap.size (fun _=>True) (.slice Ao12 t564.length co12) t564)∧Aside0 (Kd.R (Kd.int .i64) 3 wc w.heap.size (fun _=>True) v573 t571)∧Aside0 (Kd.R (Kd.int .i64) 3 wc w.heap.size (fun _=>True) v577 t575)∧Aside0 (Below w.heap.size w wc))
  case first=>
   as_aux_lemma=>
    have H:=HC10.out
    clear HC10
    by_cases c17:(t568 != t570)=true
    ·rw[if_pos c17]at H
     have c17b0:(t568 != t570)=true:=c17
     (try(have c17b1:decide (t568=t570)=false:=by simpa using c17))
     (try(have c17b2:(t568 == t570)=false:=by simpa using c17))
     (try(have c17b3:¬(t568=t570):=by simpa using c17))
     clear c17
     (first|rw[c17b0]|(simp only[i64_w,i32_w];rw[c17b0]) | skip)
     have H':=am_ H
     clear H
     go_wp2
     all_goals
      go_meet
      case rel=>exact⟨_,(true),(by first | rfl|(simp;done)|(simp[*];done)),H',⟨by first | omega|exact Nat.le_refl _⟩,⟨(a1_ HO566.out)⟩,⟨(a1_ HO574.out)⟩,⟨(a1_ HO578.out)⟩,⟨a0_⟩⟩
    ·rw[if_neg c17]at H
     have c17b0:(t568 != t570)=false:=by simpa using c17
     (try(have c17b1:decide (t568=t570)=true:=by simpa using c17))
     (try(have c17b2:(t568 == t570)=true:=by simpa using c17))
     clear c17
     (first|rw[c17b0]|(simp only[i64_w,i32_w];rw[c17b0]) | skip)
     by_cases c18:t567=t569
     ·rw[if_pos c18]at H
      have c18b0:(t567 == t569)=true:=beq_iff_eq.mpr c18
      have c18b1:(t567 != t569)=false:=bne_eq_false_iff_eq.mpr c18
      clear c18
      by_cases c19:(t572 != t576)=true
      ·rw[if_pos c19]at H
       have c19b0:(t572 != t576)=true:=c19
       (try(have c19b1:decide (t572=t576)=false:=by simpa using c19))
       (try(have c19b2:(t572 == t576)=false:=by simpa using c19))
       (try(have c19b3:¬(t572=t576):=by simpa using c19))
       clear c19
       have H':=am_ H
       clear H
       go_wp2
       all_goals
        go_meet
        case rel=>exact⟨_,(true),(by first | rfl|(simp;done)|(simp[*];done)),H',⟨by first | omega|exact Nat.le_refl _⟩,⟨(a1_ HO566.out)⟩,⟨(a1_ HO574.out)⟩,⟨(a1_ HO578.out)⟩,⟨a0_⟩⟩
      ·rw[if_neg c19]at H
       have c19b0:(t572 != t576)=false:=by simpa using c19
       (try(have c19b1:decide (t572=t576)=true:=by simpa using c19))
       (try(have c19b2:(t572 == t576)=true:=by simpa using c19))
       clear c19
       obtain⟨t579,A20,H⟩:=bo_ H
       try dsimp only at H
       by_cases c21:t579=true
       ·subst c21
        replace H:(laws_FnChecksums.j0 k l1 t564 t567 t568 t569 t571 t575 (t572 != t568))=some r:=by rw[if_pos rfl]at H;exact H
        have H':=am_ H
        clear H
        obtain⟨Ao22,co22,eo22⟩:=Kd.R_slice HO574.out
        subst eo22
        obtain⟨Ao23,co23,eo23⟩:=Kd.R_slice HO578.out
        subst eo23
        go_wp2_with (first|(go_at_call 11;(with_reducible refine(laws_sameInts.calls k _ _ t571 _ _ t575 true _ ?side1 ?side2 ?side3 ?side4 A20.out).mono ?_);(case side1=>exact(a12_ HO574.out));(case side2=>exact(Kd.R_reads' HO574.out).2.1);(case side3=>exact(a12_ HO578.out));(case side4=>exact(Kd.R_reads' HO578.out).2.1);rintro e w' ⟨rfl,⟨nd,rfl⟩⟩))
        all_goals
         go_meet
         case rel=>exact⟨_,((t572 != t568)),(by first | rfl|(simp;done)|(simp[*];done)),H',⟨by first | omega|exact Nat.le_refl _⟩,⟨(a1_ HO566.out)⟩,⟨(a1_ HO574.out)⟩,⟨(a1_ HO578.out)⟩,⟨a0_⟩⟩
       ·replace c21:=Bool.eq_false_iff.mpr c21
        subst c21
        replace H:(laws_FnChecksums.j0 k l1 t564 t567 t568 t569 t571 t575 true)=some r:=by rw[if_neg (show ¬(false=true) by decide)]at H;exact H
        exact(laws_FnChecksums.j0_true (H.trans (congrArg some HR_.out))).elim
     ·rw[if_neg c18]at H
      have c18b0:(t567 == t569)=false:=beq_eq_false_iff_ne.mpr c18
      have c18b1:(t567 != t569)=true:=bne_iff_ne.mpr c18
      have H':=am_ H
      clear H
      go_wp2
      all_goals
       go_meet
       case rel=>exact⟨_,(true),(by first | rfl|(simp;done)|(simp[*];done)),H',⟨by first | omega|exact Nat.le_refl _⟩,⟨(a1_ HO566.out)⟩,⟨(a1_ HO574.out)⟩,⟨(a1_ HO578.out)⟩,⟨a0_⟩⟩
  case rest=>
   as_aux_lemma=>
    clear HC10
    try clear c1
    try clear c2
    try clear p2
    try clear c3
    try clear c4
    try clear c5
    try clear c6
    try clear c7
    try clear c8
    try clear c9
    try clear c10
    try clear c17
    try clear c17b0
    try clear c17b1
    try clear c17b2
    try clear c18
    try clear c18b0
    try clear c18b1
    try clear c19
    try clear c19b0
    try clear c19b1
    try clear c19b2
    try clear c21
    obtain⟨kq,x107_9,rfl,HA,HJ9,HO_5,HO_10,HO_12,HB⟩:=hcut
    cases kq with
    | zero=>exact absurd HA.out (by simp[laws_FnChecksums.j0])
    | succ kj9=>
     have H:=HA.out
     clear HA
     simp only[laws_FnChecksums.j0]at H
     by_cases c26:x107_9=true
     ·subst c26
      replace H:(some false)=some r:=by rw[if_pos rfl]at H;exact H
      exact absurd ((Option.some.inj H).trans HR_.out) (by decide)
     ·replace c26:=Bool.eq_false_iff.mpr c26
      subst c26
      replace H:(if t568=true then(laws_FnChecksums.l0 kj9 l1 t564 t567 t569 t571 t575 1 t564 (t564.length:Int) 0) else(laws_FnChecksums.j6 kj9 l1))=some r:=by rw[if_neg (show ¬(false=true) by decide)]at H;exact H
      have HC27:=am_ H
      clear H
      go_upto_if 108 with (fail)
      go_cut [] (fun wc=>∃(kq:Nat),Aside0 (laws_FnChecksums.j6 kq l1=some r)∧Aside0 (kq≤kj9)∧Aside0 (Below w.heap.size w wc))
      case first=>
       as_aux_lemma=>
        have H:=HC27.out
        clear HC27
        by_cases c28:t568=true
        ·subst c28
         replace H:(laws_FnChecksums.l0 kj9 l1 t564 t567 t569 t571 t575 1 t564 (t564.length:Int) 0)=some r:=by rw[if_pos rfl]at H;exact H
         have H':=am_ H
         clear H
         go_wp2
         (try simp only[Act.put,List.setIfInBounds_toArray,List.set_cons_zero,List.set_cons_succ])
         go_loopg [14,111] kj9 (fun kq v14 v111 w'=>∃(x14_2:Int) (x111_2:Int),v14 = .int .i64 x14_2∧v111 = .int .i64 x111_2∧Aside0 (laws_FnChecksums.l0 kq l1 t564 t567 t569 t571 t575 x14_2 t564 (t564.length:Int) x111_2=some r)∧Aside0 (kq≤kj9)∧Aside0 (Kd.R k33 33 w' w.heap.size (fun _=>True) (.slice Ao12 t564.length co12) t564)∧Aside0 (Kd.R (Kd.int .i64) 3 w' w.heap.size (fun _=>True) v573 t571)∧Aside0 (Kd.R (Kd.int .i64) 3 w' w.heap.size (fun _=>True) v577 t575)∧Aside0 (Kd.R k33 33 w' w.heap.size (fun _=>True) (.slice Ao12 t564.length co12) t564)∧Aside0 (Below w.heap.size w w'))
         case atStart=>exact⟨(1),(0),(by first | rfl|(simp;done)|(simp[*];done)),(by first | rfl|(simp;done)|(simp[*];done)),H',⟨Nat.le_refl _⟩,⟨(a1_ HO_5.out)⟩,⟨(a1_ HO_10.out)⟩,⟨(a1_ HO_12.out)⟩,⟨(a1_ HO_5.out)⟩,⟨a0_⟩⟩
         case round=>
          clear H'
          try clear c1
          try clear c2
          try clear p2
          try clear c3
          try clear c4
          try clear c5
          try clear c6
          try clear c7
          try clear c8
          try clear c9
          try clear c10
          try clear c17
          try clear c17b0
          try clear c17b1
          try clear c17b2
          try clear c18
          try clear c18b0
          try clear c18b1
          try clear c19
          try clear c19b0
          try clear c19b1
          try clear c19b2
          try clear c21
          try clear c26
          try clear c28
          try clear p2
          obtain⟨x14_2,x111_2,rfl,rfl,HA,HK2,HO_5,HO_10,HO_12,HO_109,HB⟩:=hrel
          cases gk with
          | zero=>exact absurd HA.out (by simp[laws_FnChecksums.l0])
          | succ k2=>
           have H:=HA.out
           clear HA
           simp only[laws_FnChecksums.l0]at H
           by_cases c29:x111_2<(t564.length:Int)
           ·rw[if_pos c29]at H
            have c29b0:decide (x111_2<(t564.length:Int))=true:=decide_eq_true c29
            clear c29
            (first|rw[c29b0]|(simp only[i64_w,i32_w];rw[c29b0]) | skip)
            by_cases c30:0≤x111_2
            ·rw[if_pos c30]at H
             have c30b0:decide (0≤x111_2)=true:=decide_eq_true c30
             clear c30
             by_cases c31:x111_2<(t564.length:Int)
             ·rw[if_pos c31]at H
              have c31b0:decide (x111_2<(t564.length:Int))=true:=decide_eq_true c31
              clear c31
              obtain⟨⟨t582,t583⟩,A32,H⟩:=bo_ H
              try dsimp only at H
              obtain⟨⟨t584,t585⟩,A33,H⟩:=bo_ H
              try dsimp only at H
              obtain⟨⟨t586,t587⟩,A34,H⟩:=bo_ H
              try dsimp only at H
              obtain⟨⟨t588,t589⟩,A35,H⟩:=bo_ H
              try dsimp only at H
              obtain⟨⟨t590,t591,t592,t593⟩,A36,H⟩:=bo_ H
              try dsimp only at H
              by_cases c37:t583=true
              ·subst c37
               replace H:(if t585=true then(if t582=t584 then(if t587=true then(if t589=true then(if t586=t588 then(if t593=true then(if(!(t590 == ((rd_T33 t564 x111_2).f0)) || (!(t591 == ((rd_T33 t564 x111_2).f1)) || (!(t592 == ((rd_T33 t564 x111_2).f2)))))=true then(some false) else(laws_FnChecksums.l0 k2 l1 t564 t567 t569 t571 t575 t584 t564 (t564.length:Int) (wrap64 (x111_2+1)))) else(some false)) else(some false)) else(some false)) else(some false)) else(some false)) else(some false))=some r:=by rw[if_pos rfl]at H;exact H
               by_cases c38:t585=true
               ·subst c38
                replace H:(if t582=t584 then(if t587=true then(if t589=true then(if t586=t588 then(if t593=true then(if(!(t590 == ((rd_T33 t564 x111_2).f0)) || (!(t591 == ((rd_T33 t564 x111_2).f1)) || (!(t592 == ((rd_T33 t564 x111_2).f2)))))=true then(some false) else(laws_FnChecksums.l0 k2 l1 t564 t567 t569 t571 t575 t584 t564 (t564.length:Int) (wrap64 (x111_2+1)))) else(some false)) else(some false)) else(some false)) else(some false)) else(some false))=some r:=by rw[if_pos rfl]at H;exact H
                by_cases c39:t582=t584
                ·rw[if_pos c39]at H
                 have c39b0:(t582 == t584)=true:=beq_iff_eq.mpr c39
                 have c39b1:(t582 != t584)=false:=bne_eq_false_iff_eq.mpr c39
                 clear c39
                 by_cases c40:t587=true
                 ·subst c40
                  replace H:(if t589=true then(if t586=t588 then(if t593=true then(if(!(t590 == ((rd_T33 t564 x111_2).f0)) || (!(t591 == ((rd_T33 t564 x111_2).f1)) || (!(t592 == ((rd_T33 t564 x111_2).f2)))))=true then(some false) else(laws_FnChecksums.l0 k2 l1 t564 t567 t569 t571 t575 t584 t564 (t564.length:Int) (wrap64 (x111_2+1)))) else(some false)) else(some false)) else(some false))=some r:=by rw[if_pos rfl]at H;exact H
                  by_cases c41:t589=true
                  ·subst c41
                   replace H:(if t586=t588 then(if t593=true then(if(!(t590 == ((rd_T33 t564 x111_2).f0)) || (!(t591 == ((rd_T33 t564 x111_2).f1)) || (!(t592 == ((rd_T33 t564 x111_2).f2)))))=true then(some false) else(laws_FnChecksums.l0 k2 l1 t564 t567 t569 t571 t575 t584 t564 (t564.length:Int) (wrap64 (x111_2+1)))) else(some false)) else(some false))=some r:=by rw[if_pos rfl]at H;exact H
                   by_cases c42:t586=t588
                   ·rw[if_pos c42]at H
                    have c42b0:(t586 == t588)=true:=beq_iff_eq.mpr c42
                    have c42b1:(t586 != t588)=false:=bne_eq_false_iff_eq.mpr c42
                    clear c42
                    by_cases c43:t593=true
                    ·subst c43
                     replace H:(if(!(t590 == ((rd_T33 t564 x111_2).f0)) || (!(t591 == ((rd_T33 t564 x111_2).f1)) || (!(t592 == ((rd_T33 t564 x111_2).f2)))))=true then(some false) else(laws_FnChecksums.l0 k2 l1 t564 t567 t569 t571 t575 t584 t564 (t564.length:Int) (wrap64 (x111_2+1))))=some r:=by rw[if_pos rfl]at H;exact H
                     by_cases c44:(!(t590 == ((rd_T33 t564 x111_2).f0)) || (!(t591 == ((rd_T33 t564 x111_2).f1)) || (!(t592 == ((rd_T33 t564 x111_2).f2)))))=true
                     ·rw[if_pos c44]at H
                      have c44b0:(!(t590 == ((rd_T33 t564 x111_2).f0)) || (!(t591 == ((rd_T33 t564 x111_2).f1)) || (!(t592 == ((rd_T33 t564 x111_2).f2)))))=true:=c44
                      clear c44
                      exact absurd ((Option.some.inj H).trans HR_.out) (by decide)
                     ·rw[if_neg c44]at H
                      have c44b0:(!(t590 == ((rd_T33 t564 x111_2).f0)) || (!(t591 == ((rd_T33 t564 x111_2).f1)) || (!(t592 == ((rd_T33 t564 x111_2).f2)))))=false:=by simpa using c44
                      clear c44
                      have H':=am_ H
                      clear H
                      have p580:0≤(x111_2:Int):=of_decide_eq_true (a10_)
                      have q580:x111_2<(t564.length:Int):=of_decide_eq_true (a10_)
                      obtain⟨ad580,e580,hx580_0,hx580_1,hx580_2⟩:=at_T33 (Kd.R_reads' HO_109.out).2.2 x111_2 p580 q580
                      cases e580
                      replace p580:=eq_true p580
                      replace q580:=eq_true q580
                      go_wp2_with (first|((with_reducible refine gate_dst (N:=16) rfl ?_);(try(refine gate_guard (by rfl) ?_;dsimp only));refine box_event ?hg (N:=16) ?hd (cs:= #[.int .i64 0, .int .i64 0, .int .i64 0]) (t:=33) ?hr ?_;(case hd=>rfl);(case hg=>rfl);(case hr=>exact hr_);intro gb581 hg w59 hbox hb;replace HO_5:=am_ (Kd.R_below (Kd.R_elderB ((a1_ HO_5.out)) gb581 (Nat.le_of_eq hg.symm)) hb);replace HO_10:=am_ (Kd.R_below ((a1_ HO_10.out)) hb);replace HO_12:=am_ (Kd.R_below ((a1_ HO_12.out)) hb);replace HO_109:=am_ (Kd.R_below (Kd.R_elderB ((a1_ HO_109.out)) gb581 (Nat.le_of_eq hg.symm)) hb);have BK581:=am_ (hbox);have GW581:=am_ ((by rw[hg];exact(below_size (a0_)):w.heap.size≤gb581));have GE581:=am_ ((by rw[hg];exact(below_size (a0_)):w.heap.size≤gb581));replace HB:=am_ (below_step (a0_) hb);clear hb hbox hg;have hcz60_0:w59.cell? ⟨gb581,0,none⟩=some (.int .i64 0):=(blk_cell BK581.out 0).trans rfl;have hcz60_1:w59.cell? ⟨gb581,1,none⟩=some (.int .i64 0):=(blk_cell BK581.out 1).trans rfl;have hcz60_2:w59.cell? ⟨gb581,2,none⟩=some (.int .i64 0):=(blk_cell BK581.out 2).trans rfl;have hfz60_0:=blk_frozen BK581.out 0;have hfz60_1:=blk_frozen BK581.out 1;have hfz60_2:=blk_frozen BK581.out 2)|((with_reducible refine gate_callee (f:=12) rfl ?_);refine goesL_ (some 118) rfl rfl Tryd.func12 (by kernel_rfl) rfl #[.int .i64 x14_2, .agg #[.int .i64 ((rd_T33 t564 x111_2).f0), .int .i64 ((rd_T33 t564 x111_2).f1), .int .i64 ((rd_T33 t564 x111_2).f2)]] rfl gd_ ?_;(with_reducible refine(impl_ExtendChecksum.calls x14_2 ((rd_T33 t564 x111_2).f0) ((rd_T33 t564 x111_2).f1) ((rd_T33 t564 x111_2).f2) t582 true _ A32.out).mono ?_);rintro e w61 ⟨rfl,hb⟩;refine⟨_,rfl,?_⟩;replace HO_5:=am_ (Kd.R_below ((a40_ HO_5.out)) hb);replace HO_10:=am_ (Kd.R_below ((a42_ HO_10.out BK581.out)) hb);replace HO_12:=am_ (Kd.R_below ((a42_ HO_12.out BK581.out)) hb);replace HO_109:=am_ (Kd.R_below ((a40_ HO_109.out)) hb);replace BK581:=am_ (blk_below (g:=gb581) (o:= .cells #[.int .i64 ((rd_T33 t564 x111_2).f0), .int .i64 ((rd_T33 t564 x111_2).f1), .int .i64 ((rd_T33 t564 x111_2).f2)] 33 (0,0)) (by(with_reducible repeat (first|refine blk_drewN ?_ _ | refine blk_drew ?_ | refine blk_alloc ?_ _));refine blk_put (cs:= #[.int .i64 ((rd_T33 t564 x111_2).f0), .int .i64 ((rd_T33 t564 x111_2).f1), .int .i64 0]) ?_ 2 _ rfl;(with_reducible repeat (first|refine blk_drewN ?_ _ | refine blk_drew ?_ | refine blk_alloc ?_ _));refine blk_put (cs:= #[.int .i64 ((rd_T33 t564 x111_2).f0), .int .i64 0, .int .i64 0]) ?_ 1 _ rfl;(with_reducible repeat (first|refine blk_drewN ?_ _ | refine blk_drew ?_ | refine blk_alloc ?_ _));refine blk_put (cs:= #[.int .i64 0, .int .i64 0, .int .i64 0]) ?_ 0 _ rfl;(with_reducible repeat (first|refine blk_drewN ?_ _ | refine blk_drew ?_ | refine blk_alloc ?_ _));exact BK581.out) hb);replace HB:=am_ (below_step ((a3_ GE581.out)) hb);(try clear hb);(try clear hb2);(try clear hk);(try clear hi);have hcz62_0:w61.cell? ⟨gb581,0,none⟩=some (.int .i64 ((rd_T33 t564 x111_2).f0)):=(blk_cell BK581.out 0).trans rfl;have hcz62_1:w61.cell? ⟨gb581,1,none⟩=some (.int .i64 ((rd_T33 t564 x111_2).f1)):=(blk_cell BK581.out 1).trans rfl;have hcz62_2:w61.cell? ⟨gb581,2,none⟩=some (.int .i64 ((rd_T33 t564 x111_2).f2)):=(blk_cell BK581.out 2).trans rfl;have hfz62_0:=blk_frozen BK581.out 0;have hfz62_1:=blk_frozen BK581.out 1;have hfz62_2:=blk_frozen BK581.out 2)|((with_reducible refine gate_callee (f:=13) rfl ?_);refine goesL_ (some 124) rfl rfl Tryd.func13 (by kernel_rfl) rfl #[.int .i64 x14_2, .agg #[.int .i64 ((rd_T33 t564 x111_2).f0), .int .i64 ((rd_T33 t564 x111_2).f1), .int .i64 ((rd_T33 t564 x111_2).f2)]] rfl gd_ ?_;(with_reducible refine(spec_ExtendChecksum.calls x14_2 ((rd_T33 t564 x111_2).f0) ((rd_T33 t564 x111_2).f1) ((rd_T33 t564 x111_2).f2) t584 true _ A33.out).mono ?_);rintro e w63 ⟨rfl,hb⟩;refine⟨_,rfl,?_⟩;replace HO_5:=am_ (Kd.R_below ((a1_ HO_5.out)) hb);replace HO_10:=am_ (Kd.R_below ((a1_ HO_10.out)) hb);replace HO_12:=am_ (Kd.R_below ((a1_ HO_12.out)) hb);replace HO_109:=am_ (Kd.R_below ((a1_ HO_109.out)) hb);replace BK581:=am_ (blk_below (g:=gb581) (o:= .cells #[.int .i64 ((rd_T33 t564 x111_2).f0), .int .i64 ((rd_T33 t564 x111_2).f1), .int .i64 ((rd_T33 t564 x111_2).f2)] 33 (0,0)) ((a5_ BK581.out)) hb);replace HB:=am_ (below_step ((a3_ GE581.out)) hb);(try clear hb);(try clear hb2);(try clear hk);(try clear hi);have hcz64_0:w63.cell? ⟨gb581,0,none⟩=some (.int .i64 ((rd_T33 t564 x111_2).f0)):=(blk_cell BK581.out 0).trans rfl;have hcz64_1:w63.cell? ⟨gb581,1,none⟩=some (.int .i64 ((rd_T33 t564 x111_2).f1)):=(blk_cell BK581.out 1).trans rfl;have hcz64_2:w63.cell? ⟨gb581,2,none⟩=some (.int .i64 ((rd_T33 t564 x111_2).f2)):=(blk_cell BK581.out 2).trans rfl;have hfz64_0:=blk_frozen BK581.out 0;have hfz64_1:=blk_frozen BK581.out 1;have hfz64_2:=blk_frozen BK581.out 2)|((with_reducible refine gate_callee (f:=14) rfl ?_);refine goesL_ (some 129) rfl rfl Tryd.func14 (by kernel_rfl) rfl #[.agg #[.int .i64 ((rd_T33 t564 x111_2).f0), .int .i64 ((rd_T33 t564 x111_2).f1), .int .i64 ((rd_T33 t564 x111_2).f2)]] rfl gd_ ?_;(with_reducible refine(impl_HoleNumber.calls ((rd_T33 t564 x111_2).f0) ((rd_T33 t564 x111_2).f1) ((rd_T33 t564 x111_2).f2) t586 true _ A34.out).mono ?_);rintro e w65 ⟨rfl,hb⟩;refine⟨_,rfl,?_⟩;replace HO_5:=am_ (Kd.R_below ((a1_ HO_5.out)) hb);replace HO_10:=am_ (Kd.R_below ((a1_ HO_10.out)) hb);replace HO_12:=am_ (Kd.R_below ((a1_ HO_12.out)) hb);replace HO_109:=am_ (Kd.R_below ((a1_ HO_109.out)) hb);replace BK581:=am_ (blk_below (g:=gb581) (o:= .cells #[.int .i64 ((rd_T33 t564 x111_2).f0), .int .i64 ((rd_T33 t564 x111_2).f1), .int .i64 ((rd_T33 t564 x111_2).f2)] 33 (0,0)) ((a5_ BK581.out)) hb);replace HB:=am_ (below_step ((a3_ GE581.out)) hb);(try clear hb);(try clear hb2);(try clear hk);(try clear hi);have hcz66_0:w65.cell? ⟨gb581,0,none⟩=some (.int .i64 ((rd_T33 t564 x111_2).f0)):=(blk_cell BK581.out 0).trans rfl;have hcz66_1:w65.cell? ⟨gb581,1,none⟩=some (.int .i64 ((rd_T33 t564 x111_2).f1)):=(blk_cell BK581.out 1).trans rfl;have hcz66_2:w65.cell? ⟨gb581,2,none⟩=some (.int .i64 ((rd_T33 t564 x111_2).f2)):=(blk_cell BK581.out 2).trans rfl;have hfz66_0:=blk_frozen BK581.out 0;have hfz66_1:=blk_frozen BK581.out 1;have hfz66_2:=blk_frozen BK581.out 2)|((with_reducible refine gate_callee (f:=15) rfl ?_);refine goesL_ (some 134) rfl rfl Tryd.func15 (by kernel_rfl) rfl #[.agg #[.int .i64 ((rd_T33 t564 x111_2).f0), .int .i64 ((rd_T33 t564 x111_2).f1), .int .i64 ((rd_T33 t564 x111_2).f2)]] rfl gd_ ?_;(with_reducible refine(spec_HoleNumber.calls ((rd_T33 t564 x111_2).f0) ((rd_T33 t564 x111_2).f1) ((rd_T33 t564 x111_2).f2) t588 true _ A35.out).mono ?_);rintro e w67 ⟨rfl,hb⟩;refine⟨_,rfl,?_⟩;replace HO_5:=am_ (Kd.R_below ((a1_ HO_5.out)) hb);replace HO_10:=am_ (Kd.R_below ((a1_ HO_10.out)) hb);replace HO_12:=am_ (Kd.R_below ((a1_ HO_12.out)) hb);replace HO_109:=am_ (Kd.R_below ((a1_ HO_109.out)) hb);replace BK581:=am_ (blk_below (g:=gb581) (o:= .cells #[.int .i64 ((rd_T33 t564 x111_2).f0), .int .i64 ((rd_T33 t564 x111_2).f1), .int .i64 ((rd_T33 t564 x111_2).f2)] 33 (0,0)) ((a5_ BK581.out)) hb);replace HB:=am_ (below_step ((a3_ GE581.out)) hb);(try clear hb);(try clear hb2);(try clear hk);(try clear hi))|((with_reducible refine gate_callee (f:=16) rfl ?_);refine goesL_ (some 139) rfl rfl Tryd.func16 (by kernel_rfl) rfl #[.int .i64 t588] rfl gd_ ?_;(with_reducible refine(impl_HoleOfNumber.calls t588 t590 t591 t592 true _ A36.out).mono ?_);rintro e w68 ⟨rfl,hb⟩;refine⟨_,rfl,?_⟩;replace HO_5:=am_ (Kd.R_below ((a1_ HO_5.out)) hb);replace HO_10:=am_ (Kd.R_below ((a1_ HO_10.out)) hb);replace HO_12:=am_ (Kd.R_below ((a1_ HO_12.out)) hb);replace HO_109:=am_ (Kd.R_below ((a1_ HO_109.out)) hb);replace BK581:=am_ (blk_below (g:=gb581) (o:= .cells #[.int .i64 ((rd_T33 t564 x111_2).f0), .int .i64 ((rd_T33 t564 x111_2).f1), .int .i64 ((rd_T33 t564 x111_2).f2)] 33 (0,0)) ((a5_ BK581.out)) hb);replace HB:=am_ (below_step ((a3_ GE581.out)) hb);(try clear hb);(try clear hb2);(try clear hk);(try clear hi))|((with_reducible refine gate_dst (N:=25) rfl ?_);(try(refine gate_guard (by rfl) ?_;dsimp only));refine box_event ?hg (N:=25) ?hd (cs:= #[.int .i64 0, .int .i64 0, .int .i64 0]) (t:=33) ?hr ?_;(case hd=>rfl);(case hg=>rfl);(case hr=>exact hr_);intro gb594 hg w69 hbox hb;replace HO_5:=am_ (Kd.R_below (Kd.R_elderB ((a1_ HO_5.out)) gb594 (Nat.le_of_eq hg.symm)) hb);replace HO_10:=am_ (Kd.R_below ((a1_ HO_10.out)) hb);replace HO_12:=am_ (Kd.R_below ((a1_ HO_12.out)) hb);replace HO_109:=am_ (Kd.R_below (Kd.R_elderB ((a1_ HO_109.out)) gb594 (Nat.le_of_eq hg.symm)) hb);have BK594:=am_ (hbox);have GW594:=am_ ((by rw[hg];exact(below_size ((a3_ GE581.out))):w.heap.size≤gb594));have GE594:=am_ ((by rw[hg];exact(below_size ((a3_ GE581.out))):w.heap.size≤gb594));replace HB:=am_ (below_step ((a3_ GE581.out)) hb);have NB581_594:=am_ ((by rw[hg];exact Nat.ne_of_lt (blk_lt (g:=gb581) (o:= .cells #[.int .i64 ((rd_T33 t564 x111_2).f0), .int .i64 ((rd_T33 t564 x111_2).f1), .int .i64 ((rd_T33 t564 x111_2).f2)] 33 (0,0)) ((a5_ BK581.out))):gb581≠gb594));have NB594_581:=am_ ((by rw[hg];exact Nat.ne_of_gt (blk_lt (g:=gb581) (o:= .cells #[.int .i64 ((rd_T33 t564 x111_2).f0), .int .i64 ((rd_T33 t564 x111_2).f1), .int .i64 ((rd_T33 t564 x111_2).f2)] 33 (0,0)) ((a5_ BK581.out))):gb594≠gb581));replace BK581:=am_ (blk_below (g:=gb581) (o:= .cells #[.int .i64 ((rd_T33 t564 x111_2).f0), .int .i64 ((rd_T33 t564 x111_2).f1), .int .i64 ((rd_T33 t564 x111_2).f2)] 33 (0,0)) ((a5_ BK581.out)) hb);clear hb hbox hg;have hnb70:=NB594_581.out;have hnc70:=NB581_594.out;have hcz71_0:w69.cell? ⟨gb594,0,none⟩=some (.int .i64 0):=(blk_cell BK594.out 0).trans rfl;have hcz71_1:w69.cell? ⟨gb594,1,none⟩=some (.int .i64 0):=(blk_cell BK594.out 1).trans rfl;have hcz71_2:w69.cell? ⟨gb594,2,none⟩=some (.int .i64 0):=(blk_cell BK594.out 2).trans rfl;have hfz71_0:=blk_frozen BK594.out 0;have hfz71_1:=blk_frozen BK594.out 1;have hfz71_2:=blk_frozen BK594.out 2;have hcz72_0:w69.cell? ⟨gb581,0,none⟩=some (.int .i64 ((rd_T33 t564 x111_2).f0)):=(blk_cell BK581.out 0).trans rfl;have hcz72_1:w69.cell? ⟨gb581,1,none⟩=some (.int .i64 ((rd_T33 t564 x111_2).f1)):=(blk_cell BK581.out 1).trans rfl;have hcz72_2:w69.cell? ⟨gb581,2,none⟩=some (.int .i64 ((rd_T33 t564 x111_2).f2)):=(blk_cell BK581.out 2).trans rfl;have hfz72_0:=blk_frozen BK581.out 0;have hfz72_1:=blk_frozen BK581.out 1;have hfz72_2:=blk_frozen BK581.out 2))
                      go_roundg k2
                      case measure=>have:=HJ9.out;have:=HK2.out;omega
                      case rel=>exact⟨(t584),(wrap64 (x111_2+1)),(by first | rfl|(simp;done)|(simp[*];done)),(by first | rfl|(simp;done)|(simp[*];done)),H',⟨by have:=HJ9.out;have:=HK2.out;omega⟩,⟨(a45_ HO_5.out)⟩,⟨(a46_ HO_10.out BK594.out)⟩,⟨(a46_ HO_12.out BK594.out)⟩,⟨(a45_ HO_109.out)⟩,⟨(a13_ GE581.out GE594.out)⟩⟩
                    ·replace c43:=Bool.eq_false_iff.mpr c43
                     subst c43
                     replace H:(some false)=some r:=by rw[if_neg (show ¬(false=true) by decide)]at H;exact H
                     exact absurd ((Option.some.inj H).trans HR_.out) (by decide)
                   ·rw[if_neg c42]at H
                    have c42b0:(t586 == t588)=false:=beq_eq_false_iff_ne.mpr c42
                    have c42b1:(t586 != t588)=true:=bne_iff_ne.mpr c42
                    exact absurd ((Option.some.inj H).trans HR_.out) (by decide)
                  ·replace c41:=Bool.eq_false_iff.mpr c41
                   subst c41
                   replace H:(some false)=some r:=by rw[if_neg (show ¬(false=true) by decide)]at H;exact H
                   exact absurd ((Option.some.inj H).trans HR_.out) (by decide)
                 ·replace c40:=Bool.eq_false_iff.mpr c40
                  subst c40
                  replace H:(some false)=some r:=by rw[if_neg (show ¬(false=true) by decide)]at H;exact H
                  exact absurd ((Option.some.inj H).trans HR_.out) (by decide)
                ·rw[if_neg c39]at H
                 have c39b0:(t582 == t584)=false:=beq_eq_false_iff_ne.mpr c39
                 have c39b1:(t582 != t584)=true:=bne_iff_ne.mpr c39
                 exact absurd ((Option.some.inj H).trans HR_.out) (by decide)
               ·replace c38:=Bool.eq_false_iff.mpr c38
                subst c38
                replace H:(some false)=some r:=by rw[if_neg (show ¬(false=true) by decide)]at H;exact H
                exact absurd ((Option.some.inj H).trans HR_.out) (by decide)
              ·replace c37:=Bool.eq_false_iff.mpr c37
               subst c37
               replace H:(some false)=some r:=by rw[if_neg (show ¬(false=true) by decide)]at H;exact H
               exact absurd ((Option.some.inj H).trans HR_.out) (by decide)
             ·rw[if_neg c31]at H
              exact absurd H (by simp)
            ·rw[if_neg c30]at H
             exact absurd H (by simp)
           ·rw[if_neg c29]at H
            have c29b0:decide (x111_2<(t564.length:Int))=false:=decide_eq_false c29
            clear c29
            (first|rw[c29b0]|(simp only[i64_w,i32_w];rw[c29b0]) | skip)
            obtain⟨⟨t595,t596⟩,A164,H⟩:=bo_ H
            try dsimp only at H
            obtain⟨⟨t597,t598⟩,A165,H⟩:=bo_ H
            try dsimp only at H
            obtain⟨⟨t599,t600⟩,A166,H⟩:=bo_ H
            try dsimp only at H
            have HC167:=am_ H
            clear H
            go_upto_region 27 with (first|((with_reducible refine gate_callee (f:=17) rfl ?_);refine goesL_ (some 179) rfl rfl Tryd.func17 (by kernel_rfl) rfl #[.int .i64 t567] rfl gd_ ?_;(with_reducible refine(impl_ChecksumText.calls t567 t595 t596 _ ?side9 A164.out).mono ?_);(case side9=>exact DoorLib.tab_below HT0.out (a0_));rintro e w168 ⟨rfl,hb⟩;refine⟨_,rfl,?_⟩;replace HO_5:=am_ (Kd.R_below ((a1_ HO_5.out)) hb);replace HO_10:=am_ (Kd.R_below ((a1_ HO_10.out)) hb);replace HO_12:=am_ (Kd.R_below ((a1_ HO_12.out)) hb);replace HO_109:=am_ (Kd.R_below ((a1_ HO_109.out)) hb);replace HB:=am_ (below_step (a0_) hb);(try clear hb);(try clear hb2);(try clear hk);(try clear hi))|((with_reducible refine gate_callee (f:=18) rfl ?_);refine goesL_ (some 184) rfl rfl Tryd.func18 (by kernel_rfl) rfl #[.string t595] rfl gd_ ?_;(with_reducible refine(impl_ReadChecksum.calls k2 t595 t597 t598 _ A165.out).mono ?_);rintro e w' ⟨rfl,⟨nd,rfl⟩⟩;refine⟨_,rfl,?_⟩;obtain⟨Ao169,co169,eo169⟩:=Kd.R_slice HO_10.out;subst eo169)|((with_reducible refine gate_callee (f:=19) rfl ?_);refine goesL_ (some 190) rfl rfl Tryd.func19 (by kernel_rfl) rfl #[.slice Ao169 t571.length co169, .slice Ao169 t571.length co169] rfl gd_ ?_;(with_reducible refine(impl_DifferentTracks.calls k2 _ _ t571 _ _ t571 t599 t600 _ ?side1 ?side2 ?side3 ?side4 A166.out).mono ?_);(case side1=>exact(a12_ HO_10.out));(case side2=>exact(Kd.R_reads' HO_10.out).2.1);(case side3=>exact(a12_ HO_10.out));(case side4=>exact(Kd.R_reads' HO_10.out).2.1);rintro e w170 ⟨v601,rfl,ho0,hb⟩;refine⟨_,rfl,?_⟩;replace HO_5:=am_ (Kd.R_below ((a1_ HO_5.out)) hb);replace HO_10:=am_ (Kd.R_below ((a1_ HO_10.out)) hb);replace HO_12:=am_ (Kd.R_below ((a1_ HO_12.out)) hb);replace HO_109:=am_ (Kd.R_below ((a1_ HO_109.out)) hb);have HO602:=am_ (Kd.R_lower ho0 (below_size (a0_)));replace HB:=am_ (below_step (a0_) hb);(try clear hb);(try clear hb2);(try clear hk);(try clear hi);(try clear ho0)))
            (try simp only[Act.put,List.setIfInBounds_toArray,List.set_cons_zero,List.set_cons_succ])
            go_cut [227] (fun v227 wc=>∃(kq:Nat) (x227_166:Bool),v227 = .bool x227_166∧Aside0 (laws_FnChecksums.j2 kq l1 t564 t575 x227_166=some r)∧Aside0 (kq≤k2)∧Aside0 (Kd.R k33 33 wc w.heap.size (fun _=>True) (.slice Ao12 t564.length co12) t564)∧Aside0 (Kd.R (Kd.int .i64) 3 wc w.heap.size (fun _=>True) v577 t575)∧Aside0 (Below w.heap.size w wc))
            case first=>
             as_aux_lemma=>
              have H:=HC167.out
              clear HC167
              by_cases c171:x14_2=t569
              ·rw[if_pos c171]at H
               have c171b0:(x14_2 == t569)=true:=beq_iff_eq.mpr c171
               have c171b1:(x14_2 != t569)=false:=bne_eq_false_iff_eq.mpr c171
               clear c171
               (first|rw[c171b0]|(simp only[i64_w,i32_w];rw[c171b0]) | skip)
               by_cases c172:t596=true
               ·subst c172
                replace H:(if(t595.size:Int)=7 then(if t598=true then(if t597=t569 then(if t600=true then(if(t599.length:Int)>0 then(laws_FnChecksums.j2 k2 l1 t564 t575 true) else(laws_FnChecksums.j2 k2 l1 t564 t575 ((t575.length:Int) != 20))) else(laws_FnChecksums.j2 k2 l1 t564 t575 true)) else(laws_FnChecksums.j2 k2 l1 t564 t575 true)) else(laws_FnChecksums.j2 k2 l1 t564 t575 true)) else(laws_FnChecksums.j2 k2 l1 t564 t575 true))=some r:=by rw[if_pos rfl]at H;exact H
                by_cases c173:(t595.size:Int)=7
                ·rw[if_pos c173]at H
                 have c173b0:((t595.size:Int) == 7)=true:=beq_iff_eq.mpr c173
                 have c173b1:((t595.size:Int) != 7)=false:=bne_eq_false_iff_eq.mpr c173
                 clear c173
                 by_cases c174:t598=true
                 ·subst c174
                  replace H:(if t597=t569 then(if t600=true then(if(t599.length:Int)>0 then(laws_FnChecksums.j2 k2 l1 t564 t575 true) else(laws_FnChecksums.j2 k2 l1 t564 t575 ((t575.length:Int) != 20))) else(laws_FnChecksums.j2 k2 l1 t564 t575 true)) else(laws_FnChecksums.j2 k2 l1 t564 t575 true))=some r:=by rw[if_pos rfl]at H;exact H
                  by_cases c175:t597=t569
                  ·rw[if_pos c175]at H
                   have c175b0:(t597 == t569)=true:=beq_iff_eq.mpr c175
                   have c175b1:(t597 != t569)=false:=bne_eq_false_iff_eq.mpr c175
                   clear c175
                   by_cases c176:t600=true
                   ·subst c176
                    replace H:(if(t599.length:Int)>0 then(laws_FnChecksums.j2 k2 l1 t564 t575 true) else(laws_FnChecksums.j2 k2 l1 t564 t575 ((t575.length:Int) != 20)))=some r:=by rw[if_pos rfl]at H;exact H
                    by_cases c177:(t599.length:Int)>0
                    ·rw[if_pos c177]at H
                     have c177b0:decide (0<(t599.length:Int))=true:=decide_eq_true c177
                     have c177b1:decide (0<t599.length)=true:=decide_eq_true (by omega)
                     clear c177
                     exact(laws_FnChecksums.j2_true (H.trans (congrArg some HR_.out))).elim
                    ·rw[if_neg c177]at H
                     have c177b0:decide (0<(t599.length:Int))=false:=decide_eq_false c177
                     have c177b1:decide (0<t599.length)=false:=decide_eq_false (by omega)
                     clear c177
                     have H':=am_ H
                     clear H
                     obtain⟨Ao179,co179,eo179⟩:=Kd.R_slice HO602.out
                     subst eo179
                     obtain⟨Ao180,co180,eo180⟩:=Kd.R_slice HO_12.out
                     subst eo180
                     go_wp2
                     all_goals
                      go_meet
                      case rel=>exact⟨_,(((t575.length:Int) != 20)),(by first | rfl|(simp;done)|(simp[*];done)),H',⟨by have:=HJ9.out;have:=HK2.out;first | omega|exact Nat.le_refl _⟩,⟨(a1_ HO_5.out)⟩,⟨(a1_ HO_12.out)⟩,⟨a0_⟩⟩
                   ·replace c176:=Bool.eq_false_iff.mpr c176
                    subst c176
                    replace H:(laws_FnChecksums.j2 k2 l1 t564 t575 true)=some r:=by rw[if_neg (show ¬(false=true) by decide)]at H;exact H
                    exact(laws_FnChecksums.j2_true (H.trans (congrArg some HR_.out))).elim
                  ·rw[if_neg c175]at H
                   have c175b0:(t597 == t569)=false:=beq_eq_false_iff_ne.mpr c175
                   have c175b1:(t597 != t569)=true:=bne_iff_ne.mpr c175
                   exact(laws_FnChecksums.j2_true (H.trans (congrArg some HR_.out))).elim
                 ·replace c174:=Bool.eq_false_iff.mpr c174
                  subst c174
                  replace H:(laws_FnChecksums.j2 k2 l1 t564 t575 true)=some r:=by rw[if_neg (show ¬(false=true) by decide)]at H;exact H
                  exact(laws_FnChecksums.j2_true (H.trans (congrArg some HR_.out))).elim
                ·rw[if_neg c173]at H
                 have c173b0:((t595.size:Int) == 7)=false:=beq_eq_false_iff_ne.mpr c173
                 have c173b1:((t595.size:Int) != 7)=true:=bne_iff_ne.mpr c173
                 exact(laws_FnChecksums.j2_true (H.trans (congrArg some HR_.out))).elim
               ·replace c172:=Bool.eq_false_iff.mpr c172
                subst c172
                replace H:(laws_FnChecksums.j2 k2 l1 t564 t575 true)=some r:=by rw[if_neg (show ¬(false=true) by decide)]at H;exact H
                exact(laws_FnChecksums.j2_true (H.trans (congrArg some HR_.out))).elim
              ·rw[if_neg c171]at H
               have c171b0:(x14_2 == t569)=false:=beq_eq_false_iff_ne.mpr c171
               have c171b1:(x14_2 != t569)=true:=bne_iff_ne.mpr c171
               (first|rw[c171b0]|(simp only[i64_w,i32_w];rw[c171b0]) | skip)
               have H':=am_ H
               clear H
               go_wp2
               all_goals
                go_meet
                case rel=>exact⟨_,(true),(by first | rfl|(simp;done)|(simp[*];done)),H',⟨by have:=HJ9.out;have:=HK2.out;first | omega|exact Nat.le_refl _⟩,⟨(a1_ HO_5.out)⟩,⟨(a1_ HO_12.out)⟩,⟨a0_⟩⟩
            case rest=>
             as_aux_lemma=>
              clear HC167
              try clear c1
              try clear c2
              try clear p2
              try clear c3
              try clear c4
              try clear c5
              try clear p5
              try clear q5
              try clear hx5
              try clear c6
              try clear p6
              try clear c7
              try clear c8
              try clear c9
              try clear c10
              try clear c11
              try clear c12
              try clear c13
              try clear c14
              try clear c15
              try clear c16
              try clear c17
              try clear c17b0
              try clear c17b1
              try clear c17b2
              try clear c18
              try clear c18b0
              try clear c18b1
              try clear c19
              try clear c19b0
              try clear c19b1
              try clear c19b2
              try clear c21
              try clear c26
              try clear c28
              try clear c29
              try clear c29b0
              try clear c30
              try clear c30b0
              try clear c31
              try clear c31b0
              try clear c37
              try clear c38
              try clear c39
              try clear c39b0
              try clear c39b1
              try clear c40
              try clear c41
              try clear c42
              try clear c42b0
              try clear c42b1
              try clear c43
              try clear c44
              try clear c44b0
              try clear c56
              try clear p58
              try clear q58
              try clear hx58
              try clear p64
              try clear c70
              try clear c84
              try clear c97
              try clear c110
              try clear c123
              try clear c136
              try clear c149
              try clear c162
              try clear c171
              try clear c171b0
              try clear c171b1
              try clear c172
              try clear c173
              try clear c173b0
              try clear c173b1
              try clear c174
              try clear c175
              try clear c175b0
              try clear c175b1
              try clear c176
              try clear c177
              try clear c177b0
              try clear c177b1
              try clear hcz100_0
              try clear hcz100_1
              try clear hcz100_2
              try clear hcz102_0
              try clear hcz102_1
              try clear hcz102_2
              try clear hcz104_0
              try clear hcz104_1
              try clear hcz104_2
              try clear hcz106_0
              try clear hcz106_1
              try clear hcz106_2
              try clear hcz111_0
              try clear hcz111_1
              try clear hcz111_2
              try clear hcz113_0
              try clear hcz113_1
              try clear hcz113_2
              try clear hcz115_0
              try clear hcz115_1
              try clear hcz115_2
              try clear hcz117_0
              try clear hcz117_1
              try clear hcz117_2
              try clear hcz119_0
              try clear hcz119_1
              try clear hcz119_2
              try clear hcz124_0
              try clear hcz124_1
              try clear hcz124_2
              try clear hcz126_0
              try clear hcz126_1
              try clear hcz126_2
              try clear hcz128_0
              try clear hcz128_1
              try clear hcz128_2
              try clear hcz130_0
              try clear hcz130_1
              try clear hcz130_2
              try clear hcz132_0
              try clear hcz132_1
              try clear hcz132_2
              try clear hcz137_0
              try clear hcz137_1
              try clear hcz137_2
              try clear hcz139_0
              try clear hcz139_1
              try clear hcz139_2
              try clear hcz141_0
              try clear hcz141_1
              try clear hcz141_2
              try clear hcz143_0
              try clear hcz143_1
              try clear hcz143_2
              try clear hcz145_0
              try clear hcz145_1
              try clear hcz145_2
              try clear hcz150_0
              try clear hcz150_1
              try clear hcz150_2
              try clear hcz152_0
              try clear hcz152_1
              try clear hcz152_2
              try clear hcz154_0
              try clear hcz154_1
              try clear hcz154_2
              try clear hcz156_0
              try clear hcz156_1
              try clear hcz156_2
              try clear hcz158_0
              try clear hcz158_1
              try clear hcz158_2
              try clear hcz163_0
              try clear hcz163_1
              try clear hcz163_2
              try clear hcz46_0
              try clear hcz46_1
              try clear hcz46_2
              try clear hcz48_0
              try clear hcz48_1
              try clear hcz48_2
              try clear hcz50_0
              try clear hcz50_1
              try clear hcz50_2
              try clear hcz52_0
              try clear hcz52_1
              try clear hcz52_2
              try clear hcz57_0
              try clear hcz57_1
              try clear hcz57_2
              try clear hcz58_0
              try clear hcz58_1
              try clear hcz58_2
              try clear hcz60_0
              try clear hcz60_1
              try clear hcz60_2
              try clear hcz62_0
              try clear hcz62_1
              try clear hcz62_2
              try clear hcz64_0
              try clear hcz64_1
              try clear hcz64_2
              try clear hcz66_0
              try clear hcz66_1
              try clear hcz66_2
              try clear hcz71_0
              try clear hcz71_1
              try clear hcz71_2
              try clear hcz72_0
              try clear hcz72_1
              try clear hcz72_2
              try clear hcz74_0
              try clear hcz74_1
              try clear hcz74_2
              try clear hcz76_0
              try clear hcz76_1
              try clear hcz76_2
              try clear hcz78_0
              try clear hcz78_1
              try clear hcz78_2
              try clear hcz80_0
              try clear hcz80_1
              try clear hcz80_2
              try clear hcz85_0
              try clear hcz85_1
              try clear hcz85_2
              try clear hcz87_0
              try clear hcz87_1
              try clear hcz87_2
              try clear hcz89_0
              try clear hcz89_1
              try clear hcz89_2
              try clear hcz91_0
              try clear hcz91_1
              try clear hcz91_2
              try clear hcz93_0
              try clear hcz93_1
              try clear hcz93_2
              try clear hcz98_0
              try clear hcz98_1
              try clear hcz98_2
              try clear hfz100_0
              try clear hfz100_1
              try clear hfz100_2
              try clear hfz102_0
              try clear hfz102_1
              try clear hfz102_2
              try clear hfz104_0
              try clear hfz104_1
              try clear hfz104_2
              try clear hfz106_0
              try clear hfz106_1
              try clear hfz106_2
              try clear hfz111_0
              try clear hfz111_1
              try clear hfz111_2
              try clear hfz113_0
              try clear hfz113_1
              try clear hfz113_2
              try clear hfz115_0
              try clear hfz115_1
              try clear hfz115_2
              try clear hfz117_0
              try clear hfz117_1
              try clear hfz117_2
              try clear hfz119_0
              try clear hfz119_1
              try clear hfz119_2
              try clear hfz124_0
              try clear hfz124_1
              try clear hfz124_2
              try clear hfz126_0
              try clear hfz126_1
              try clear hfz126_2
              try clear hfz128_0
              try clear hfz128_1
              try clear hfz128_2
              try clear hfz130_0
              try clear hfz130_1
              try clear hfz130_2
              try clear hfz132_0
              try clear hfz132_1
              try clear hfz132_2
              try clear hfz137_0
              try clear hfz137_1
              try clear hfz137_2
              try clear hfz139_0
              try clear hfz139_1
              try clear hfz139_2
              try clear hfz141_0
              try clear hfz141_1
              try clear hfz141_2
              try clear hfz143_0
              try clear hfz143_1
              try clear hfz143_2
              try clear hfz145_0
              try clear hfz145_1
              try clear hfz145_2
              try clear hfz150_0
              try clear hfz150_1
              try clear hfz150_2
              try clear hfz152_0
              try clear hfz152_1
              try clear hfz152_2
              try clear hfz154_0
              try clear hfz154_1
              try clear hfz154_2
              try clear hfz156_0
              try clear hfz156_1
              try clear hfz156_2
              try clear hfz158_0
              try clear hfz158_1
              try clear hfz158_2
              try clear hfz163_0
              try clear hfz163_1
              try clear hfz163_2
              try clear hfz46_0
              try clear hfz46_1
              try clear hfz46_2
              try clear hfz48_0
              try clear hfz48_1
              try clear hfz48_2
              try clear hfz50_0
              try clear hfz50_1
              try clear hfz50_2
              try clear hfz52_0
              try clear hfz52_1
              try clear hfz52_2
              try clear hfz57_0
              try clear hfz57_1
              try clear hfz57_2
              try clear hfz58_0
              try clear hfz58_1
              try clear hfz58_2
              try clear hfz60_0
              try clear hfz60_1
              try clear hfz60_2
              try clear hfz62_0
              try clear hfz62_1
              try clear hfz62_2
              try clear hfz64_0
              try clear hfz64_1
              try clear hfz64_2
              try clear hfz66_0
              try clear hfz66_1
              try clear hfz66_2
              try clear hfz71_0
              try clear hfz71_1
              try clear hfz71_2
              try clear hfz72_0
              try clear hfz72_1
              try clear hfz72_2
              try clear hfz74_0
              try clear hfz74_1
              try clear hfz74_2
              try clear hfz76_0
              try clear hfz76_1
              try clear hfz76_2
              try clear hfz78_0
              try clear hfz78_1
              try clear hfz78_2
              try clear hfz80_0
              try clear hfz80_1
              try clear hfz80_2
              try clear hfz85_0
              try clear hfz85_1
              try clear hfz85_2
              try clear hfz87_0
              try clear hfz87_1
              try clear hfz87_2
              try clear hfz89_0
              try clear hfz89_1
              try clear hfz89_2
              try clear hfz91_0
              try clear hfz91_1
              try clear hfz91_2
              try clear hfz93_0
              try clear hfz93_1
              try clear hfz93_2
              try clear hfz98_0
              try clear hfz98_1
              try clear hfz98_2
              try clear hx580_0
              try clear hx580_1
              try clear hx580_2
              try clear p2
              try clear p580
              try clear q580
              obtain⟨kq,x227_166,rfl,HA,HJ166,HO_5,HO_12,HB⟩:=hcut
              cases kq with
              | zero=>exact absurd HA.out (by simp[laws_FnChecksums.j2])
              | succ kj166=>
               have H:=HA.out
               clear HA
               simp only[laws_FnChecksums.j2]at H
               by_cases c181:x227_166=true
               ·subst c181
                replace H:(some false)=some r:=by rw[if_pos rfl]at H;exact H
                exact absurd ((Option.some.inj H).trans HR_.out) (by decide)
               ·replace c181:=Bool.eq_false_iff.mpr c181
                subst c181
                replace H:(laws_FnChecksums.l1 kj166 l1 t564 t575 (t575.length:Int) 0)=some r:=by rw[if_neg (show ¬(false=true) by decide)]at H;exact H
                have H':=am_ H
                clear H
                obtain⟨Ao182,co182,eo182⟩:=Kd.R_slice HO_12.out
                subst eo182
                go_wp2
                (try simp only[Act.put,List.setIfInBounds_toArray,List.set_cons_zero,List.set_cons_succ])
                go_loopg [230] kj166 (fun kq v230 w'=>∃(x230_4:Int),v230 = .int .i64 x230_4∧Aside0 (laws_FnChecksums.l1 kq l1 t564 t575 (t575.length:Int) x230_4=some r)∧Aside0 (kq≤kj166)∧Aside0 (Kd.R k33 33 w' w.heap.size (fun _=>True) (.slice Ao12 t564.length co12) t564)∧Aside0 (Kd.R (Kd.int .i64) 3 w' w.heap.size (fun _=>True) (.slice Ao182 t575.length co182) t575)∧Aside0 (Below w.heap.size w w'))
                case atStart=>exact⟨(0),(by first | rfl|(simp;done)|(simp[*];done)),H',⟨Nat.le_refl _⟩,⟨(a1_ HO_5.out)⟩,⟨(a1_ HO_12.out)⟩,⟨a0_⟩⟩
                case round=>
                 clear H'
                 try clear c1
                 try clear c2
                 try clear p2
                 try clear c3
                 try clear c4
                 try clear c5
                 try clear p5
                 try clear q5
                 try clear hx5
                 try clear c6
                 try clear p6
                 try clear c7
                 try clear c8
                 try clear c9
                 try clear c10
                 try clear c11
                 try clear c12
                 try clear c13
                 try clear c14
                 try clear c15
                 try clear c16
                 try clear c17
                 try clear c17b0
                 try clear c17b1
                 try clear c17b2
                 try clear c18
                 try clear c18b0
                 try clear c18b1
                 try clear c19
                 try clear c19b0
                 try clear c19b1
                 try clear c19b2
                 try clear c21
                 try clear c26
                 try clear c28
                 try clear c29
                 try clear c29b0
                 try clear c30
                 try clear c30b0
                 try clear c31
                 try clear c31b0
                 try clear c37
                 try clear c38
                 try clear c39
                 try clear c39b0
                 try clear c39b1
                 try clear c40
                 try clear c41
                 try clear c42
                 try clear c42b0
                 try clear c42b1
                 try clear c43
                 try clear c44
                 try clear c44b0
                 try clear c56
                 try clear p58
                 try clear q58
                 try clear hx58
                 try clear p64
                 try clear c70
                 try clear c84
                 try clear c97
                 try clear c110
                 try clear c123
                 try clear c136
                 try clear c149
                 try clear c162
                 try clear c171
                 try clear c171b0
                 try clear c171b1
                 try clear c172
                 try clear c173
                 try clear c173b0
                 try clear c173b1
                 try clear c174
                 try clear c175
                 try clear c175b0
                 try clear c175b1
                 try clear c176
                 try clear c177
                 try clear c177b0
                 try clear c177b1
                 try clear c181
                 try clear hcz100_0
                 try clear hcz100_1
                 try clear hcz100_2
                 try clear hcz102_0
                 try clear hcz102_1
                 try clear hcz102_2
                 try clear hcz104_0
                 try clear hcz104_1
                 try clear hcz104_2
                 try clear hcz106_0
                 try clear hcz106_1
                 try clear hcz106_2
                 try clear hcz111_0
                 try clear hcz111_1
                 try clear hcz111_2
                 try clear hcz113_0
                 try clear hcz113_1
                 try clear hcz113_2
                 try clear hcz115_0
                 try clear hcz115_1
                 try clear hcz115_2
                 try clear hcz117_0
                 try clear hcz117_1
                 try clear hcz117_2
                 try clear hcz119_0
                 try clear hcz119_1
                 try clear hcz119_2
                 try clear hcz124_0
                 try clear hcz124_1
                 try clear hcz124_2
                 try clear hcz126_0
                 try clear hcz126_1
                 try clear hcz126_2
                 try clear hcz128_0
                 try clear hcz128_1
                 try clear hcz128_2
                 try clear hcz130_0
                 try clear hcz130_1
                 try clear hcz130_2
                 try clear hcz132_0
                 try clear hcz132_1
                 try clear hcz132_2
                 try clear hcz137_0
                 try clear hcz137_1
                 try clear hcz137_2
                 try clear hcz139_0
                 try clear hcz139_1
                 try clear hcz139_2
                 try clear hcz141_0
                 try clear hcz141_1
                 try clear hcz141_2
                 try clear hcz143_0
                 try clear hcz143_1
                 try clear hcz143_2
                 try clear hcz145_0
                 try clear hcz145_1
                 try clear hcz145_2
                 try clear hcz150_0
                 try clear hcz150_1
                 try clear hcz150_2
                 try clear hcz152_0
                 try clear hcz152_1
                 try clear hcz152_2
                 try clear hcz154_0
                 try clear hcz154_1
                 try clear hcz154_2
                 try clear hcz156_0
                 try clear hcz156_1
                 try clear hcz156_2
                 try clear hcz158_0
                 try clear hcz158_1
                 try clear hcz158_2
                 try clear hcz163_0
                 try clear hcz163_1
                 try clear hcz163_2
                 try clear hcz46_0
                 try clear hcz46_1
                 try clear hcz46_2
                 try clear hcz48_0
                 try clear hcz48_1
                 try clear hcz48_2
                 try clear hcz50_0
                 try clear hcz50_1
                 try clear hcz50_2
                 try clear hcz52_0
                 try clear hcz52_1
                 try clear hcz52_2
                 try clear hcz57_0
                 try clear hcz57_1
                 try clear hcz57_2
                 try clear hcz58_0
                 try clear hcz58_1
                 try clear hcz58_2
                 try clear hcz60_0
                 try clear hcz60_1
                 try clear hcz60_2
                 try clear hcz62_0
                 try clear hcz62_1
                 try clear hcz62_2
                 try clear hcz64_0
                 try clear hcz64_1
                 try clear hcz64_2
                 try clear hcz66_0
                 try clear hcz66_1
                 try clear hcz66_2
                 try clear hcz71_0
                 try clear hcz71_1
                 try clear hcz71_2
                 try clear hcz72_0
                 try clear hcz72_1
                 try clear hcz72_2
                 try clear hcz74_0
                 try clear hcz74_1
                 try clear hcz74_2
                 try clear hcz76_0
                 try clear hcz76_1
                 try clear hcz76_2
                 try clear hcz78_0
                 try clear hcz78_1
                 try clear hcz78_2
                 try clear hcz80_0
                 try clear hcz80_1
                 try clear hcz80_2
                 try clear hcz85_0
                 try clear hcz85_1
                 try clear hcz85_2
                 try clear hcz87_0
                 try clear hcz87_1
                 try clear hcz87_2
                 try clear hcz89_0
                 try clear hcz89_1
                 try clear hcz89_2
                 try clear hcz91_0
                 try clear hcz91_1
                 try clear hcz91_2
                 try clear hcz93_0
                 try clear hcz93_1
                 try clear hcz93_2
                 try clear hcz98_0
                 try clear hcz98_1
                 try clear hcz98_2
                 try clear hfz100_0
                 try clear hfz100_1
                 try clear hfz100_2
                 try clear hfz102_0
                 try clear hfz102_1
                 try clear hfz102_2
                 try clear hfz104_0
                 try clear hfz104_1
                 try clear hfz104_2
                 try clear hfz106_0
                 try clear hfz106_1
                 try clear hfz106_2
                 try clear hfz111_0
                 try clear hfz111_1
                 try clear hfz111_2
                 try clear hfz113_0
                 try clear hfz113_1
                 try clear hfz113_2
                 try clear hfz115_0
                 try clear hfz115_1
                 try clear hfz115_2
                 try clear hfz117_0
                 try clear hfz117_1
                 try clear hfz117_2
                 try clear hfz119_0
                 try clear hfz119_1
                 try clear hfz119_2
                 try clear hfz124_0
                 try clear hfz124_1
                 try clear hfz124_2
                 try clear hfz126_0
                 try clear hfz126_1
                 try clear hfz126_2
                 try clear hfz128_0
                 try clear hfz128_1
                 try clear hfz128_2
                 try clear hfz130_0
                 try clear hfz130_1
                 try clear hfz130_2
                 try clear hfz132_0
                 try clear hfz132_1
                 try clear hfz132_2
                 try clear hfz137_0
                 try clear hfz137_1
                 try clear hfz137_2
                 try clear hfz139_0
                 try clear hfz139_1
                 try clear hfz139_2
                 try clear hfz141_0
                 try clear hfz141_1
                 try clear hfz141_2
                 try clear hfz143_0
                 try clear hfz143_1
                 try clear hfz143_2
                 try clear hfz145_0
                 try clear hfz145_1
                 try clear hfz145_2
                 try clear hfz150_0
                 try clear hfz150_1
                 try clear hfz150_2
                 try clear hfz152_0
                 try clear hfz152_1
                 try clear hfz152_2
                 try clear hfz154_0
                 try clear hfz154_1
                 try clear hfz154_2
                 try clear hfz156_0
                 try clear hfz156_1
                 try clear hfz156_2
                 try clear hfz158_0
                 try clear hfz158_1
                 try clear hfz158_2
                 try clear hfz163_0
                 try clear hfz163_1
                 try clear hfz163_2
                 try clear hfz46_0
                 try clear hfz46_1
                 try clear hfz46_2
                 try clear hfz48_0
                 try clear hfz48_1
                 try clear hfz48_2
                 try clear hfz50_0
                 try clear hfz50_1
                 try clear hfz50_2
                 try clear hfz52_0
                 try clear hfz52_1
                 try clear hfz52_2
                 try clear hfz57_0
                 try clear hfz57_1
                 try clear hfz57_2
                 try clear hfz58_0
                 try clear hfz58_1
                 try clear hfz58_2
                 try clear hfz60_0
                 try clear hfz60_1
                 try clear hfz60_2
                 try clear hfz62_0
                 try clear hfz62_1
                 try clear hfz62_2
                 try clear hfz64_0
                 try clear hfz64_1
                 try clear hfz64_2
                 try clear hfz66_0
                 try clear hfz66_1
                 try clear hfz66_2
                 try clear hfz71_0
                 try clear hfz71_1
                 try clear hfz71_2
                 try clear hfz72_0
                 try clear hfz72_1
                 try clear hfz72_2
                 try clear hfz74_0
                 try clear hfz74_1
                 try clear hfz74_2
                 try clear hfz76_0
                 try clear hfz76_1
                 try clear hfz76_2
                 try clear hfz78_0
                 try clear hfz78_1
                 try clear hfz78_2
                 try clear hfz80_0
                 try clear hfz80_1
                 try clear hfz80_2
                 try clear hfz85_0
                 try clear hfz85_1
                 try clear hfz85_2
                 try clear hfz87_0
                 try clear hfz87_1
                 try clear hfz87_2
                 try clear hfz89_0
                 try clear hfz89_1
                 try clear hfz89_2
                 try clear hfz91_0
                 try clear hfz91_1
                 try clear hfz91_2
                 try clear hfz93_0
                 try clear hfz93_1
                 try clear hfz93_2
                 try clear hfz98_0
                 try clear hfz98_1
                 try clear hfz98_2
                 try clear hx580_0
                 try clear hx580_1
                 try clear hx580_2
                 try clear p2
                 try clear p5
                 try clear p58
                 try clear p580
                 try clear p6
                 try clear p64
                 try clear q5
                 try clear q58
                 try clear q580
                 obtain⟨x230_4,rfl,HA,HK4,HO_5,HO_228,HB⟩:=hrel
                 cases gk with
                 | zero=>exact absurd HA.out (by simp[laws_FnChecksums.l1])
                 | succ k4=>
                  have H:=HA.out
                  clear HA
                  simp only[laws_FnChecksums.l1]at H
                  by_cases c183:x230_4<(t575.length:Int)
                  ·rw[if_pos c183]at H
                   have c183b0:decide (x230_4<(t575.length:Int))=true:=decide_eq_true c183
                   clear c183
                   by_cases c184:0≤x230_4
                   ·rw[if_pos c184]at H
                    have c184b0:decide (0≤x230_4)=true:=decide_eq_true c184
                    clear c184
                    by_cases c185:x230_4<(t575.length:Int)
                    ·rw[if_pos c185]at H
                     have c185b0:decide (x230_4<(t575.length:Int))=true:=decide_eq_true c185
                     clear c185
                     have HC186:=am_ H
                     clear H
                     have p603:0≤(x230_4:Int):=of_decide_eq_true (a10_)
                     have q603:x230_4<(t575.length:Int):=of_decide_eq_true (a10_)
                     obtain⟨ad603,e603,hx603_0⟩:=Kd.at_int (Kd.R_reads' HO_228.out).2.2 x230_4 p603 q603
                     cases e603
                     replace p603:=eq_true p603
                     replace q603:=eq_true q603
                     go_upto_region 32 with (fail)
                     go_cut [240] (fun v240 wc=>∃(kq:Nat) (x240_185:Bool),v240 = .bool x240_185∧Aside0 (laws_FnChecksums.j4 kq l1 t564 x230_4 (rd t575 x230_4) t575 (t575.length:Int) x230_4 x240_185=some r)∧Aside0 (kq≤k4)∧Aside0 (Kd.R k33 33 wc w.heap.size (fun _=>True) (.slice Ao12 t564.length co12) t564)∧Aside0 (Kd.R (Kd.int .i64) 3 wc w.heap.size (fun _=>True) (.slice (some ad603) t575.length co182) t575)∧Aside0 (Below w.heap.size w wc))
                     case first=>
                      as_aux_lemma=>
                       have H:=HC186.out
                       clear HC186
                       by_cases c187:(rd t575 x230_4)<0
                       ·rw[if_pos c187]at H
                        have c187b0:decide ((rd t575 x230_4)<0)=true:=decide_eq_true c187
                        clear c187
                        (first|rw[c187b0]|(simp only[i64_w,i32_w];rw[c187b0]) | skip)
                        have H':=am_ H
                        clear H
                        go_wp2
                        all_goals
                         go_meet
                         case rel=>exact⟨_,(true),(by first | rfl|(simp;done)|(simp[*];done)),H',⟨by have:=HJ9.out;have:=HK2.out;have:=HJ166.out;have:=HK4.out;first | omega|exact Nat.le_refl _⟩,⟨(a1_ HO_5.out)⟩,⟨(a1_ HO_228.out)⟩,⟨a0_⟩⟩
                       ·rw[if_neg c187]at H
                        have c187b0:decide ((rd t575 x230_4)<0)=false:=decide_eq_false c187
                        clear c187
                        (first|rw[c187b0]|(simp only[i64_w,i32_w];rw[c187b0]) | skip)
                        have H':=am_ H
                        clear H
                        go_wp2
                        all_goals
                         go_meet
                         case rel=>exact⟨_,(decide ((rd t575 x230_4)≥1000003)),(by first | rfl|(simp;done)|(simp[*];done)),H',⟨by have:=HJ9.out;have:=HK2.out;have:=HJ166.out;have:=HK4.out;first | omega|exact Nat.le_refl _⟩,⟨(a1_ HO_5.out)⟩,⟨(a1_ HO_228.out)⟩,⟨a0_⟩⟩
                     case rest=>
                      as_aux_lemma=>
                       clear HC186
                       try clear c1
                       try clear c2
                       try clear p2
                       try clear c3
                       try clear c4
                       try clear c5
                       try clear p5
                       try clear q5
                       try clear hx5
                       try clear c6
                       try clear p6
                       try clear q6
                       try clear hx6
                       try clear c7
                       try clear c8
                       try clear c9
                       try clear c10
                       try clear c11
                       try clear c12
                       try clear c13
                       try clear c14
                       try clear c15
                       try clear c16
                       try clear c17
                       try clear c17b0
                       try clear c17b1
                       try clear c17b2
                       try clear c18
                       try clear c18b0
                       try clear c18b1
                       try clear c19
                       try clear c19b0
                       try clear c19b1
                       try clear c19b2
                       try clear c21
                       try clear c26
                       try clear c28
                       try clear c29
                       try clear c29b0
                       try clear c30
                       try clear c30b0
                       try clear c31
                       try clear c31b0
                       try clear c37
                       try clear c38
                       try clear c39
                       try clear c39b0
                       try clear c39b1
                       try clear c40
                       try clear c41
                       try clear c42
                       try clear c42b0
                       try clear c42b1
                       try clear c43
                       try clear c44
                       try clear c44b0
                       try clear c56
                       try clear p58
                       try clear q58
                       try clear hx58
                       try clear p60
                       try clear q60
                       try clear hx60
                       try clear p64
                       try clear c70
                       try clear c84
                       try clear c97
                       try clear c110
                       try clear c123
                       try clear c136
                       try clear c149
                       try clear c162
                       try clear c171
                       try clear c171b0
                       try clear c171b1
                       try clear c172
                       try clear c173
                       try clear c173b0
                       try clear c173b1
                       try clear c174
                       try clear c175
                       try clear c175b0
                       try clear c175b1
                       try clear c176
                       try clear c177
                       try clear c177b0
                       try clear c177b1
                       try clear c181
                       try clear c183
                       try clear c183b0
                       try clear c184
                       try clear c184b0
                       try clear c185
                       try clear c185b0
                       try clear c187
                       try clear c187b0
                       try clear hcz100_0
                       try clear hcz100_1
                       try clear hcz100_2
                       try clear hcz102_0
                       try clear hcz102_1
                       try clear hcz102_2
                       try clear hcz104_0
                       try clear hcz104_1
                       try clear hcz104_2
                       try clear hcz106_0
                       try clear hcz106_1
                       try clear hcz106_2
                       try clear hcz111_0
                       try clear hcz111_1
                       try clear hcz111_2
                       try clear hcz113_0
                       try clear hcz113_1
                       try clear hcz113_2
                       try clear hcz115_0
                       try clear hcz115_1
                       try clear hcz115_2
                       try clear hcz117_0
                       try clear hcz117_1
                       try clear hcz117_2
                       try clear hcz119_0
                       try clear hcz119_1
                       try clear hcz119_2
                       try clear hcz124_0
                       try clear hcz124_1
                       try clear hcz124_2
                       try clear hcz126_0
                       try clear hcz126_1
                       try clear hcz126_2
                       try clear hcz128_0
                       try clear hcz128_1
                       try clear hcz128_2
                       try clear hcz130_0
                       try clear hcz130_1
                       try clear hcz130_2
                       try clear hcz132_0
                       try clear hcz132_1
                       try clear hcz132_2
                       try clear hcz137_0
                       try clear hcz137_1
                       try clear hcz137_2
                       try clear hcz139_0
                       try clear hcz139_1
                       try clear hcz139_2
                       try clear hcz141_0
                       try clear hcz141_1
                       try clear hcz141_2
                       try clear hcz143_0
                       try clear hcz143_1
                       try clear hcz143_2
                       try clear hcz145_0
                       try clear hcz145_1
                       try clear hcz145_2
                       try clear hcz150_0
                       try clear hcz150_1
                       try clear hcz150_2
                       try clear hcz152_0
                       try clear hcz152_1
                       try clear hcz152_2
                       try clear hcz154_0
                       try clear hcz154_1
                       try clear hcz154_2
                       try clear hcz156_0
                       try clear hcz156_1
                       try clear hcz156_2
                       try clear hcz158_0
                       try clear hcz158_1
                       try clear hcz158_2
                       try clear hcz163_0
                       try clear hcz163_1
                       try clear hcz163_2
                       try clear hcz46_0
                       try clear hcz46_1
                       try clear hcz46_2
                       try clear hcz48_0
                       try clear hcz48_1
                       try clear hcz48_2
                       try clear hcz50_0
                       try clear hcz50_1
                       try clear hcz50_2
                       try clear hcz52_0
                       try clear hcz52_1
                       try clear hcz52_2
                       try clear hcz57_0
                       try clear hcz57_1
                       try clear hcz57_2
                       try clear hcz58_0
                       try clear hcz58_1
                       try clear hcz58_2
                       try clear hcz60_0
                       try clear hcz60_1
                       try clear hcz60_2
                       try clear hcz62_0
                       try clear hcz62_1
                       try clear hcz62_2
                       try clear hcz64_0
                       try clear hcz64_1
                       try clear hcz64_2
                       try clear hcz66_0
                       try clear hcz66_1
                       try clear hcz66_2
                       try clear hcz71_0
                       try clear hcz71_1
                       try clear hcz71_2
                       try clear hcz72_0
                       try clear hcz72_1
                       try clear hcz72_2
                       try clear hcz74_0
                       try clear hcz74_1
                       try clear hcz74_2
                       try clear hcz76_0
                       try clear hcz76_1
                       try clear hcz76_2
                       try clear hcz78_0
                       try clear hcz78_1
                       try clear hcz78_2
                       try clear hcz80_0
                       try clear hcz80_1
                       try clear hcz80_2
                       try clear hcz85_0
                       try clear hcz85_1
                       try clear hcz85_2
                       try clear hcz87_0
                       try clear hcz87_1
                       try clear hcz87_2
                       try clear hcz89_0
                       try clear hcz89_1
                       try clear hcz89_2
                       try clear hcz91_0
                       try clear hcz91_1
                       try clear hcz91_2
                       try clear hcz93_0
                       try clear hcz93_1
                       try clear hcz93_2
                       try clear hcz98_0
                       try clear hcz98_1
                       try clear hcz98_2
                       try clear hfz100_0
                       try clear hfz100_1
                       try clear hfz100_2
                       try clear hfz102_0
                       try clear hfz102_1
                       try clear hfz102_2
                       try clear hfz104_0
                       try clear hfz104_1
                       try clear hfz104_2
                       try clear hfz106_0
                       try clear hfz106_1
                       try clear hfz106_2
                       try clear hfz111_0
                       try clear hfz111_1
                       try clear hfz111_2
                       try clear hfz113_0
                       try clear hfz113_1
                       try clear hfz113_2
                       try clear hfz115_0
                       try clear hfz115_1
                       try clear hfz115_2
                       try clear hfz117_0
                       try clear hfz117_1
                       try clear hfz117_2
                       try clear hfz119_0
                       try clear hfz119_1
                       try clear hfz119_2
                       try clear hfz124_0
                       try clear hfz124_1
                       try clear hfz124_2
                       try clear hfz126_0
                       try clear hfz126_1
                       try clear hfz126_2
                       try clear hfz128_0
                       try clear hfz128_1
                       try clear hfz128_2
                       try clear hfz130_0
                       try clear hfz130_1
                       try clear hfz130_2
                       try clear hfz132_0
                       try clear hfz132_1
                       try clear hfz132_2
                       try clear hfz137_0
                       try clear hfz137_1
                       try clear hfz137_2
                       try clear hfz139_0
                       try clear hfz139_1
                       try clear hfz139_2
                       try clear hfz141_0
                       try clear hfz141_1
                       try clear hfz141_2
                       try clear hfz143_0
                       try clear hfz143_1
                       try clear hfz143_2
                       try clear hfz145_0
                       try clear hfz145_1
                       try clear hfz145_2
                       try clear hfz150_0
                       try clear hfz150_1
                       try clear hfz150_2
                       try clear hfz152_0
                       try clear hfz152_1
                       try clear hfz152_2
                       try clear hfz154_0
                       try clear hfz154_1
                       try clear hfz154_2
                       try clear hfz156_0
                       try clear hfz156_1
                       try clear hfz156_2
                       try clear hfz158_0
                       try clear hfz158_1
                       try clear hfz158_2
                       try clear hfz163_0
                       try clear hfz163_1
                       try clear hfz163_2
                       try clear hfz46_0
                       try clear hfz46_1
                       try clear hfz46_2
                       try clear hfz48_0
                       try clear hfz48_1
                       try clear hfz48_2
                       try clear hfz50_0
                       try clear hfz50_1
                       try clear hfz50_2
                       try clear hfz52_0
                       try clear hfz52_1
                       try clear hfz52_2
                       try clear hfz57_0
                       try clear hfz57_1
                       try clear hfz57_2
                       try clear hfz58_0
                       try clear hfz58_1
                       try clear hfz58_2
                       try clear hfz60_0
                       try clear hfz60_1
                       try clear hfz60_2
                       try clear hfz62_0
                       try clear hfz62_1
                       try clear hfz62_2
                       try clear hfz64_0
                       try clear hfz64_1
                       try clear hfz64_2
                       try clear hfz66_0
                       try clear hfz66_1
                       try clear hfz66_2
                       try clear hfz71_0
                       try clear hfz71_1
                       try clear hfz71_2
                       try clear hfz72_0
                       try clear hfz72_1
                       try clear hfz72_2
                       try clear hfz74_0
                       try clear hfz74_1
                       try clear hfz74_2
                       try clear hfz76_0
                       try clear hfz76_1
                       try clear hfz76_2
                       try clear hfz78_0
                       try clear hfz78_1
                       try clear hfz78_2
                       try clear hfz80_0
                       try clear hfz80_1
                       try clear hfz80_2
                       try clear hfz85_0
                       try clear hfz85_1
                       try clear hfz85_2
                       try clear hfz87_0
                       try clear hfz87_1
                       try clear hfz87_2
                       try clear hfz89_0
                       try clear hfz89_1
                       try clear hfz89_2
                       try clear hfz91_0
                       try clear hfz91_1
                       try clear hfz91_2
                       try clear hfz93_0
                       try clear hfz93_1
                       try clear hfz93_2
                       try clear hfz98_0
                       try clear hfz98_1
                       try clear hfz98_2
                       try clear hx580_0
                       try clear hx580_1
                       try clear hx580_2
                       try clear hx603_0
                       try clear p2
                       try clear p5
                       try clear p58
                       try clear p580
                       try clear p6
                       try clear p603
                       try clear p64
                       try clear q5
                       try clear q58
                       try clear q580
                       try clear q603
                       obtain⟨kq,x240_185,rfl,HA,HJ185,HO_5,HO_228,HB⟩:=hcut
                       cases kq with
                       | zero=>exact absurd HA.out (by simp[laws_FnChecksums.j4])
                       | succ kj185=>
                        have H:=HA.out
                        clear HA
                        simp only[laws_FnChecksums.j4]at H
                        by_cases c188:x240_185=true
                        ·subst c188
                         replace H:(some false)=some r:=by rw[if_pos rfl]at H;exact H
                         exact absurd ((Option.some.inj H).trans HR_.out) (by decide)
                        ·replace c188:=Bool.eq_false_iff.mpr c188
                         subst c188
                         replace H:(laws_FnChecksums.l2 kj185 l1 t564 x230_4 (rd t575 x230_4) false t575 (t575.length:Int) x230_4 t564 (t564.length:Int) 0)=some r:=by rw[if_neg (show ¬(false=true) by decide)]at H;exact H
                         have H':=am_ H
                         clear H
                         go_wp2
                         (try simp only[Act.put,List.setIfInBounds_toArray,List.set_cons_zero,List.set_cons_succ])
                         go_loopg [35,243] kj185 (fun kq v35 v243 w'=>∃(x35_6:Bool) (x243_6:Int),v35 = .bool x35_6∧v243 = .int .i64 x243_6∧Aside0 (laws_FnChecksums.l2 kq l1 t564 x230_4 (rd t575 x230_4) x35_6 t575 (t575.length:Int) x230_4 t564 (t564.length:Int) x243_6=some r)∧Aside0 (kq≤kj185)∧Aside0 (Kd.R k33 33 w' w.heap.size (fun _=>True) (.slice Ao12 t564.length co12) t564)∧Aside0 (Kd.R (Kd.int .i64) 3 w' w.heap.size (fun _=>True) (.slice (some ad603) t575.length co182) t575)∧Aside0 (Kd.R k33 33 w' w.heap.size (fun _=>True) (.slice Ao12 t564.length co12) t564)∧Aside0 (Below w.heap.size w w'))
                         case atStart=>exact⟨(false),(0),(by first | rfl|(simp;done)|(simp[*];done)),(by first | rfl|(simp;done)|(simp[*];done)),H',⟨Nat.le_refl _⟩,⟨(a1_ HO_5.out)⟩,⟨(a1_ HO_228.out)⟩,⟨(a1_ HO_5.out)⟩,⟨a0_⟩⟩
                         case round=>
                          clear H'
                          try clear c1
                          try clear c2
                          try clear p2
                          try clear c3
                          try clear c4
                          try clear c5
                          try clear p5
                          try clear q5
                          try clear hx5
                          try clear c6
                          try clear p6
                          try clear q6
                          try clear hx6
                          try clear c7
                          try clear c8
                          try clear c9
                          try clear c10
                          try clear c11
                          try clear c12
                          try clear c13
                          try clear c14
                          try clear c15
                          try clear c16
                          try clear c17
                          try clear c17b0
                          try clear c17b1
                          try clear c17b2
                          try clear c18
                          try clear c18b0
                          try clear c18b1
                          try clear c19
                          try clear c19b0
                          try clear c19b1
                          try clear c19b2
                          try clear c21
                          try clear c26
                          try clear c28
                          try clear c29
                          try clear c29b0
                          try clear c30
                          try clear c30b0
                          try clear c31
                          try clear c31b0
                          try clear c37
                          try clear c38
                          try clear c39
                          try clear c39b0
                          try clear c39b1
                          try clear c40
                          try clear c41
                          try clear c42
                          try clear c42b0
                          try clear c42b1
                          try clear c43
                          try clear c44
                          try clear c44b0
                          try clear c56
                          try clear p58
                          try clear q58
                          try clear hx58
                          try clear p60
                          try clear q60
                          try clear hx60
                          try clear p64
                          try clear c70
                          try clear c84
                          try clear c97
                          try clear c110
                          try clear c123
                          try clear c136
                          try clear c149
                          try clear c162
                          try clear c171
                          try clear c171b0
                          try clear c171b1
                          try clear c172
                          try clear c173
                          try clear c173b0
                          try clear c173b1
                          try clear c174
                          try clear c175
                          try clear c175b0
                          try clear c175b1
                          try clear c176
                          try clear c177
                          try clear c177b0
                          try clear c177b1
                          try clear c181
                          try clear c183
                          try clear c183b0
                          try clear c184
                          try clear c184b0
                          try clear c185
                          try clear c185b0
                          try clear c187
                          try clear c187b0
                          try clear c188
                          try clear hcz100_0
                          try clear hcz100_1
                          try clear hcz100_2
                          try clear hcz102_0
                          try clear hcz102_1
                          try clear hcz102_2
                          try clear hcz104_0
                          try clear hcz104_1
                          try clear hcz104_2
                          try clear hcz106_0
                          try clear hcz106_1
                          try clear hcz106_2
                          try clear hcz111_0
                          try clear hcz111_1
                          try clear hcz111_2
                          try clear hcz113_0
                          try clear hcz113_1
                          try clear hcz113_2
                          try clear hcz115_0
                          try clear hcz115_1
                          try clear hcz115_2
                          try clear hcz117_0
                          try clear hcz117_1
                          try clear hcz117_2
                          try clear hcz119_0
                          try clear hcz119_1
                          try clear hcz119_2
                          try clear hcz124_0
                          try clear hcz124_1
                          try clear hcz124_2
                          try clear hcz126_0
                          try clear hcz126_1
                          try clear hcz126_2
                          try clear hcz128_0
                          try clear hcz128_1
                          try clear hcz128_2
                          try clear hcz130_0
                          try clear hcz130_1
                          try clear hcz130_2
                          try clear hcz132_0
                          try clear hcz132_1
                          try clear hcz132_2
                          try clear hcz137_0
                          try clear hcz137_1
                          try clear hcz137_2
                          try clear hcz139_0
                          try clear hcz139_1
                          try clear hcz139_2
                          try clear hcz141_0
                          try clear hcz141_1
                          try clear hcz141_2
                          try clear hcz143_0
                          try clear hcz143_1
                          try clear hcz143_2
                          try clear hcz145_0
                          try clear hcz145_1
                          try clear hcz145_2
                          try clear hcz150_0
                          try clear hcz150_1
                          try clear hcz150_2
                          try clear hcz152_0
                          try clear hcz152_1
                          try clear hcz152_2
                          try clear hcz154_0
                          try clear hcz154_1
                          try clear hcz154_2
                          try clear hcz156_0
                          try clear hcz156_1
                          try clear hcz156_2
                          try clear hcz158_0
                          try clear hcz158_1
                          try clear hcz158_2
                          try clear hcz163_0
                          try clear hcz163_1
                          try clear hcz163_2
                          try clear hcz46_0
                          try clear hcz46_1
                          try clear hcz46_2
                          try clear hcz48_0
                          try clear hcz48_1
                          try clear hcz48_2
                          try clear hcz50_0
                          try clear hcz50_1
                          try clear hcz50_2
                          try clear hcz52_0
                          try clear hcz52_1
                          try clear hcz52_2
                          try clear hcz57_0
                          try clear hcz57_1
                          try clear hcz57_2
                          try clear hcz58_0
                          try clear hcz58_1
                          try clear hcz58_2
                          try clear hcz60_0
                          try clear hcz60_1
                          try clear hcz60_2
                          try clear hcz62_0
                          try clear hcz62_1
                          try clear hcz62_2
                          try clear hcz64_0
                          try clear hcz64_1
                          try clear hcz64_2
                          try clear hcz66_0
                          try clear hcz66_1
                          try clear hcz66_2
                          try clear hcz71_0
                          try clear hcz71_1
                          try clear hcz71_2
                          try clear hcz72_0
                          try clear hcz72_1
                          try clear hcz72_2
                          try clear hcz74_0
                          try clear hcz74_1
                          try clear hcz74_2
                          try clear hcz76_0
                          try clear hcz76_1
                          try clear hcz76_2
                          try clear hcz78_0
                          try clear hcz78_1
                          try clear hcz78_2
                          try clear hcz80_0
                          try clear hcz80_1
                          try clear hcz80_2
                          try clear hcz85_0
                          try clear hcz85_1
                          try clear hcz85_2
                          try clear hcz87_0
                          try clear hcz87_1
                          try clear hcz87_2
                          try clear hcz89_0
                          try clear hcz89_1
                          try clear hcz89_2
                          try clear hcz91_0
                          try clear hcz91_1
                          try clear hcz91_2
                          try clear hcz93_0
                          try clear hcz93_1
                          try clear hcz93_2
                          try clear hcz98_0
                          try clear hcz98_1
                          try clear hcz98_2
                          try clear hfz100_0
                          try clear hfz100_1
                          try clear hfz100_2
                          try clear hfz102_0
                          try clear hfz102_1
                          try clear hfz102_2
                          try clear hfz104_0
                          try clear hfz104_1
                          try clear hfz104_2
                          try clear hfz106_0
                          try clear hfz106_1
                          try clear hfz106_2
                          try clear hfz111_0
                          try clear hfz111_1
                          try clear hfz111_2
                          try clear hfz113_0
                          try clear hfz113_1
                          try clear hfz113_2
                          try clear hfz115_0
                          try clear hfz115_1
                          try clear hfz115_2
                          try clear hfz117_0
                          try clear hfz117_1
                          try clear hfz117_2
                          try clear hfz119_0
                          try clear hfz119_1
                          try clear hfz119_2
                          try clear hfz124_0
                          try clear hfz124_1
                          try clear hfz124_2
                          try clear hfz126_0
                          try clear hfz126_1
                          try clear hfz126_2
                          try clear hfz128_0
                          try clear hfz128_1
                          try clear hfz128_2
                          try clear hfz130_0
                          try clear hfz130_1
                          try clear hfz130_2
                          try clear hfz132_0
                          try clear hfz132_1
                          try clear hfz132_2
                          try clear hfz137_0
                          try clear hfz137_1
                          try clear hfz137_2
                          try clear hfz139_0
                          try clear hfz139_1
                          try clear hfz139_2
                          try clear hfz141_0
                          try clear hfz141_1
                          try clear hfz141_2
                          try clear hfz143_0
                          try clear hfz143_1
                          try clear hfz143_2
                          try clear hfz145_0
                          try clear hfz145_1
                          try clear hfz145_2
                          try clear hfz150_0
                          try clear hfz150_1
                          try clear hfz150_2
                          try clear hfz152_0
                          try clear hfz152_1
                          try clear hfz152_2
                          try clear hfz154_0
                          try clear hfz154_1
                          try clear hfz154_2
                          try clear hfz156_0
                          try clear hfz156_1
                          try clear hfz156_2
                          try clear hfz158_0
                          try clear hfz158_1
                          try clear hfz158_2
                          try clear hfz163_0
                          try clear hfz163_1
                          try clear hfz163_2
                          try clear hfz46_0
                          try clear hfz46_1
                          try clear hfz46_2
                          try clear hfz48_0
                          try clear hfz48_1
                          try clear hfz48_2
                          try clear hfz50_0
                          try clear hfz50_1
                          try clear hfz50_2
                          try clear hfz52_0
                          try clear hfz52_1
                          try clear hfz52_2
                          try clear hfz57_0
                          try clear hfz57_1
                          try clear hfz57_2
                          try clear hfz58_0
                          try clear hfz58_1
                          try clear hfz58_2
                          try clear hfz60_0
                          try clear hfz60_1
                          try clear hfz60_2
                          try clear hfz62_0
                          try clear hfz62_1
                          try clear hfz62_2
                          try clear hfz64_0
                          try clear hfz64_1
                          try clear hfz64_2
                          try clear hfz66_0
                          try clear hfz66_1
                          try clear hfz66_2
                          try clear hfz71_0
                          try clear hfz71_1
                          try clear hfz71_2
                          try clear hfz72_0
                          try clear hfz72_1
                          try clear hfz72_2
                          try clear hfz74_0
                          try clear hfz74_1
                          try clear hfz74_2
                          try clear hfz76_0
                          try clear hfz76_1
                          try clear hfz76_2
                          try clear hfz78_0
                          try clear hfz78_1
                          try clear hfz78_2
                          try clear hfz80_0
                          try clear hfz80_1
                          try clear hfz80_2
                          try clear hfz85_0
                          try clear hfz85_1
                          try clear hfz85_2
                          try clear hfz87_0
                          try clear hfz87_1
                          try clear hfz87_2
                          try clear hfz89_0
                          try clear hfz89_1
                          try clear hfz89_2
                          try clear hfz91_0
                          try clear hfz91_1
                          try clear hfz91_2
                          try clear hfz93_0
                          try clear hfz93_1
                          try clear hfz93_2
                          try clear hfz98_0
                          try clear hfz98_1
                          try clear hfz98_2
                          try clear hx580_0
                          try clear hx580_1
                          try clear hx580_2
                          try clear hx603_0
                          try clear p2
                          try clear p5
                          try clear p58
                          try clear p580
                          try clear p6
                          try clear p60
                          try clear p603
                          try clear p64
                          try clear q5
                          try clear q58
                          try clear q580
                          try clear q6
                          try clear q60
                          try clear q603
                          obtain⟨x35_6,x243_6,rfl,rfl,HA,HK6,HO_5,HO_228,HO_241,HB⟩:=hrel
                          cases gk with
                          | zero=>exact absurd HA.out (by simp[laws_FnChecksums.l2])
                          | succ k6=>
                           have H:=HA.out
                           clear HA
                           simp only[laws_FnChecksums.l2]at H
                           by_cases c189:x243_6<(t564.length:Int)
                           ·rw[if_pos c189]at H
                            have c189b0:decide (x243_6<(t564.length:Int))=true:=decide_eq_true c189
                            clear c189
                            by_cases c190:0≤x243_6
                            ·rw[if_pos c190]at H
                             have c190b0:decide (0≤x243_6)=true:=decide_eq_true c190
                             clear c190
                             by_cases c191:x243_6<(t564.length:Int)
                             ·rw[if_pos c191]at H
                              have c191b0:decide (x243_6<(t564.length:Int))=true:=decide_eq_true c191
                              clear c191
                              by_cases c192:x35_6=true
                              ·subst c192
                               replace H:(laws_FnChecksums.l2 k6 l1 t564 x230_4 (rd t575 x230_4) true t575 (t575.length:Int) x230_4 t564 (t564.length:Int) (wrap64 (x243_6+1)))=some r:=by rw[if_pos rfl]at H;exact H
                               have H':=am_ H
                               clear H
                               have p604:0≤(x243_6:Int):=of_decide_eq_true (a10_)
                               have q604:x243_6<(t564.length:Int):=of_decide_eq_true (a10_)
                               obtain⟨ad604,e604,hx604_0,hx604_1,hx604_2⟩:=at_T33 (Kd.R_reads' HO_241.out).2.2 x243_6 p604 q604
                               cases e604
                               replace p604:=eq_true p604
                               replace q604:=eq_true q604
                               go_wp2_with (first|((with_reducible refine gate_dst (N:=37) rfl ?_);(try(refine gate_guard (by rfl) ?_;dsimp only));refine box_event ?hg (N:=37) ?hd (cs:= #[.int .i64 0, .int .i64 0, .int .i64 0]) (t:=33) ?hr ?_;(case hd=>rfl);(case hg=>rfl);(case hr=>exact hr_);intro gb605 hg w193 hbox hb;replace HO_5:=am_ (Kd.R_below (Kd.R_elderB ((a1_ HO_5.out)) gb605 (Nat.le_of_eq hg.symm)) hb);replace HO_228:=am_ (Kd.R_below ((a1_ HO_228.out)) hb);replace HO_241:=am_ (Kd.R_below (Kd.R_elderB ((a1_ HO_241.out)) gb605 (Nat.le_of_eq hg.symm)) hb);have BK605:=am_ (hbox);have GW605:=am_ ((by rw[hg];exact(below_size (a0_)):w.heap.size≤gb605));have GE605:=am_ ((by rw[hg];exact(below_size (a0_)):w.heap.size≤gb605));replace HB:=am_ (below_step (a0_) hb);clear hb hbox hg;have hcz194_0:w193.cell? ⟨gb605,0,none⟩=some (.int .i64 0):=(blk_cell BK605.out 0).trans rfl;have hcz194_1:w193.cell? ⟨gb605,1,none⟩=some (.int .i64 0):=(blk_cell BK605.out 1).trans rfl;have hcz194_2:w193.cell? ⟨gb605,2,none⟩=some (.int .i64 0):=(blk_cell BK605.out 2).trans rfl;have hfz194_0:=blk_frozen BK605.out 0;have hfz194_1:=blk_frozen BK605.out 1;have hfz194_2:=blk_frozen BK605.out 2))
                               go_roundg k6
                               case measure=>have:=HJ9.out;have:=HK2.out;have:=HJ166.out;have:=HK4.out;have:=HJ185.out;have:=HK6.out;omega
                               case rel=>exact⟨(true),(wrap64 (x243_6+1)),(by first | rfl|(simp;done)|(simp[*];done)),(by first | rfl|(simp;done)|(simp[*];done)),H',⟨by have:=HJ9.out;have:=HK2.out;have:=HJ166.out;have:=HK4.out;have:=HJ185.out;have:=HK6.out;omega⟩,⟨(a27_ HO_5.out)⟩,⟨(a41_ HO_228.out BK605.out)⟩,⟨(a27_ HO_241.out)⟩,⟨(a3_ GE605.out)⟩⟩
                              ·replace c192:=Bool.eq_false_iff.mpr c192
                               subst c192
                               replace H:(laws_FnChecksums.l2 k6 l1 t564 x230_4 (rd t575 x230_4) (((rd_T33 t564 x243_6).f0) == x230_4) t575 (t575.length:Int) x230_4 t564 (t564.length:Int) (wrap64 (x243_6+1)))=some r:=by rw[if_neg (show ¬(false=true) by decide)]at H;exact H
                               have H':=am_ H
                               clear H
                               have p604:0≤(x243_6:Int):=of_decide_eq_true (a10_)
                               have q604:x243_6<(t564.length:Int):=of_decide_eq_true (a10_)
                               obtain⟨ad604,e604,hx604_0,hx604_1,hx604_2⟩:=at_T33 (Kd.R_reads' HO_241.out).2.2 x243_6 p604 q604
                               cases e604
                               replace p604:=eq_true p604
                               replace q604:=eq_true q604
                               go_wp2_with (first|((with_reducible refine gate_dst (N:=37) rfl ?_);(try(refine gate_guard (by rfl) ?_;dsimp only));refine box_event ?hg (N:=37) ?hd (cs:= #[.int .i64 0, .int .i64 0, .int .i64 0]) (t:=33) ?hr ?_;(case hd=>rfl);(case hg=>rfl);(case hr=>exact hr_);intro gb605 hg w195 hbox hb;replace HO_5:=am_ (Kd.R_below (Kd.R_elderB ((a1_ HO_5.out)) gb605 (Nat.le_of_eq hg.symm)) hb);replace HO_228:=am_ (Kd.R_below ((a1_ HO_228.out)) hb);replace HO_241:=am_ (Kd.R_below (Kd.R_elderB ((a1_ HO_241.out)) gb605 (Nat.le_of_eq hg.symm)) hb);have BK605:=am_ (hbox);have GW605:=am_ ((by rw[hg];exact(below_size (a0_)):w.heap.size≤gb605));have GE605:=am_ ((by rw[hg];exact(below_size (a0_)):w.heap.size≤gb605));replace HB:=am_ (below_step (a0_) hb);clear hb hbox hg;have hcz196_0:w195.cell? ⟨gb605,0,none⟩=some (.int .i64 0):=(blk_cell BK605.out 0).trans rfl;have hcz196_1:w195.cell? ⟨gb605,1,none⟩=some (.int .i64 0):=(blk_cell BK605.out 1).trans rfl;have hcz196_2:w195.cell? ⟨gb605,2,none⟩=some (.int .i64 0):=(blk_cell BK605.out 2).trans rfl;have hfz196_0:=blk_frozen BK605.out 0;have hfz196_1:=blk_frozen BK605.out 1;have hfz196_2:=blk_frozen BK605.out 2))
                               go_roundg k6
                               case measure=>have:=HJ9.out;have:=HK2.out;have:=HJ166.out;have:=HK4.out;have:=HJ185.out;have:=HK6.out;omega
                               case rel=>exact⟨((((rd_T33 t564 x243_6).f0) == x230_4)),(wrap64 (x243_6+1)),(by first | rfl|(simp;done)|(simp[*];done)),(by first | rfl|(simp;done)|(simp[*];done)),H',⟨by have:=HJ9.out;have:=HK2.out;have:=HJ166.out;have:=HK4.out;have:=HJ185.out;have:=HK6.out;omega⟩,⟨(a27_ HO_5.out)⟩,⟨(a41_ HO_228.out BK605.out)⟩,⟨(a27_ HO_241.out)⟩,⟨(a3_ GE605.out)⟩⟩
                             ·rw[if_neg c191]at H
                              exact absurd H (by simp)
                            ·rw[if_neg c190]at H
                             exact absurd H (by simp)
                           ·rw[if_neg c189]at H
                            have c189b0:decide (x243_6<(t564.length:Int))=false:=decide_eq_false c189
                            clear c189
                            by_cases c197:x35_6=true
                            ·subst c197
                             replace H:(laws_FnChecksums.l1 k6 l1 t564 t575 (t575.length:Int) (wrap64 (x230_4+1)))=some r:=by rw[if_pos rfl]at H;exact H
                             have H':=am_ H
                             clear H
                             go_wp2
                             go_roundg k6
                             case measure=>have:=HJ9.out;have:=HK2.out;have:=HJ166.out;have:=HK4.out;have:=HJ185.out;have:=HK6.out;omega
                             case rel=>exact⟨(wrap64 (x230_4+1)),(by first | rfl|(simp;done)|(simp[*];done)),H',⟨by have:=HJ9.out;have:=HK2.out;have:=HJ166.out;have:=HK4.out;have:=HJ185.out;have:=HK6.out;omega⟩,⟨(a1_ HO_5.out)⟩,⟨(a1_ HO_228.out)⟩,⟨a0_⟩⟩
                            ·replace c197:=Bool.eq_false_iff.mpr c197
                             subst c197
                             replace H:(if(rd t575 x230_4)=1 then(laws_FnChecksums.l1 k6 l1 t564 t575 (t575.length:Int) (wrap64 (x230_4+1))) else(some false))=some r:=by rw[if_neg (show ¬(false=true) by decide)]at H;exact H
                             by_cases c198:(rd t575 x230_4)=1
                             ·rw[if_pos c198]at H
                              have c198b0:((rd t575 x230_4) == 1)=true:=beq_iff_eq.mpr c198
                              have c198b1:((rd t575 x230_4) != 1)=false:=bne_eq_false_iff_eq.mpr c198
                              clear c198
                              have H':=am_ H
                              clear H
                              go_wp2
                              go_roundg k6
                              case measure=>have:=HJ9.out;have:=HK2.out;have:=HJ166.out;have:=HK4.out;have:=HJ185.out;have:=HK6.out;omega
                              case rel=>exact⟨(wrap64 (x230_4+1)),(by first | rfl|(simp;done)|(simp[*];done)),H',⟨by have:=HJ9.out;have:=HK2.out;have:=HJ166.out;have:=HK4.out;have:=HJ185.out;have:=HK6.out;omega⟩,⟨(a1_ HO_5.out)⟩,⟨(a1_ HO_228.out)⟩,⟨a0_⟩⟩
                             ·rw[if_neg c198]at H
                              have c198b0:((rd t575 x230_4) == 1)=false:=beq_eq_false_iff_ne.mpr c198
                              have c198b1:((rd t575 x230_4) != 1)=true:=bne_iff_ne.mpr c198
                              exact absurd ((Option.some.inj H).trans HR_.out) (by decide)
                    ·rw[if_neg c185]at H
                     exact absurd H (by simp)
                   ·rw[if_neg c184]at H
                    exact absurd H (by simp)
                  ·rw[if_neg c183]at H
                   have c183b0:decide (x230_4<(t575.length:Int))=false:=decide_eq_false c183
                   clear c183
                   have H':=am_ H
                   clear H
                   go_wp2
                   all_goals
                    go_meet
                    case rel=>exact⟨_,H',⟨by have:=HJ9.out;have:=HK2.out;have:=HJ166.out;have:=HK4.out;first | omega|exact Nat.le_refl _⟩,⟨a0_⟩⟩
        ·replace c28:=Bool.eq_false_iff.mpr c28
         subst c28
         replace H:(laws_FnChecksums.j6 kj9 l1)=some r:=by rw[if_neg (show ¬(false=true) by decide)]at H;exact H
         have H':=am_ H
         clear H
         go_wp2
         all_goals
          go_meet
          case rel=>exact⟨_,H',⟨by have:=HJ9.out;first | omega|exact Nat.le_refl _⟩,⟨a0_⟩⟩
      case rest=>
       as_aux_lemma=>
        clear HC27
        try clear c1
        try clear c2
        try clear p2
        try clear c3
        try clear c4
        try clear c5
        try clear p5
        try clear q5
        try clear hx5
        try clear c6
        try clear p6
        try clear q6
        try clear hx6
        try clear c7
        try clear c8
        try clear c9
        try clear c10
        try clear c11
        try clear c12
        try clear c13
        try clear c14
        try clear c15
        try clear c16
        try clear c17
        try clear c17b0
        try clear c17b1
        try clear c17b2
        try clear c18
        try clear c18b0
        try clear c18b1
        try clear c19
        try clear c19b0
        try clear c19b1
        try clear c19b2
        try clear c21
        try clear c26
        try clear c28
        try clear c29
        try clear c29b0
        try clear c30
        try clear c30b0
        try clear c31
        try clear c31b0
        try clear c37
        try clear c38
        try clear c39
        try clear c39b0
        try clear c39b1
        try clear c40
        try clear c41
        try clear c42
        try clear c42b0
        try clear c42b1
        try clear c43
        try clear c44
        try clear c44b0
        try clear c56
        try clear p58
        try clear q58
        try clear hx58
        try clear p60
        try clear q60
        try clear hx60
        try clear p64
        try clear c70
        try clear c84
        try clear c97
        try clear c110
        try clear c123
        try clear c136
        try clear c149
        try clear c162
        try clear c171
        try clear c171b0
        try clear c171b1
        try clear c172
        try clear c173
        try clear c173b0
        try clear c173b1
        try clear c174
        try clear c175
        try clear c175b0
        try clear c175b1
        try clear c176
        try clear c177
        try clear c177b0
        try clear c177b1
        try clear c181
        try clear c183
        try clear c183b0
        try clear c184
        try clear c184b0
        try clear c185
        try clear c185b0
        try clear c187
        try clear c187b0
        try clear c188
        try clear c189
        try clear c189b0
        try clear c190
        try clear c190b0
        try clear c191
        try clear c191b0
        try clear c192
        try clear c197
        try clear c198
        try clear c198b0
        try clear c198b1
        try clear hcz100_0
        try clear hcz100_1
        try clear hcz100_2
        try clear hcz102_0
        try clear hcz102_1
        try clear hcz102_2
        try clear hcz104_0
        try clear hcz104_1
        try clear hcz104_2
        try clear hcz106_0
        try clear hcz106_1
        try clear hcz106_2
        try clear hcz111_0
        try clear hcz111_1
        try clear hcz111_2
        try clear hcz113_0
        try clear hcz113_1
        try clear hcz113_2
        try clear hcz115_0
        try clear hcz115_1
        try clear hcz115_2
        try clear hcz117_0
        try clear hcz117_1
        try clear hcz117_2
        try clear hcz119_0
        try clear hcz119_1
        try clear hcz119_2
        try clear hcz124_0
        try clear hcz124_1
        try clear hcz124_2
        try clear hcz126_0
        try clear hcz126_1
        try clear hcz126_2
        try clear hcz128_0
        try clear hcz128_1
        try clear hcz128_2
        try clear hcz130_0
        try clear hcz130_1
        try clear hcz130_2
        try clear hcz132_0
        try clear hcz132_1
        try clear hcz132_2
        try clear hcz137_0
        try clear hcz137_1
        try clear hcz137_2
        try clear hcz139_0
        try clear hcz139_1
        try clear hcz139_2
        try clear hcz141_0
        try clear hcz141_1
        try clear hcz141_2
        try clear hcz143_0
        try clear hcz143_1
        try clear hcz143_2
        try clear hcz145_0
        try clear hcz145_1
        try clear hcz145_2
        try clear hcz150_0
        try clear hcz150_1
        try clear hcz150_2
        try clear hcz152_0
        try clear hcz152_1
        try clear hcz152_2
        try clear hcz154_0
        try clear hcz154_1
        try clear hcz154_2
        try clear hcz156_0
        try clear hcz156_1
        try clear hcz156_2
        try clear hcz158_0
        try clear hcz158_1
        try clear hcz158_2
        try clear hcz163_0
        try clear hcz163_1
        try clear hcz163_2
        try clear hcz194_0
        try clear hcz194_1
        try clear hcz194_2
        try clear hcz196_0
        try clear hcz196_1
        try clear hcz196_2
        try clear hcz46_0
        try clear hcz46_1
        try clear hcz46_2
        try clear hcz48_0
        try clear hcz48_1
        try clear hcz48_2
        try clear hcz50_0
        try clear hcz50_1
        try clear hcz50_2
        try clear hcz52_0
        try clear hcz52_1
        try clear hcz52_2
        try clear hcz57_0
        try clear hcz57_1
        try clear hcz57_2
        try clear hcz58_0
        try clear hcz58_1
        try clear hcz58_2
        try clear hcz60_0
        try clear hcz60_1
        try clear hcz60_2
        try clear hcz62_0
        try clear hcz62_1
        try clear hcz62_2
        try clear hcz64_0
        try clear hcz64_1
        try clear hcz64_2
        try clear hcz66_0
        try clear hcz66_1
        try clear hcz66_2
        try clear hcz71_0
        try clear hcz71_1
        try clear hcz71_2
        try clear hcz72_0
        try clear hcz72_1
        try clear hcz72_2
        try clear hcz74_0
        try clear hcz74_1
        try clear hcz74_2
        try clear hcz76_0
        try clear hcz76_1
        try clear hcz76_2
        try clear hcz78_0
        try clear hcz78_1
        try clear hcz78_2
        try clear hcz80_0
        try clear hcz80_1
        try clear hcz80_2
        try clear hcz85_0
        try clear hcz85_1
        try clear hcz85_2
        try clear hcz87_0
        try clear hcz87_1
        try clear hcz87_2
        try clear hcz89_0
        try clear hcz89_1
        try clear hcz89_2
        try clear hcz91_0
        try clear hcz91_1
        try clear hcz91_2
        try clear hcz93_0
        try clear hcz93_1
        try clear hcz93_2
        try clear hcz98_0
        try clear hcz98_1
        try clear hcz98_2
        try clear hfz100_0
        try clear hfz100_1
        try clear hfz100_2
        try clear hfz102_0
        try clear hfz102_1
        try clear hfz102_2
        try clear hfz104_0
        try clear hfz104_1
        try clear hfz104_2
        try clear hfz106_0
        try clear hfz106_1
        try clear hfz106_2
        try clear hfz111_0
        try clear hfz111_1
        try clear hfz111_2
        try clear hfz113_0
        try clear hfz113_1
        try clear hfz113_2
        try clear hfz115_0
        try clear hfz115_1
        try clear hfz115_2
        try clear hfz117_0
        try clear hfz117_1
        try clear hfz117_2
        try clear hfz119_0
        try clear hfz119_1
        try clear hfz119_2
        try clear hfz124_0
        try clear hfz124_1
        try clear hfz124_2
        try clear hfz126_0
        try clear hfz126_1
        try clear hfz126_2
        try clear hfz128_0
        try clear hfz128_1
        try clear hfz128_2
        try clear hfz130_0
        try clear hfz130_1
        try clear hfz130_2
        try clear hfz132_0
        try clear hfz132_1
        try clear hfz132_2
        try clear hfz137_0
        try clear hfz137_1
        try clear hfz137_2
        try clear hfz139_0
        try clear hfz139_1
        try clear hfz139_2
        try clear hfz141_0
        try clear hfz141_1
        try clear hfz141_2
        try clear hfz143_0
        try clear hfz143_1
        try clear hfz143_2
        try clear hfz145_0
        try clear hfz145_1
        try clear hfz145_2
        try clear hfz150_0
        try clear hfz150_1
        try clear hfz150_2
        try clear hfz152_0
        try clear hfz152_1
        try clear hfz152_2
        try clear hfz154_0
        try clear hfz154_1
        try clear hfz154_2
        try clear hfz156_0
        try clear hfz156_1
        try clear hfz156_2
        try clear hfz158_0
        try clear hfz158_1
        try clear hfz158_2
        try clear hfz163_0
        try clear hfz163_1
        try clear hfz163_2
        try clear hfz194_0
        try clear hfz194_1
        try clear hfz194_2
        try clear hfz196_0
        try clear hfz196_1
        try clear hfz196_2
        try clear hfz46_0
        try clear hfz46_1
        try clear hfz46_2
        try clear hfz48_0
        try clear hfz48_1
        try clear hfz48_2
        try clear hfz50_0
        try clear hfz50_1
        try clear hfz50_2
        try clear hfz52_0
        try clear hfz52_1
        try clear hfz52_2
        try clear hfz57_0
        try clear hfz57_1
        try clear hfz57_2
        try clear hfz58_0
        try clear hfz58_1
        try clear hfz58_2
        try clear hfz60_0
        try clear hfz60_1
        try clear hfz60_2
        try clear hfz62_0
        try clear hfz62_1
        try clear hfz62_2
        try clear hfz64_0
        try clear hfz64_1
        try clear hfz64_2
        try clear hfz66_0
        try clear hfz66_1
        try clear hfz66_2
        try clear hfz71_0
        try clear hfz71_1
        try clear hfz71_2
        try clear hfz72_0
        try clear hfz72_1
        try clear hfz72_2
        try clear hfz74_0
        try clear hfz74_1
        try clear hfz74_2
        try clear hfz76_0
        try clear hfz76_1
        try clear hfz76_2
        try clear hfz78_0
        try clear hfz78_1
        try clear hfz78_2
        try clear hfz80_0
        try clear hfz80_1
        try clear hfz80_2
        try clear hfz85_0
        try clear hfz85_1
        try clear hfz85_2
        try clear hfz87_0
        try clear hfz87_1
        try clear hfz87_2
        try clear hfz89_0
        try clear hfz89_1
        try clear hfz89_2
        try clear hfz91_0
        try clear hfz91_1
        try clear hfz91_2
        try clear hfz93_0
        try clear hfz93_1
        try clear hfz93_2
        try clear hfz98_0
        try clear hfz98_1
        try clear hfz98_2
        try clear hx580_0
        try clear hx580_1
        try clear hx580_2
        try clear hx603_0
        try clear hx604_0
        try clear hx604_1
        try clear hx604_2
        try clear p2
        try clear p5
        try clear p58
        try clear p580
        try clear p6
        try clear p60
        try clear p603
        try clear p604
        try clear p64
        try clear q5
        try clear q58
        try clear q580
        try clear q6
        try clear q60
        try clear q603
        try clear q604
        obtain⟨kq,HA,HJ26,HB⟩:=hcut
        cases kq with
        | zero=>exact absurd HA.out (by simp[laws_FnChecksums.j6])
        | succ kj26=>
         have H:=HA.out
         clear HA
         simp only[laws_FnChecksums.j6]at H
         obtain⟨⟨t606,t607⟩,A199,H⟩:=bo_ H
         try dsimp only at H
         obtain⟨⟨t612,t613⟩,A200,H⟩:=bo_ H
         try dsimp only at H
         obtain⟨⟨t616,t617⟩,A201,H⟩:=bo_ H
         try dsimp only at H
         obtain⟨t620,A202,H⟩:=bo_ H
         try dsimp only at H
         obtain⟨⟨t621,t622,t623,t624⟩,A203,H⟩:=bo_ H
         try dsimp only at H
         obtain⟨⟨t626,t627,t628,t629⟩,A204,H⟩:=bo_ H
         try dsimp only at H
         obtain⟨t631,A205,H⟩:=bo_ H
         try dsimp only at H
         obtain⟨⟨t632,t633⟩,A206,H⟩:=bo_ H
         try dsimp only at H
         obtain⟨⟨t634,t635⟩,A207,H⟩:=bo_ H
         try dsimp only at H
         obtain⟨t636,A208,H⟩:=bo_ H
         try dsimp only at H
         obtain⟨⟨t637,t638⟩,A209,H⟩:=bo_ H
         try dsimp only at H
         obtain⟨⟨t639,t640⟩,A210,H⟩:=bo_ H
         try dsimp only at H
         by_cases c211:(t613 == t617)=true
         ·rw[if_pos c211]at H
          have c211b0:(t613 == t617)=true:=c211
          (try(have c211b1:decide (t613=t617)=true:=by simpa using c211))
          (try(have c211b2:(t613 == t617)=true:=by simpa using c211))
          clear c211
          obtain⟨t641,A212,H⟩:=bo_ H
          try dsimp only at H
          by_cases c213:t641=true
          ·subst c213
           replace H:(if(t624 == t629)=true then(if(t621 == t626 && (t622 == t627 && (t623 == t628)))=true then(if(t633 == t635)=true then(if t632=t634 then(if(t638 == t640)=true then(some (t637.toList == t639.toList)) else(some false)) else(some false)) else(some false)) else(some false)) else(some false))=some r:=by rw[if_pos rfl]at H;exact H
           by_cases c214:(t624 == t629)=true
           ·rw[if_pos c214]at H
            have c214b0:(t624 == t629)=true:=c214
            (try(have c214b1:decide (t624=t629)=true:=by simpa using c214))
            (try(have c214b2:(t624 == t629)=true:=by simpa using c214))
            clear c214
            by_cases c215:(t621 == t626 && (t622 == t627 && (t623 == t628)))=true
            ·rw[if_pos c215]at H
             have c215b0:(t621 == t626 && (t622 == t627 && (t623 == t628)))=true:=c215
             (try(have c215b1:decide (t621=t626 && (t622 == t627 && (t623 == t628)))=true:=by simpa using c215))
             (try(have c215b2:(t621 == t626 && (t622 == t627 && (t623 == t628)))=true:=by simpa using c215))
             clear c215
             by_cases c216:(t633 == t635)=true
             ·rw[if_pos c216]at H
              have c216b0:(t633 == t635)=true:=c216
              (try(have c216b1:decide (t633=t635)=true:=by simpa using c216))
              (try(have c216b2:(t633 == t635)=true:=by simpa using c216))
              clear c216
              by_cases c217:t632=t634
              ·rw[if_pos c217]at H
               have c217b0:(t632 == t634)=true:=beq_iff_eq.mpr c217
               have c217b1:(t632 != t634)=false:=bne_eq_false_iff_eq.mpr c217
               clear c217
               by_cases c218:(t638 == t640)=true
               ·rw[if_pos c218]at H
                have c218b0:(t638 == t640)=true:=c218
                (try(have c218b1:decide (t638=t640)=true:=by simpa using c218))
                (try(have c218b2:(t638 == t640)=true:=by simpa using c218))
                clear c218
                obtain rfl:=Option.some.inj H
                go_wp2_with (first|((with_reducible refine gate_callee (f:=20) rfl ?_);refine goesL_ (some 264) rfl rfl Tryd.func20 (by kernel_rfl) rfl #[.slice A1 l1.length c1] rfl gd_ ?_;(with_reducible refine(spec_DrawDifferentTracks.calls kj26 _ _ l1 t606 t607 _ ?side1 ?side2 A199.out).mono ?_);(case side1=>exact(a21_ HR1.out));(case side2=>exact HC1.out);rintro e w219 ⟨v608,v610,rfl,ho0,ho1,hb⟩;refine⟨_,rfl,?_⟩;have HO609:=am_ (Kd.Q_lower (Kd.Q_mono (ok':=fun _=>True) ho0 (fun _ _=>trivial)) (below_size (a0_)));have HO611:=am_ (Kd.R_lower (Kd.R_mono (ok':=fun _=>True) ho1 (fun _ _=>trivial)) (below_size (a0_)));replace HB:=am_ (below_step (a0_) hb);(try clear hb);(try clear hb2);(try clear hk);(try clear hi);(try clear ho0);(try clear ho1);obtain⟨Ao220,co220,eo220,_⟩:=Kd.Q_slice HO609.out;subst eo220;obtain⟨Ao221,co221,eo221⟩:=Kd.R_slice HO611.out;subst eo221)|((with_reducible refine gate_callee (f:=19) rfl ?_);refine goesL_ (some 270) rfl rfl Tryd.func19 (by kernel_rfl) rfl #[.slice Ao220 t606.length co220, .slice Ao221 t607.length co221] rfl gd_ ?_;(with_reducible refine(impl_DifferentTracks.calls kj26 _ _ t606 _ _ t607 t612 t613 _ ?side1 ?side2 ?side3 ?side4 A200.out).mono ?_);(case side1=>exact(a51_ HO609.out));(case side2=>exact(Kd.Q_reads' HO609.out).2.1);(case side3=>exact(a12_ HO611.out));(case side4=>exact(Kd.R_reads' HO611.out).2.1);rintro e w222 ⟨v614,rfl,ho0,hb⟩;refine⟨_,rfl,?_⟩;replace HO609:=am_ (Kd.Q_below ((a39_ HO609.out)) hb);replace HO611:=am_ (Kd.R_below ((a1_ HO611.out)) hb);have HO615:=am_ (Kd.R_lower ho0 (below_size (a0_)));replace HB:=am_ (below_step (a0_) hb);(try clear hb);(try clear hb2);(try clear hk);(try clear hi);(try clear ho0))|((with_reducible refine gate_callee (f:=21) rfl ?_);refine goesL_ (some 276) rfl rfl Tryd.func21 (by kernel_rfl) rfl #[.slice Ao220 t606.length co220, .slice Ao221 t607.length co221] rfl gd_ ?_;(with_reducible refine(spec_DifferentTracks.calls kj26 _ _ t606 _ _ t607 t616 t617 _ ?side1 ?side2 ?side3 ?side4 A201.out).mono ?_);(case side1=>exact(a51_ HO609.out));(case side2=>exact(Kd.Q_reads' HO609.out).2.1);(case side3=>exact(a12_ HO611.out));(case side4=>exact(Kd.R_reads' HO611.out).2.1);rintro e w223 ⟨v618,rfl,ho0,hb⟩;refine⟨_,rfl,?_⟩;replace HO609:=am_ (Kd.Q_below ((a39_ HO609.out)) hb);replace HO611:=am_ (Kd.R_below ((a1_ HO611.out)) hb);replace HO615:=am_ (Kd.R_below ((a1_ HO615.out)) hb);have HO619:=am_ (Kd.R_lower ho0 (below_size (a0_)));replace HB:=am_ (below_step (a0_) hb);(try clear hb);(try clear hb2);(try clear hk);(try clear hi);(try clear ho0))|((with_reducible refine gate_callee (f:=22) rfl ?_);refine goesL_ (some 280) rfl rfl Tryd.func22 (by kernel_rfl) rfl #[.slice A1 l1.length c1] rfl gd_ ?_;(with_reducible refine(spec_DrawHoleOfNumber.calls _ _ l1 t620 _ ?side1 ?side2 A202.out).mono ?_);(case side1=>exact(a21_ HR1.out));(case side2=>exact HC1.out);rintro e w224 ⟨rfl,hb⟩;refine⟨_,rfl,?_⟩;replace HO609:=am_ (Kd.Q_below ((a39_ HO609.out)) hb);replace HO611:=am_ (Kd.R_below ((a1_ HO611.out)) hb);replace HO615:=am_ (Kd.R_below ((a1_ HO615.out)) hb);replace HO619:=am_ (Kd.R_below ((a1_ HO619.out)) hb);replace HB:=am_ (below_step (a0_) hb);(try clear hb);(try clear hb2);(try clear hk);(try clear hi))|((with_reducible refine gate_callee (f:=16) rfl ?_);refine goesL_ (some 283) rfl rfl Tryd.func16 (by kernel_rfl) rfl #[.int .i64 t620] rfl gd_ ?_;(with_reducible refine(impl_HoleOfNumber.calls t620 t621 t622 t623 t624 _ A203.out).mono ?_);rintro e w225 ⟨rfl,hb⟩;refine⟨_,rfl,?_⟩;replace HO609:=am_ (Kd.Q_below ((a39_ HO609.out)) hb);replace HO611:=am_ (Kd.R_below ((a1_ HO611.out)) hb);replace HO615:=am_ (Kd.R_below ((a1_ HO615.out)) hb);replace HO619:=am_ (Kd.R_below ((a1_ HO619.out)) hb);replace HB:=am_ (below_step (a0_) hb);(try clear hb);(try clear hb2);(try clear hk);(try clear hi))|((with_reducible refine gate_dst (N:=45) rfl ?_);(try(refine gate_guard (by rfl) ?_;dsimp only));refine box_event ?hg (N:=45) ?hd (cs:= #[.int .i64 0, .int .i64 0, .int .i64 0]) (t:=33) ?hr ?_;(case hd=>rfl);(case hg=>rfl);(case hr=>exact hr_);intro gb625 hg w226 hbox hb;replace HO609:=am_ (Kd.Q_below ((a39_ HO609.out)) hb);replace HO611:=am_ (Kd.R_below ((a1_ HO611.out)) hb);replace HO615:=am_ (Kd.R_below ((a1_ HO615.out)) hb);replace HO619:=am_ (Kd.R_below ((a1_ HO619.out)) hb);have BK625:=am_ (hbox);have GW625:=am_ ((by rw[hg];exact(below_size (a0_)):w.heap.size≤gb625));have GE625:=am_ ((by rw[hg];exact(below_size (a0_)):w.heap.size≤gb625));replace HB:=am_ (below_step (a0_) hb);clear hb hbox hg;have hcz227_0:w226.cell? ⟨gb625,0,none⟩=some (.int .i64 0):=(blk_cell BK625.out 0).trans rfl;have hcz227_1:w226.cell? ⟨gb625,1,none⟩=some (.int .i64 0):=(blk_cell BK625.out 1).trans rfl;have hcz227_2:w226.cell? ⟨gb625,2,none⟩=some (.int .i64 0):=(blk_cell BK625.out 2).trans rfl;have hfz227_0:=blk_frozen BK625.out 0;have hfz227_1:=blk_frozen BK625.out 1;have hfz227_2:=blk_frozen BK625.out 2)|((with_reducible refine gate_callee (f:=23) rfl ?_);refine goesL_ (some 288) rfl rfl Tryd.func23 (by kernel_rfl) rfl #[.int .i64 t620] rfl gd_ ?_;(with_reducible refine(spec_HoleOfNumber.calls t620 t626 t627 t628 t629 _ A204.out).mono ?_);rintro e w228 ⟨rfl,hb⟩;refine⟨_,rfl,?_⟩;replace HO609:=am_ (Kd.Q_below (by(with_reducible repeat (first|apply Kd.Q_alloc|apply Kd.Q_drewN|apply Kd.Q_drew));exact(Kd.Q_mono (Kd.Q_far (p:=⟨gb625,2,none⟩) (Kd.Q_far (p:=⟨gb625,1,none⟩) (Kd.Q_far (p:=⟨gb625,0,none⟩) (Kd.Q_types HO609.out BK625.out (by decide)) (fun _ hk=>hk.2) (.int .i64 t621)) (fun _ hk=>hk.2) (.int .i64 t622)) (fun _ hk=>hk.2) (.int .i64 t623)) (fun _ h_=>h_.1))) hb);replace HO611:=am_ (Kd.R_below ((a37_ HO611.out BK625.out)) hb);replace HO615:=am_ (Kd.R_below ((a37_ HO615.out BK625.out)) hb);replace HO619:=am_ (Kd.R_below ((a37_ HO619.out BK625.out)) hb);replace BK625:=am_ (blk_below (g:=gb625) (o:= .cells #[.int .i64 t621, .int .i64 t622, .int .i64 t623] 33 (0,0)) (by(with_reducible repeat (first|refine blk_drewN ?_ _ | refine blk_drew ?_ | refine blk_alloc ?_ _));refine blk_put (cs:= #[.int .i64 t621, .int .i64 t622, .int .i64 0]) ?_ 2 _ rfl;(with_reducible repeat (first|refine blk_drewN ?_ _ | refine blk_drew ?_ | refine blk_alloc ?_ _));refine blk_put (cs:= #[.int .i64 t621, .int .i64 0, .int .i64 0]) ?_ 1 _ rfl;(with_reducible repeat (first|refine blk_drewN ?_ _ | refine blk_drew ?_ | refine blk_alloc ?_ _));refine blk_put (cs:= #[.int .i64 0, .int .i64 0, .int .i64 0]) ?_ 0 _ rfl;(with_reducible repeat (first|refine blk_drewN ?_ _ | refine blk_drew ?_ | refine blk_alloc ?_ _));exact BK625.out) hb);replace HB:=am_ (below_step ((a3_ GE625.out)) hb);(try clear hb);(try clear hb2);(try clear hk);(try clear hi))|((with_reducible refine gate_dst (N:=47) rfl ?_);(try(refine gate_guard (by rfl) ?_;dsimp only));refine box_event ?hg (N:=47) ?hd (cs:= #[.int .i64 0, .int .i64 0, .int .i64 0]) (t:=33) ?hr ?_;(case hd=>rfl);(case hg=>rfl);(case hr=>exact hr_);intro gb630 hg w229 hbox hb;replace HO609:=am_ (Kd.Q_below ((a39_ HO609.out)) hb);replace HO611:=am_ (Kd.R_below ((a1_ HO611.out)) hb);replace HO615:=am_ (Kd.R_below ((a1_ HO615.out)) hb);replace HO619:=am_ (Kd.R_below ((a1_ HO619.out)) hb);have BK630:=am_ (hbox);have GW630:=am_ ((by rw[hg];exact(below_size ((a3_ GE625.out))):w.heap.size≤gb630));have GE630:=am_ ((by rw[hg];exact(below_size ((a3_ GE625.out))):w.heap.size≤gb630));replace HB:=am_ (below_step ((a3_ GE625.out)) hb);have NB625_630:=am_ ((by rw[hg];exact Nat.ne_of_lt (blk_lt (g:=gb625) (o:= .cells #[.int .i64 t621, .int .i64 t622, .int .i64 t623] 33 (0,0)) ((a5_ BK625.out))):gb625≠gb630));have NB630_625:=am_ ((by rw[hg];exact Nat.ne_of_gt (blk_lt (g:=gb625) (o:= .cells #[.int .i64 t621, .int .i64 t622, .int .i64 t623] 33 (0,0)) ((a5_ BK625.out))):gb630≠gb625));replace BK625:=am_ (blk_below (g:=gb625) (o:= .cells #[.int .i64 t621, .int .i64 t622, .int .i64 t623] 33 (0,0)) ((a5_ BK625.out)) hb);clear hb hbox hg;have hnb230:=NB630_625.out;have hnc230:=NB625_630.out;have hcz231_0:w229.cell? ⟨gb630,0,none⟩=some (.int .i64 0):=(blk_cell BK630.out 0).trans rfl;have hcz231_1:w229.cell? ⟨gb630,1,none⟩=some (.int .i64 0):=(blk_cell BK630.out 1).trans rfl;have hcz231_2:w229.cell? ⟨gb630,2,none⟩=some (.int .i64 0):=(blk_cell BK630.out 2).trans rfl;have hfz231_0:=blk_frozen BK630.out 0;have hfz231_1:=blk_frozen BK630.out 1;have hfz231_2:=blk_frozen BK630.out 2)|((with_reducible refine gate_callee (f:=24) rfl ?_);refine goesL_ (some 292) rfl rfl Tryd.func24 (by kernel_rfl) rfl #[.slice A1 l1.length c1] rfl gd_ ?_;(with_reducible refine(spec_DrawReadChecksum.calls kj26 _ _ l1 t631 _ ?side1 ?side2 A205.out).mono ?_);(case side1=>exact Kd.C_below HR1.out ((a13_ GE625.out GE630.out)));(case side2=>exact HC1.out);rintro e w232 ⟨rfl,hb⟩;refine⟨_,rfl,?_⟩;replace HO609:=am_ (Kd.Q_below (by(with_reducible repeat (first|apply Kd.Q_alloc|apply Kd.Q_drewN|apply Kd.Q_drew));exact(Kd.Q_mono (Kd.Q_far (p:=⟨gb630,2,none⟩) (Kd.Q_far (p:=⟨gb630,1,none⟩) (Kd.Q_far (p:=⟨gb630,0,none⟩) (Kd.Q_types HO609.out BK630.out (by decide)) (fun _ hk=>hk.2) (.int .i64 t626)) (fun _ hk=>hk.2) (.int .i64 t627)) (fun _ hk=>hk.2) (.int .i64 t628)) (fun _ h_=>h_.1))) hb);replace HO611:=am_ (Kd.R_below ((a38_ HO611.out BK630.out)) hb);replace HO615:=am_ (Kd.R_below ((a38_ HO615.out BK630.out)) hb);replace HO619:=am_ (Kd.R_below ((a38_ HO619.out BK630.out)) hb);replace BK625:=am_ (blk_below (g:=gb625) (o:= .cells #[.int .i64 t621, .int .i64 t622, .int .i64 t623] 33 (0,0)) ((a11_ NB625_630.out BK625.out)) hb);replace BK630:=am_ (blk_below (g:=gb630) (o:= .cells #[.int .i64 t626, .int .i64 t627, .int .i64 t628] 33 (0,0)) (by(with_reducible repeat (first|refine blk_drewN ?_ _ | refine blk_drew ?_ | refine blk_alloc ?_ _));refine blk_put (cs:= #[.int .i64 t626, .int .i64 t627, .int .i64 0]) ?_ 2 _ rfl;(with_reducible repeat (first|refine blk_drewN ?_ _ | refine blk_drew ?_ | refine blk_alloc ?_ _));refine blk_put (cs:= #[.int .i64 t626, .int .i64 0, .int .i64 0]) ?_ 1 _ rfl;(with_reducible repeat (first|refine blk_drewN ?_ _ | refine blk_drew ?_ | refine blk_alloc ?_ _));refine blk_put (cs:= #[.int .i64 0, .int .i64 0, .int .i64 0]) ?_ 0 _ rfl;(with_reducible repeat (first|refine blk_drewN ?_ _ | refine blk_drew ?_ | refine blk_alloc ?_ _));exact BK630.out) hb);replace HB:=am_ (below_step ((a13_ GE625.out GE630.out)) hb);(try clear hb);(try clear hb2);(try clear hk);(try clear hi))|((with_reducible refine gate_callee (f:=18) rfl ?_);refine goesL_ (some 295) rfl rfl Tryd.func18 (by kernel_rfl) rfl #[.string t631] rfl gd_ ?_;(with_reducible refine(impl_ReadChecksum.calls kj26 t631 t632 t633 _ A206.out).mono ?_);rintro e w' ⟨rfl,⟨nd,rfl⟩⟩;refine⟨_,rfl,?_⟩)|((with_reducible refine gate_callee (f:=25) rfl ?_);refine goesL_ (some 300) rfl rfl Tryd.func25 (by kernel_rfl) rfl #[.string t631] rfl gd_ ?_;(with_reducible refine(spec_ReadChecksum.calls kj26 t631 t634 t635 _ A207.out).mono ?_);rintro e w' ⟨rfl,⟨nd,rfl⟩⟩;refine⟨_,rfl,?_⟩)|((with_reducible refine gate_callee (f:=26) rfl ?_);refine goesL_ (some 304) rfl rfl Tryd.func26 (by kernel_rfl) rfl #[.slice A1 l1.length c1] rfl gd_ ?_;(with_reducible refine(spec_DrawChecksumText.calls _ _ l1 t636 _ ?side1 ?side2 A208.out).mono ?_);(case side1=>repeat (first|exact(Kd.C_below HR1.out ((a13_ GE625.out GE630.out)))|(with_reducible refine Kd.C_alloc ?_ _)|(with_reducible refine Kd.C_drewN ?_ _)|(with_reducible refine Kd.C_drew ?_)));(case side2=>exact HC1.out);rintro e w233 ⟨rfl,hb⟩;refine⟨_,rfl,?_⟩;replace HO609:=am_ (Kd.Q_below ((a39_ HO609.out)) hb);replace HO611:=am_ (Kd.R_below ((a1_ HO611.out)) hb);replace HO615:=am_ (Kd.R_below ((a1_ HO615.out)) hb);replace HO619:=am_ (Kd.R_below ((a1_ HO619.out)) hb);replace BK625:=am_ (blk_below (g:=gb625) (o:= .cells #[.int .i64 t621, .int .i64 t622, .int .i64 t623] 33 (0,0)) ((a5_ BK625.out)) hb);replace BK630:=am_ (blk_below (g:=gb630) (o:= .cells #[.int .i64 t626, .int .i64 t627, .int .i64 t628] 33 (0,0)) ((a5_ BK630.out)) hb);replace HB:=am_ (below_step ((a13_ GE625.out GE630.out)) hb);(try clear hb);(try clear hb2);(try clear hk);(try clear hi))|((with_reducible refine gate_callee (f:=17) rfl ?_);refine goesL_ (some 307) rfl rfl Tryd.func17 (by kernel_rfl) rfl #[.int .i64 t636] rfl gd_ ?_;(with_reducible refine(impl_ChecksumText.calls t636 t637 t638 _ ?side9 A209.out).mono ?_);(case side9=>exact DoorLib.tab_below HT0.out (a0_));rintro e w234 ⟨rfl,hb⟩;refine⟨_,rfl,?_⟩;replace HO609:=am_ (Kd.Q_below ((a39_ HO609.out)) hb);replace HO611:=am_ (Kd.R_below ((a1_ HO611.out)) hb);replace HO615:=am_ (Kd.R_below ((a1_ HO615.out)) hb);replace HO619:=am_ (Kd.R_below ((a1_ HO619.out)) hb);replace BK625:=am_ (blk_below (g:=gb625) (o:= .cells #[.int .i64 t621, .int .i64 t622, .int .i64 t623] 33 (0,0)) ((a5_ BK625.out)) hb);replace BK630:=am_ (blk_below (g:=gb630) (o:= .cells #[.int .i64 t626, .int .i64 t627, .int .i64 t628] 33 (0,0)) ((a5_ BK630.out)) hb);replace HB:=am_ (below_step ((a13_ GE625.out GE630.out)) hb);(try clear hb);(try clear hb2);(try clear hk);(try clear hi))|((with_reducible refine gate_callee (f:=27) rfl ?_);refine goesL_ (some 312) rfl rfl Tryd.func27 (by kernel_rfl) rfl #[.int .i64 t636] rfl gd_ ?_;(with_reducible refine(spec_ChecksumText.calls kj26 t636 t639 t640 _ A210.out).mono ?_);rintro e w235 ⟨rfl,hb⟩;refine⟨_,rfl,?_⟩;replace HO609:=am_ (Kd.Q_below ((a39_ HO609.out)) hb);replace HO611:=am_ (Kd.R_below ((a1_ HO611.out)) hb);replace HO615:=am_ (Kd.R_below ((a1_ HO615.out)) hb);replace HO619:=am_ (Kd.R_below ((a1_ HO619.out)) hb);replace BK625:=am_ (blk_below (g:=gb625) (o:= .cells #[.int .i64 t621, .int .i64 t622, .int .i64 t623] 33 (0,0)) ((a5_ BK625.out)) hb);replace BK630:=am_ (blk_below (g:=gb630) (o:= .cells #[.int .i64 t626, .int .i64 t627, .int .i64 t628] 33 (0,0)) ((a5_ BK630.out)) hb);replace HB:=am_ (below_step ((a13_ GE625.out GE630.out)) hb);(try clear hb);(try clear hb2);(try clear hk);(try clear hi);obtain⟨Ao236,co236,eo236⟩:=Kd.R_slice HO615.out;subst eo236;obtain⟨Ao237,co237,eo237⟩:=Kd.R_slice HO619.out;subst eo237)|(go_at_call 11;(with_reducible refine(laws_sameInts.calls kj26 _ _ t612 _ _ t616 true _ ?side1 ?side2 ?side3 ?side4 A212.out).mono ?_);(case side1=>exact(a12_ HO615.out));(case side2=>exact(Kd.R_reads' HO615.out).2.1);(case side3=>exact(a12_ HO619.out));(case side4=>exact(Kd.R_reads' HO619.out).2.1);rintro e w' ⟨rfl,⟨nd,rfl⟩⟩;have hcz238_0:w235.cell? ⟨gb625,0,none⟩=some (.int .i64 t621):=(blk_cell BK625.out 0).trans rfl;have hcz238_1:w235.cell? ⟨gb625,1,none⟩=some (.int .i64 t622):=(blk_cell BK625.out 1).trans rfl;have hcz238_2:w235.cell? ⟨gb625,2,none⟩=some (.int .i64 t623):=(blk_cell BK625.out 2).trans rfl;have hfz238_0:=blk_frozen BK625.out 0;have hfz238_1:=blk_frozen BK625.out 1;have hfz238_2:=blk_frozen BK625.out 2;have hcz239_0:w235.cell? ⟨gb630,0,none⟩=some (.int .i64 t626):=(blk_cell BK630.out 0).trans rfl;have hcz239_1:w235.cell? ⟨gb630,1,none⟩=some (.int .i64 t627):=(blk_cell BK630.out 1).trans rfl;have hcz239_2:w235.cell? ⟨gb630,2,none⟩=some (.int .i64 t628):=(blk_cell BK630.out 2).trans rfl;have hfz239_0:=blk_frozen BK630.out 0;have hfz239_1:=blk_frozen BK630.out 1;have hfz239_2:=blk_frozen BK630.out 2))
                go_ret
                exact⟨a8_,(a13_ GE625.out GE630.out)⟩
               ·rw[if_neg c218]at H
                have c218b0:(t638 == t640)=false:=by simpa using c218
                (try(have c218b1:decide (t638=t640)=false:=by simpa using c218))
                (try(have c218b2:(t638 == t640)=false:=by simpa using c218))
                (try(have c218b3:¬(t638=t640):=by simpa using c218))
                clear c218
                exact absurd ((Option.some.inj H).trans HR_.out) (by decide)
              ·rw[if_neg c217]at H
               have c217b0:(t632 == t634)=false:=beq_eq_false_iff_ne.mpr c217
               have c217b1:(t632 != t634)=true:=bne_iff_ne.mpr c217
               exact absurd ((Option.some.inj H).trans HR_.out) (by decide)
             ·rw[if_neg c216]at H
              have c216b0:(t633 == t635)=false:=by simpa using c216
              (try(have c216b1:decide (t633=t635)=false:=by simpa using c216))
              (try(have c216b2:(t633 == t635)=false:=by simpa using c216))
              (try(have c216b3:¬(t633=t635):=by simpa using c216))
              clear c216
              exact absurd ((Option.some.inj H).trans HR_.out) (by decide)
            ·rw[if_neg c215]at H
             have c215b0:(t621 == t626 && (t622 == t627 && (t623 == t628)))=false:=by simpa using c215
             (try(have c215b1:decide (t621=t626 && (t622 == t627 && (t623 == t628)))=false:=by simpa using c215))
             (try(have c215b2:(t621 == t626 && (t622 == t627 && (t623 == t628)))=false:=by simpa using c215))
             (try(have c215b3:¬(t621=t626 && (t622 == t627 && (t623 == t628))):=by simpa using c215))
             clear c215
             exact absurd ((Option.some.inj H).trans HR_.out) (by decide)
           ·rw[if_neg c214]at H
            have c214b0:(t624 == t629)=false:=by simpa using c214
            (try(have c214b1:decide (t624=t629)=false:=by simpa using c214))
            (try(have c214b2:(t624 == t629)=false:=by simpa using c214))
            (try(have c214b3:¬(t624=t629):=by simpa using c214))
            clear c214
            exact absurd ((Option.some.inj H).trans HR_.out) (by decide)
          ·replace c213:=Bool.eq_false_iff.mpr c213
           subst c213
           replace H:(some false)=some r:=by rw[if_neg (show ¬(false=true) by decide)]at H;exact H
           exact absurd ((Option.some.inj H).trans HR_.out) (by decide)
         ·rw[if_neg c211]at H
          have c211b0:(t613 == t617)=false:=by simpa using c211
          (try(have c211b1:decide (t613=t617)=false:=by simpa using c211))
          (try(have c211b2:(t613 == t617)=false:=by simpa using c211))
          (try(have c211b3:¬(t613=t617):=by simpa using c211))
          clear c211
          exact absurd ((Option.some.inj H).trans HR_.out) (by decide)
/-- THE ONE PURE STATEMENT of laws_FnChecksums: yours. -/
def laws_FnChecksums.Pure:Prop:= ∀(l0:List Int) (l1:List Int),l0.length≤maxLen→l0.length*1≤140737488351232→(∀x∈l0,(Lit.int .u8 x).wf=true)→l1.length≤maxLen→l1.length*1≤140737488351232→(∀x∈l1,(Lit.int .u8 x).wf=true)→∃k,laws_FnChecksums.f k l0 l1=some true
theorem laws_FnChecksums.walk (P:laws_FnChecksums.Pure) (a0:Option Addr) (len0 cap0:Nat) (z0:List Int) (a1:Option Addr) (len1 cap1:Nat) (z1:List Int) (w:World) (w0:(a0=none∧len0=0∧cap0=0∧z0 = [])∨∃x,a0=some x∧len0≤cap0∧cap0≤maxLen∧z0.length=cap0∧(∀i,i<z0.length→w.cell? (x.add i)=some (.int .u8 (z0.getD i 0)))∧∀n∈z0,(Lit.int .u8 n).wf=true) (y0:len0*1≤140737488351232) (w1:(a1=none∧len1=0∧cap1=0∧z1 = [])∨∃x,a1=some x∧len1≤cap1∧cap1≤maxLen∧z1.length=cap1∧(∀i,i<z1.length→w.cell? (x.add i)=some (.int .u8 (z1.getD i 0)))∧∀n∈z1,(Lit.int .u8 n).wf=true) (y1:len1*1≤140737488351232) (htab:DoorLib.Tab w) :
 Calls Tryd.prog 3 #[.slice a0 len0 cap0, .slice a1 len1 cap1] w fun e w'=>e = .returned (.bool true)∧Below w.heap.size w w':=by
 obtain⟨l0,rfl,hr0,hm0,hw0,hc0⟩:=ReadsInt.ofRowC w0
 obtain⟨l1,rfl,hr1,hm1,hw1,hc1⟩:=ReadsInt.ofRowC w1
 obtain⟨k,h⟩:=P l0 l1 hm0 y0 hw0 hm1 y1 hw1
 refine(laws_FnChecksums.calls k _ _ l0 _ _ l1 true w (Kd.C_of_reads (d:=(0:Int)) (h1:=fun _=>rfl) hr0) hc0 (Kd.C_of_reads (d:=(0:Int)) (h1:=fun _=>rfl) hr1) hc1 htab h rfl).mono ?_
 rintro e w' ⟨rfl,hd⟩
 exact⟨rfl,hd⟩

end Go.Proofs.YtpbffmjjhmllbaaDoor.QFnChecksums
